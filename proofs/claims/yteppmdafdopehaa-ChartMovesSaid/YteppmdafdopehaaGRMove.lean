/- racewayref15.Move, by hand, in the print's own form: from bound to bound. No conditions. -/
import Derived.Test.YteppmdafdopehaaP8
import Derived.Test.YteppmdafdopehaaP11
import Derived.Test.YteppmdafdopehaaP12
import Derived.Test.YteppmdafdopehaaGMove
import Derived.Deep.RegionHeld3
import Derived.Deep.DrawnRows
import Derived.IntWalk
namespace Go.Proofs.Yteppmdafdopehaa.P
open Go.RowKit Go.Proofs.YteppmdafdopehaaW.PrintWords Go.Proofs.YteppmdafdopehaaW.PrintLast Go.Proofs.YteppmdafdopehaaW.PrintMore
set_option linter.unusedVariables false
set_option linter.unusedSimpArgs false
attribute [local go_sem ↓] Go.wp_at_zero Go.wp_at_succ
theorem rmay_f (x : S26) : racewayref04_May.f x.f0 x.f1 = some (mayB x) := by
  unfold racewayref04_May.f mayB
  by_cases h1 : 0 ≤ x.f0 <;> by_cases h2 : x.f0 < x.f1 <;> simp [h1, h2]
def inQ (x : S26) (p : Int) : Bool := mayB x && (decide (x.f0 ≤ p) && decide (p < x.f1))
theorem rin_f (x : S26) (p : Int) : racewayref04_In.f x.f0 x.f1 p = some (inQ x p) := by
  unfold racewayref04_In.f inQ
  rw [rmay_f]
  cases mayB x <;> by_cases h2 : x.f0 ≤ p <;> simp [h2]
def putR (o : List S43) (lo hi s : Int) : List S43 := if 0 < o.length ∧ (lastP o).f1 = s then o.set (o.length - 1) ⟨⟨(lastP o).f0.f0, hi⟩, (lastP o).f1⟩ else o ++ [⟨⟨lo, hi⟩, s⟩]
def isQ (r : S26) (tt x was : Int) : Int := if inQ r x = true then tt else was
def rmGo (k : Nat) (a0 : Int) (l : List S43) (r : S26) (tt : Int) : List Int → List S43 → Bool → Option (List S43 × Bool)
  | x :: y :: bs, o, ch => (racewayref15_Of.f k a0 l x).bind fun was => rmGo k a0 l r tt (y :: bs) (putR o x y (isQ r tt x was)) (ch || (isQ r tt x was != was))
  | _, o, ch => some (o, ch)
theorem rmGo_mono (k : Nat) (a0 : Int) (l : List S43) (r : S26) (tt : Int) : ∀ (b : List Int) (o : List S43) (ch : Bool), LeO (rmGo k a0 l r tt b o ch) (rmGo (k + 1) a0 l r tt b o ch) := by
  intro b
  induction b with
  | nil => intro o ch; exact LeO.refl _
  | cons x b ih =>
    intro o ch
    cases b with
    | nil => exact LeO.refl _
    | cons y bs => exact LeO.bind (racewayref15_Of.mono _ _ _ k) (fun was => ih _ _)
def racewayref15_Move.f (k : Nat) (a0_0 : Int) (l0_1 : List S43) (a1_0 a1_1 a2 : Int) : Option (Int × List S43 × Int) :=
  (racewayref15_May.f k a0_0 l0_1).bind fun t => if t = true ∧ mayB ⟨a1_0, a1_1⟩ = true ∧ 1 ≤ a2 ∧ a2 ≤ 6 then
    (if l0_1.length ≤ 100000 then (racewayref04_Bounds.f k (⟨a1_0, a1_1⟩ :: l0_1.map (·.f0))).bind fun b => (if b.length ≤ 300000 then (rmGo k a0_0 l0_1 ⟨a1_0, a1_1⟩ a2 b [] false).bind fun x => some (moveEnd a0_0 x) else none) else none) else some (0, [], 2)
theorem racewayref15_Move.mono : ∀ a0 a1 a2 a3 a4 k, LeO (racewayref15_Move.f k a0 a1 a2 a3 a4) (racewayref15_Move.f (k + 1) a0 a1 a2 a3 a4) := by
  intro a0 a1 a2 a3 a4 k
  unfold racewayref15_Move.f
  refine LeO.bind (racewayref15_May.mono _ _ k) (fun t => LeO.ite (LeO.ite (LeO.bind (racewayref04_Bounds.mono _ k) (fun b => LeO.ite (LeO.bind (rmGo_mono k _ _ _ _ _ _ _) (fun x => LeO.refl _)) (LeO.refl _))) (LeO.refl _)) (LeO.refl _))
theorem rmGo_step (k : Nat) (a0 : Int) (l : List S43) (r : S26) (tt : Int) (b : List Int) (i : Nat) (h : i + 1 < b.length) (o : List S43) (ch : Bool) : rmGo k a0 l r tt (b.drop i) o ch = (racewayref15_Of.f k a0 l (rd b (i : Int))).bind fun was => rmGo k a0 l r tt (b.drop (i + 1)) (putR o (rd b (i : Int)) (rd b ((i : Int) + 1)) (isQ r tt (rd b (i : Int)) was)) (ch || (isQ r tt (rd b (i : Int)) was != was)) := by
  have e1 : rd b (i : Int) = b[i] := by unfold rd; simp [show i < b.length by omega]
  have e2 : rd b ((i : Int) + 1) = b[i + 1] := by
    unfold rd
    rw [show ((i : Int) + 1).toNat = i + 1 by omega]
    simp [h]
  rw [e1, e2, List.drop_eq_getElem_cons (show i < b.length by omega), List.drop_eq_getElem_cons (show i + 1 < b.length by omega), rmGo]
theorem rmGo_end (k : Nat) (a0 : Int) (l : List S43) (r : S26) (tt : Int) (b : List Int) (i : Nat) (h : b.length ≤ i + 1) (o : List S43) (ch : Bool) : rmGo k a0 l r tt (b.drop i) o ch = some (o, ch) := by
  rcases Nat.lt_or_ge i b.length with h1 | h1
  · rw [List.drop_eq_getElem_cons h1, List.drop_eq_nil_of_le (by omega), rmGo]
    simp
  · rw [List.drop_eq_nil_of_le h1, rmGo]
    simp
theorem R_one26 (W : World) (base : Nat) (ok : Nat → Prop) (a b : Int) (hb : base ≤ W.heap.size) (hok : ok W.heap.size) : Kd.R k26 26 (W.alloc (.cells #[.int .i64 a, .int .i64 b] 26)) base ok (.slice (some ⟨W.heap.size, 0, none⟩) 1 1) [⟨a, b⟩] := by
  refine ⟨fun k hk => ?_, [.int .i64 a, .int .i64 b], ⟨rfl, .inr ⟨W.heap.size, 1, #[.int .i64 a, .int .i64 b], rfl, hb, heap_alloc_new W _, Nat.le_refl _, by decide, rfl, rfl⟩⟩, ⟨rfl, fun j p hj => ?_⟩⟩
  · have : k = W.heap.size := by simpa [Value.ownBlock] using hk.symm
    rw [this]; exact hok
  · cases j with
    | zero =>
      have : (⟨a, b⟩ : S26) = p := by simpa using hj
      subst this
      exact k26_mkM _ _ _ (⟨a, b⟩ : S26)
    | succ j => simp at hj
set_option maxHeartbeats 8000000 in
set_option maxRecDepth 100000 in
theorem rmove_go (k : Nat) (a0 : Int) (A0 : Option Addr) (c0 : Nat) (l0 : List S43) (r : S26) (tt : Int) (b : List Int) (X : List S43 × Bool) (r1 : Int) (r2 : List S43) (r3 : Int) (w : World) (hr0 : Kd.C k43 w A0 l0.length l0) (hc0 : l0.length ≤ c0) (hmay : racewayref15_May.f k a0 l0 = some true) (hm : mayB r = true) (hs : 1 ≤ tt ∧ tt ≤ 6) (hl : l0.length ≤ 100000)
    (hb : racewayref04_Bounds.f k (r :: l0.map (·.f0)) = some b) (hbl : b.length ≤ 300000) (hX : rmGo k a0 l0 r tt b [] false = some X) (hR : moveEnd a0 X = (r1, r2, r3)) :
    Calls Try.prog 9 #[.agg #[.int .i64 a0, .slice A0 l0.length c0], .agg #[.int .i64 r.f0, .int .i64 r.f1], .int .i64 tt] w fun e w' => ∃ v1_ : Value, e = .returned (.tuple #[.agg #[.int .i64 r1, v1_], .int .i64 r3]) ∧ Kd.R k43 43 w' w.heap.size (fun _ => True) v1_ r2 ∧ Below w.heap.size w w' := by
  obtain ⟨W0, hW0⟩ : ∃ W0, W0 = ((w.alloc (.cells #[.int .i64 a0, .slice A0 l0.length c0] 24)).alloc (.cells #[.int .i64 r.f0, .int .i64 r.f1] 26)).alloc (.cells #[.int .i64 0, .slice none 0 0] 24) := ⟨_, rfl⟩
  have B0 := Aside0.mk (show Below w.heap.size w W0 by rw [hW0]; exact below_alloc (below_alloc (below_alloc (Below.refl _ _) _) _) _)
  have K1 := Aside0.mk (show W0.heap[w.heap.size]? = some (.cells #[.int .i64 a0, .slice A0 l0.length c0] 24 (0, 0)) by rw [hW0]; exact blk_alloc (blk_alloc (heap_alloc_new w _) _) _)
  have K2 := Aside0.mk (show W0.heap[w.heap.size + 1]? = some (.cells #[.int .i64 r.f0, .int .i64 r.f1] 26 (0, 0)) by rw [hW0]; refine blk_alloc ?_ _; have := heap_alloc_new (w.alloc (.cells #[.int .i64 a0, .slice A0 l0.length c0] 24)) (.cells #[.int .i64 r.f0, .int .i64 r.f1] 26); simpa using this)
  have K3 := Aside0.mk (show W0.heap[w.heap.size + 1 + 1]? = some (.cells #[.int .i64 0, .slice none 0 0] 24 (0, 0)) by rw [hW0]; have := heap_alloc_new ((w.alloc (.cells #[.int .i64 a0, .slice A0 l0.length c0] 24)).alloc (.cells #[.int .i64 r.f0, .int .i64 r.f1] 26)) (.cells #[.int .i64 0, .slice none 0 0] 24); simpa using this)
  have HR := Aside0.mk hr0
  have HC := Aside0.mk hc0
  have HL := Aside0.mk hl
  have HRES := Aside0.mk hR
  have HXX := Aside0.mk hX
  have HBL := Aside0.mk hbl
  have f1 : decide (tt < 1) = false := decide_eq_false (by omega)
  have f2 : decide (6 < tt) = false := decide_eq_false (by omega)
  have hcMay := fun W (h : Kd.C k43 W A0 l0.length l0) => racewayref15_May.calls k a0 A0 c0 l0 true W h hc0 hmay
  have hcm := fun W => racewayref04_May.calls r.f0 r.f1 true W (by rw [rmay_f, hm])
  have hcB := Aside0.mk (fun W A c (h : Kd.C k26 W A (r :: l0.map (·.f0)).length (r :: l0.map (·.f0))) (h2 : (r :: l0.map (·.f0)).length ≤ c) => racewayref04_Bounds.calls k A c _ b W h h2 hb)
  clear hr0 hc0 hmay hm hl hR hX hb hbl hs
  go_enter Try.func9, Try.ntmps9
  go_wp2_with fail
  rw [← hW0]
  have hsz0 : w.heap.size + 1 + 1 < W0.heap.size := by rw [hW0]; simp
  clear hW0
  (with_reducible refine (hcMay _ (Kd.C_below HR.out B0.out)).mono ?_)
  rintro e w1 ⟨rfl, hb1⟩
  have k1 : w1.cell? ⟨w.heap.size + 1, 0, none⟩ = some (.int .i64 r.f0) := (blk_cell (blk_below K2.out hb1) 0).trans rfl
  have k2 : w1.cell? ⟨w.heap.size + 1, 1, none⟩ = some (.int .i64 r.f1) := (blk_cell (blk_below K2.out hb1) 1).trans rfl
  have B1 := Aside0.mk hb1
  have z1 := hb1.size
  clear hb1
  go_wp2_with fail
  (with_reducible refine (hcm _).mono ?_)
  rintro e w2 ⟨rfl, hb2⟩
  have B2 := Aside0.mk (below_step B1.out hb2)
  have z2 := hb2.size
  have j1 : w2.cell? ⟨w.heap.size + 1, 0, none⟩ = some (.int .i64 r.f0) := (blk_cell (blk_below K2.out B2.out) 0).trans rfl
  have j2 : w2.cell? ⟨w.heap.size + 1, 1, none⟩ = some (.int .i64 r.f1) := (blk_cell (blk_below K2.out B2.out) 1).trans rfl
  clear hb2 k1 k2
  go_wp2
  obtain ⟨W1, hW1⟩ : ∃ W1, W1 = w2.alloc (.cells #[.int .i64 r.f0, .int .i64 r.f1] 26) := ⟨_, rfl⟩
  rw [← hW1]
  have X1 := Aside0.mk (show Below W0.heap.size W0 W1 by rw [hW1]; exact below_alloc B2.out _)
  have RL := Aside0.mk (show Kd.R k26 26 W1 W0.heap.size (fun _ => True) (.slice (some ⟨w2.heap.size, 0, none⟩) 1 1) [r] by rw [hW1]; exact R_one26 w2 W0.heap.size _ r.f0 r.f1 B2.out.size trivial)
  clear hW1 j1 j2 B1 z1
  go_loopg [8, 9] l0.length (fun kq v8 v9 w' => ∃ (i : Nat) (u : Value), v9 = .int .i64 i ∧ v8 = u ∧ i ≤ l0.length ∧ l0.length - i ≤ kq ∧ Aside0 (Kd.R k26 26 w' W0.heap.size (fun _ => True) u (r :: (l0.take i).map (·.f0))) ∧ Aside0 (Below W0.heap.size W0 w'))
  case atStart => exact ⟨0, _, rfl, rfl, Nat.zero_le _, by omega, RL, X1⟩
  case round =>
    obtain ⟨i, u, rfl, rfl, hi, hg, HRL, HX⟩ := hrel
    have k3 : wr.cell? ⟨w.heap.size, 0, none⟩ = some (.int .i64 a0) := (blk_cell (blk_below K1.out HX.out) 0).trans rfl
    have k4 : wr.cell? ⟨w.heap.size, 1, none⟩ = some (.slice A0 l0.length c0) := (blk_cell (blk_below K1.out HX.out) 1).trans rfl
    have z3 := HX.out.size
    by_cases hlt : i < l0.length
    · have hltz : (i : Int) < (l0.length : Int) := by omega
      have HLT := Aside0.mk hlt
      have hi9 : (i : Int) ≤ 100000 := by have := HL.out; omega
      obtain ⟨ad, hA, hx0, hx1, hx2⟩ := at_T43 (Kd.C_below (Kd.C_below HR.out B0.out) HX.out) (i : Int) (by omega) (by omega)
      subst hA
      simp only [Int.toNat_natCast] at hx0 hx1 hx2
      have hp : (l0.take (i + 1)).map (·.f0) = (l0.take i).map (·.f0) ++ [(rd_T43 l0 (i : Int)).f0] := by
        have e1 : rd_T43 l0 (i : Int) = l0[i] := by unfold rd_T43; simp [hlt]
        rw [List.take_succ_eq_append_getElem hlt, List.map_append, e1]; rfl
      generalize rd_T43 l0 (i : Int) = p at hx0 hx1 hx2 hp
      have HP := Aside0.mk hp
      clear hp
      have hln : (r :: (l0.take i).map (·.f0)).length ≤ 100001 := by have := HL.out; simp; omega
      go_wp2_with (at_builtin; refine Kd.R_append k26 (w0 := W0) W0.heap.size rfl _ _ 41 26 (.agg #[(.int .i64 0), (.int .i64 0)]) 16 rfl Try.underlying41 info26 rfl (by decide) (by omega) u8 (r :: (l0.take i).map (·.f0)) p.f0 [.int .i64 p.f0.f0, .int .i64 p.f0.f1] (fun _ => True) (fun _ => False) rfl rfl (k26_mkM _ _ _ p.f0) (fun _ h => h.elim) (fun _ _ => trivial) HRL.out HX.out HX.out.size (by omega) ?_; intro v5 w5 hO5 hX5 hg5 hat5; have O5 := Aside0.mk hO5; have X5 := Aside0.mk hX5; clear hO5 hX5 hg5 hat5)
      go_roundg (l0.length - (i + 1))
      case measure => omega
      case rel => exact ⟨i + 1, _, by go_num, rfl, HLT.out, by have := HLT.out; omega, ⟨by rw [HP.out]; exact O5.out⟩, X5⟩
    · have hltz : ¬ (i : Int) < (l0.length : Int) := by omega
      have hie : i = l0.length := by omega
      have hrl := HRL.out
      rw [hie, List.take_length] at hrl
      obtain ⟨A8, c8, rfl, hc8, hC8⟩ := Kd.R_reads hrl
      have HC8 := Aside0.mk hC8
      clear hie hrl hC8 HRL
      have hlen : (r :: l0.map (·.f0)).length = l0.length + 1 := by simp
      have hcb := hcB.out wr A8 c8 HC8.out hc8
      rw [hlen] at hcb
      clear hcB HC8
      go_wp2_with fail
      (with_reducible refine hcb.mono ?_)
      rintro e w3 ⟨vb, rfl, hRb, hb3⟩
      obtain ⟨Ab, cb, rfl, hcb2, hCb⟩ := Kd.R_reads hRb
      have HCB := Aside0.mk hCb
      have X3 := Aside0.mk (below_step HX.out hb3)
      have z4 := hb3.size
      clear hcb hRb hb3 hCb k3 k4 hc8 hlen
      have k1 : w3.cell? ⟨w.heap.size, 0, none⟩ = some (.int .i64 a0) := (blk_cell (blk_below K1.out X3.out) 0).trans rfl
      have k2 : w3.cell? ⟨w.heap.size, 1, none⟩ = some (.slice A0 l0.length c0) := (blk_cell (blk_below K1.out X3.out) 1).trans rfl
      go_wp2
      obtain ⟨W4, hW4⟩ : ∃ W4, W4 = w3.alloc (.cells #[.int .i64 a0, .slice none 0 0] 24) := ⟨_, rfl⟩
      rw [← hW4]
      obtain ⟨Bo, hBo⟩ : ∃ Bo, Bo = w3.heap.size := ⟨_, rfl⟩
      have X4 := Aside0.mk (show Below w3.heap.size w3 W4 by rw [hW4]; exact below_alloc (Below.refl _ _) _)
      have KO := Aside0.mk (show W4.heap[w3.heap.size]? = some (.cells #[.int .i64 a0, .slice none 0 0] 24 (0, 0)) by rw [hW4]; exact heap_alloc_new w3 _)
      rw [← hBo] at X4 KO ⊢
      have BO := Aside0.mk hBo
      have hBw : W0.heap.size ≤ Bo := by omega
      have hBl : Bo < W4.heap.size := blk_lt KO.out
      clear hW4 hBo k1 k2
      have HCE := Aside0.mk (fun (W : World) (h : Below Bo w3 W) => (show Below W0.heap.size W0 W from X3.out.trans (h.mono hBw)))
      have HCD := Aside0.mk (fun (W : World) (h : Below Bo w3 W) => (show Below w3.heap.size w3 W by rw [← BO.out]; exact h))
      have hbn : b.length ≤ 300000 := HBL.out
      go_loopg [12, 13] b.length (fun kq v12 v13 w' => ∃ (i : Nat) (o : List S43) (ch : Bool) (u : Value), v13 = .int .i64 i ∧ v12 = .bool ch ∧ i ≤ b.length ∧ b.length - i ≤ kq ∧ Aside0 (rmGo k a0 l0 r tt (b.drop i) o ch = some X) ∧ Aside0 (o.length ≤ i) ∧ Aside0 (w'.heap[Bo]? = some (.cells #[.int .i64 a0, u] 24 (0, 0))) ∧ Aside0 (Kd.R k43 43 w' Bo (fun k => k ≠ Bo) u o) ∧ Aside0 (Below Bo w3 w'))
      case atStart => exact ⟨0, [], false, _, rfl, rfl, Nat.zero_le _, by omega, HXX, ⟨by simp⟩, KO, ⟨Kd.R_nil _ _ _ _ _⟩, X4⟩
      case round =>
        obtain ⟨i, o, ch, u, rfl, rfl, hi, hg, HRS, HOL, KO, HRO, HX⟩ := hrel
        have HW := Aside0.mk (HCE.out _ HX.out)
        have hzr : Bo < wr.heap.size := blk_lt KO.out
        have hol : o.length ≤ 300000 := by have := HOL.out; omega
        have hi9 : (i : Int) ≤ 300000 := by omega
        by_cases hlt : i + 1 < b.length
        · have HLT := Aside0.mk hlt
          have hltz : (i : Int) + 1 < (b.length : Int) := by omega
          have hib : (i : Int) < (b.length : Int) := by omega
          have hi0 : (0 : Int) ≤ (i : Int) := by omega
          have k3 : wr.cell? ⟨w.heap.size, 0, none⟩ = some (.int .i64 a0) := (blk_cell (blk_below K1.out HW.out) 0).trans rfl
          have k4 : wr.cell? ⟨w.heap.size, 1, none⟩ = some (.slice A0 l0.length c0) := (blk_cell (blk_below K1.out HW.out) 1).trans rfl
          have k5 : wr.cell? ⟨w.heap.size + 1, 0, none⟩ = some (.int .i64 r.f0) := (blk_cell (blk_below K2.out HW.out) 0).trans rfl
          have k6 : wr.cell? ⟨w.heap.size + 1, 1, none⟩ = some (.int .i64 r.f1) := (blk_cell (blk_below K2.out HW.out) 1).trans rfl
          have HCBW := Aside0.mk (Kd.C_below HCB.out (HCD.out _ HX.out))
          obtain ⟨ab, hAb, hy0⟩ := Kd.at_int HCBW.out (i : Int) (by omega) (by omega)
          subst hAb
          obtain ⟨ab', hAb, hy1⟩ := Kd.at_int HCBW.out ((i : Int) + 1) (by omega) (by omega)
          cases hAb
          have hstep := HRS.out
          rw [rmGo_step k a0 l0 r tt b i hlt] at hstep
          obtain ⟨was, hwas, hstep⟩ := Option.bind_eq_some_iff.1 hstep
          have hcO := fun W (h : Kd.C k43 W A0 l0.length l0) => racewayref15_Of.calls k a0 A0 c0 l0 (rd b (i : Int)) was W h HC.out hwas
          have hcI := fun W => racewayref04_In.calls r.f0 r.f1 (rd b (i : Int)) _ W (rin_f r (rd b (i : Int)))
          obtain ⟨ab2, hAb, hyy0⟩ := Kd.at_int HCB.out (i : Int) (by omega) (by omega)
          cases hAb
          obtain ⟨ab3, hAb, hyy1⟩ := Kd.at_int HCB.out ((i : Int) + 1) (by omega) (by omega)
          cases hAb
          rw [show ((i : Int) + 1).toNat = i + 1 by omega] at hy1
          rw [Int.toNat_natCast] at hy0
          generalize rd b (i : Int) = x at hy0 hstep hcO hcI hyy0
          generalize rd b ((i : Int) + 1) = y at hy1 hstep hyy1
          rw [show ((i : Int) + 1).toNat = i + 1 by omega] at hyy1
          rw [Int.toNat_natCast] at hyy0
          have hae : ab.add (i + 1) = ⟨ab.block, ab.off + (i + 1), none⟩ := by unfold Addr.add; rw [if_neg (by omega)]
          rw [hae] at hyy1 hy1
          clear hae
          have HYW := Aside0.mk (fun (W : World) (h : Below Bo w3 W) => (show W.cell? (ab.add i) = some (.int .i64 x) ∧ W.cell? ⟨ab.block, ab.off + (i + 1), none⟩ = some (.int .i64 y) from ⟨pw_cell_below (HCD.out W h) hyy0, pw_cell_below (HCD.out W h) hyy1⟩))
          clear hyy0 hyy1
          have HST := Aside0.mk hstep
          have HCR := Aside0.mk (Kd.C_below (Kd.C_below HR.out B0.out) HW.out)
          clear hstep hwas
          go_wp2
          go_region_held3 (fun w' => w'.cell? ⟨w.heap.size, 0, none⟩ = some (.int .i64 a0) ∧ w'.cell? ⟨w.heap.size, 1, none⟩ = some (.slice A0 l0.length c0) ∧ w'.cell? (ab.add i) = some (.int .i64 x)) (first | go_keep | (go_split_ands; exact ⟨pw_cell_below hb5 ‹_›, pw_cell_below hb5 ‹_›, pw_cell_below hb5 ‹_›⟩)) ((go_at_call 28; (with_reducible refine (hcO _ (by (repeat (first | exact HCR.out | apply Kd.C_drew | apply Kd.C_drewN)))).mono ?_); rintro e w5 ⟨rfl, hb5⟩))
          have hb5' : Below wr.heap.size wr w5 := ⟨hb5.os, hb5.tape, hb5.output, hb5.size, hb5.block⟩
          have HB5 := Aside0.mk hb5'
          have hz5 := hb5'.size
          have m1 : w5.cell? ⟨w.heap.size + 1, 0, none⟩ = some (.int .i64 r.f0) := pw_cell_below hb5' k5
          have m2 : w5.cell? ⟨w.heap.size + 1, 1, none⟩ = some (.int .i64 r.f1) := pw_cell_below hb5' k6
          have m3 : w5.cell? (ab.add i) = some (.int .i64 x) := pw_cell_below hb5' hy0
          have HY1 := Aside0.mk hy1
          have HY0 := Aside0.mk hy0
          clear hb5 hb5' k3 k4 k5 k6 hy0 hy1
          have hisq : isQ r tt x was = if inQ r x = true then tt else was := rfl
          generalize inQ r x = q at hcI hisq
          generalize isQ r tt x was = isv at HST hisq
          have HIQ := Aside0.mk hisq
          clear hisq
          go_wp2
          go_region_held3 (fun w' => w'.cell? ⟨w.heap.size + 1, 0, none⟩ = some (.int .i64 r.f0) ∧ w'.cell? ⟨w.heap.size + 1, 1, none⟩ = some (.int .i64 r.f1) ∧ w'.cell? (ab.add i) = some (.int .i64 x)) (first | go_keep | (go_split_ands; exact ⟨pw_cell_below hb6 ‹_›, pw_cell_below hb6 ‹_›, pw_cell_below hb6 ‹_›⟩)) ((go_at_call 29; (with_reducible refine (hcI _).mono ?_); rintro e w6 ⟨rfl, hb6⟩))
          have hb6' : Below w5.heap.size w5 w6 := ⟨hb6.os, hb6.tape, hb6.output, hb6.size, hb6.block⟩
          have HB6 := Aside0.mk (below_step HB5.out hb6')
          clear hb6 hb6' hz5 m1 m2 m3
          go_upto_if 76 with (fail)
          go_cut [15] (fun v15 w' => v15 = .int .i64 isv ∧ Aside0 (w' = w6))
          case first =>
            cases q <;> (go_wp2; go_meet; exact ⟨by rw [HIQ.out]; rfl, ⟨rfl⟩⟩)
          case rest =>
            obtain ⟨rfl, hw7⟩ := hcut
            rewrite [hw7.out]
            clear hw7
            go_upto_region 18 with (fail)
            go_cut [12] (fun v12 w' => v12 = .bool (ch || (isv != was)) ∧ Aside0 (w' = w6))
            case first => cases ch <;> (go_wp2; go_meet; exact ⟨by simp, ⟨rfl⟩⟩)
            case rest =>
              obtain ⟨rfl, hw7⟩ := hcut
              rewrite [hw7.out]
              clear hw7
              have KO6 := Aside0.mk (blk_below KO.out HB6.out)
              have RO6 := Aside0.mk (Kd.R_below HRO.out HB6.out)
              have X6 := Aside0.mk (HX.out.trans (HB6.out.mono (Nat.le_of_lt hzr)))
              have z6 : Bo < w6.heap.size := blk_lt KO6.out
              obtain ⟨Au, cu, rfl⟩ := Kd.R_slice HRO.out
              have n0 : w6.cell? ⟨Bo, 1, none⟩ = some (.slice Au o.length cu) := (blk_cell KO6.out 1).trans rfl
              have n1 := blk_frozen KO6.out 1
              have n2 : w6.cell? ⟨ab.block, ab.off + (i + 1), none⟩ = some (.int .i64 y) := pw_cell_below HB6.out HY1.out
              have n3 : w6.cell? (ab.add i) = some (.int .i64 x) := pw_cell_below HB6.out HY0.out
              clear HB5 HY0 HY1
              have HZ9 := Aside0.mk HST.out
              by_cases h0 : 0 < o.length
              · have f5 : decide (0 < o.length) = true := decide_eq_true h0
                have f6 : decide ((0 : Int) < (o.length : Int)) = true := decide_eq_true (by omega)
                obtain ⟨g, cg, eg, hbg, hgl, _⟩ := Kd.R_form RO6.out h0
                cases eg
                obtain ⟨cs9, hcl9, hM9, hcc9, hfr9⟩ := Kd.R_elem RO6.out z43 ((o.length : Int) - 1) (by omega) (by omega)
                obtain rfl := k43_openM hM9
                rw [show ((o.length : Int) - 1).toNat = o.length - 1 by omega] at hcc9
                have e9 : w6.cell? ⟨g, (o.length - 1) * 3 + 2, none⟩ = some (.int .i64 (lastP o).f1) := hcc9 2 _ rfl
                clear hcl9 hM9 hcc9 hfr9
                by_cases hc : (lastP o).f1 = isv
                · have f7 : ((lastP o).f1 == isv) = true := beq_iff_eq.2 hc
                  have HPC := Aside0.mk (show 0 < o.length ∧ (lastP o).f1 = isv from ⟨h0, hc⟩)
                  clear hc
                  go_wp2
                  have HEL := Aside0.mk (Kd.R_elem (Kd.R_drew RO6.out) z43 ((o.length : Int) - 1) (by omega) (by omega))
                  have sv1 : IntKind.i64.wrap ((o.length : Int) - 1) = (o.length : Int) - 1 := IntWalk.i64_in _ (by omega)
                  have sv2 : (0 : Int) ≤ (o.length : Int) - 1 := by omega
                  have sv4 : (1 : Int) ≤ (o.length : Int) := by omega
                  have sv3 : ((o.length : Int) - 1).toNat = o.length - 1 := by omega
                  have sv5 : (o.length : Int) - 1 < (o.length : Int) := by omega
                  have sw1 : IntKind.i64.wrap ((i : Int) + 1) = (i : Int) + 1 := IntWalk.i64_in _ (by omega)
                  have sw2 : (0 : Int) ≤ (i : Int) + 1 := by omega
                  have sw3 : ((i : Int) + 1).toNat = i + 1 := by omega
                  have hgk : g ≠ Bo := RO6.out.1 g rfl
                  have hgk2 := hgk.symm
                  have RO7 := Aside0.mk (Kd.R_drew RO6.out)
                  have KO7 := Aside0.mk (blk_drew KO6.out)
                  have X7 := Aside0.mk (below_drew X6.out)
                  have hz7 : Bo < (w6.drew).heap.size := z6
                  clear RO6 KO6 X6 n0 n1 n2 n3 z6
                  refine start_ (n := 13) (S := fun w' => w'.cell? ⟨Bo, 1, none⟩ = some (.slice (some ⟨g, 0, none⟩) o.length cu) ∧ w'.cell? ⟨ab.block, ab.off + (i + 1), none⟩ = some (.int .i64 y)) (ds := [12]) #[false, false, false, false, false, false, false, false, false, false, false, false, false] (by kernel_rfl) rfl rfl ⟨(blk_cell KO7.out 1).trans rfl, (HYW.out _ X7.out).2⟩ (fun hHeld => ?_)
                  generalize w6.drew = w7 at RO7 KO7 X7 hz7 HEL hHeld ⊢
                  obtain ⟨cs_, hcl_, hM_, hcc_, hfr_⟩ := HEL.out
                  obtain rfl := k43_openM hM_
                  rw [sv3] at hcc_ hfr_ hcl_
                  have e1_ : w7.cell? ⟨g, (o.length - 1) * 3 + 1, none⟩ = some (.int .i64 (lastP o).f0.f1) := (hcc_ 1 _ rfl)
                  have e2_ : w7.frozen? ⟨g, (o.length - 1) * 3 + 1, none⟩ = false := hfr_ 1
                  have HCL := Aside0.mk hcl_
                  have HCC := Aside0.mk hcc_
                  clear hcl_ hM_ hcc_ hfr_ HEL
                  refine pure_ (i := 0) (N := some 100) (v := ?_) (a' := ?_) #[true, false, false, false, false, false, false, false, false, false, false, false, false] rfl rfl (by kernel_rfl) (fun _ _ _ h => h) (Or.inl ⟨by rfl, ?_⟩) ?_ ?_
                  rotate_left
                  · intro w'
                    go_simp
                    with_reducible rfl
                  rotate_left
                  · simp only [Act.put, List.setIfInBounds_toArray, List.set_cons_zero, List.set_cons_succ, i64_w, i32_w]
                    rfl
                  refine take_ (i := 1) (N := some 101) (v := ?_) (a' := ?_) #[true, true, false, false, false, false, false, false, false, false, false, false, false] rfl rfl (by kernel_rfl) (fun _ _ _ h => h) (Or.inl ⟨by rfl, ?_⟩) hHeld ?_ ?_
                  rotate_left
                  · rintro w' ⟨s0, s1⟩
                    go_simp
                    with_reducible rfl
                  rotate_left
                  · simp only [Act.put, List.setIfInBounds_toArray, List.set_cons_zero, List.set_cons_succ, i64_w, i32_w]
                    rfl
                  refine pure_ (i := 2) (N := some 102) (v := ?_) (a' := ?_) #[true, true, true, false, false, false, false, false, false, false, false, false, false] rfl rfl (by kernel_rfl) (fun _ _ _ h => h) (Or.inl ⟨by rfl, ?_⟩) ?_ ?_
                  rotate_left
                  · intro w'
                    go_simp
                    with_reducible rfl
                  rotate_left
                  · simp only [Act.put, List.setIfInBounds_toArray, List.set_cons_zero, List.set_cons_succ, i64_w, i32_w]
                    rfl
                  refine pure_ (i := 3) (N := some 103) (v := ?_) (a' := ?_) #[true, true, true, true, false, false, false, false, false, false, false, false, false] rfl rfl (by kernel_rfl) (fun _ _ _ h => h) (Or.inl ⟨by rfl, ?_⟩) ?_ ?_
                  rotate_left
                  · intro w'
                    go_simp
                    with_reducible rfl
                  rotate_left
                  · simp only [Act.put, List.setIfInBounds_toArray, List.set_cons_zero, List.set_cons_succ, i64_w, i32_w]
                    rfl
                  refine pure_ (i := 4) (N := some 104) (v := ?_) (a' := ?_) #[true, true, true, true, true, false, false, false, false, false, false, false, false] rfl rfl (by kernel_rfl) (fun _ _ _ h => h) (Or.inl ⟨by rfl, ?_⟩) ?_ ?_
                  rotate_left
                  · intro w'
                    go_simp
                    with_reducible rfl
                  rotate_left
                  · simp only [Act.put, List.setIfInBounds_toArray, List.set_cons_zero, List.set_cons_succ, i64_w, i32_w]
                    rfl
                  refine pure_ (i := 5) (N := some 105) (v := ?_) (a' := ?_) #[true, true, true, true, true, true, false, false, false, false, false, false, false] rfl rfl (by kernel_rfl) (fun _ _ _ h => h) (Or.inl ⟨by rfl, ?_⟩) ?_ ?_
                  rotate_left
                  · intro w'
                    go_simp
                    with_reducible rfl
                  rotate_left
                  · simp only [Act.put, List.setIfInBounds_toArray, List.set_cons_zero, List.set_cons_succ, i64_w, i32_w]
                    rfl
                  refine pure_ (i := 6) (N := some 106) (v := ?_) (a' := ?_) #[true, true, true, true, true, true, true, false, false, false, false, false, false] rfl rfl (by kernel_rfl) (fun _ _ _ h => h) (Or.inl ⟨by rfl, ?_⟩) ?_ ?_
                  rotate_left
                  · intro w'
                    go_simp
                    with_reducible rfl
                  rotate_left
                  · simp only [Act.put, List.setIfInBounds_toArray, List.set_cons_zero, List.set_cons_succ, i64_w, i32_w]
                    rfl
                  refine pure_ (i := 7) (N := some 107) (v := ?_) (a' := ?_) #[true, true, true, true, true, true, true, true, false, false, false, false, false] rfl rfl (by kernel_rfl) (fun _ _ _ h => h) (Or.inl ⟨by rfl, ?_⟩) ?_ ?_
                  rotate_left
                  · intro w'
                    go_simp
                    with_reducible rfl
                  rotate_left
                  · simp only [Act.put, List.setIfInBounds_toArray, List.set_cons_zero, List.set_cons_succ, i64_w, i32_w]
                    rfl
                  refine take_ (i := 8) (N := some 108) (v := ?_) (a' := ?_) #[true, true, true, true, true, true, true, true, true, false, false, false, false] rfl rfl (by kernel_rfl) (fun _ _ _ h => h) (Or.inl ⟨by rfl, ?_⟩) hHeld ?_ ?_
                  rotate_left
                  · rintro w' ⟨s0, s1⟩
                    go_simp
                    with_reducible rfl
                  rotate_left
                  · simp only [Act.put, List.setIfInBounds_toArray, List.set_cons_zero, List.set_cons_succ, i64_w, i32_w]
                    rfl
                  refine pure_ (i := 9) (N := some 109) (v := ?_) (a' := ?_) #[true, true, true, true, true, true, true, true, true, true, false, false, false] rfl rfl (by kernel_rfl) (fun _ _ _ h => h) (Or.inl ⟨by rfl, ?_⟩) ?_ ?_
                  rotate_left
                  · intro w'
                    go_simp
                    with_reducible rfl
                  rotate_left
                  · simp only [Act.put, List.setIfInBounds_toArray, List.set_cons_zero, List.set_cons_succ, i64_w, i32_w]
                    rfl
                  refine pure_ (i := 10) (N := some 110) (v := ?_) (a' := ?_) #[true, true, true, true, true, true, true, true, true, true, true, false, false] rfl rfl (by kernel_rfl) (fun _ _ _ h => h) (Or.inl ⟨by rfl, ?_⟩) ?_ ?_
                  rotate_left
                  · intro w'
                    go_simp
                    with_reducible rfl
                  rotate_left
                  · simp only [Act.put, List.setIfInBounds_toArray, List.set_cons_zero, List.set_cons_succ, i64_w, i32_w]
                    rfl
                  refine pure_ (i := 11) (N := some 111) (v := ?_) (a' := ?_) #[true, true, true, true, true, true, true, true, true, true, true, true, false] rfl rfl (by kernel_rfl) (fun _ _ _ h => h) (Or.inl ⟨by rfl, ?_⟩) ?_ ?_
                  rotate_left
                  · intro w'
                    go_simp
                    with_reducible rfl
                  rotate_left
                  · simp only [Act.put, List.setIfInBounds_toArray, List.set_cons_zero, List.set_cons_succ, i64_w, i32_w]
                    rfl
                  refine last_ (i := 12) (N := none) #[true, true, true, true, true, true, true, true, true, true, true, true, true] rfl rfl (by kernel_rfl) (by decide) (fun K hK => ?_)
                  refine skip_ (w1 := ?_) (by rfl) rfl ?_ ?_
                  rotate_left
                  · go_simp
                    rfl
                  refine hK.out _ _ ?_
                  clear hK K
                  refine done_ (by kernel_rfl) ?_
                  go_wp2
                  have hS := Kd.R_seg (okp := fun k => k ≠ Bo ∧ k ≠ g) RO7.out ((o.length : Int) - 1) sv2 sv5 (c := [.int .i64 (lastP o).f0.f0, .int .i64 (lastP o).f0.f1, .int .i64 (lastP o).f1]) (seg := [.int .i64 y]) (j := 1) (by simpa [sv3] using HCL.out) (by rw [sv3]; exact HCC.out) (show 2 ≤ 3 from by decide) (x' := ⟨⟨(lastP o).f0.f0, y⟩, (lastP o).f1⟩) (k43_mkM _ _ _ (⟨⟨(lastP o).f0.f0, y⟩, (lastP o).f1⟩ : S43)) (fun _ hk => hk)
                  rw [sv3, setCells_one] at hS
                  have HS := Aside0.mk hS.1
                  clear hS sv1 sv2 sv3 sv4 sv5 sw1 sw2 sw3
                  go_roundg (b.length - (i + 1))
                  case measure => have := HLT.out; omega
                  case rel =>
                    have h1 := HZ9.out
                    have e1 : putR o x y isv = o.set (o.length - 1) ⟨⟨(lastP o).f0.f0, y⟩, (lastP o).f1⟩ := by unfold putR; rw [if_pos HPC.out]
                    rw [e1] at h1
                    refine ⟨i + 1, _, (ch || (isv != was)), _, by go_num, rfl, by have := HLT.out; omega, by have := HLT.out; omega, ⟨h1⟩, ⟨by have := HOL.out; simp; omega⟩, ⟨blk_far (p := ⟨g, (o.length - 1) * 3 + 1, none⟩) KO7.out hgk2 _⟩, ⟨HS.out⟩, ⟨X7.out.setCell (p := ⟨g, (o.length - 1) * 3 + 1, none⟩) hbg _⟩⟩
                · have f7 : ((lastP o).f1 == isv) = false := beq_eq_false_iff_ne.2 hc
                  have HNC := Aside0.mk (show ¬ (0 < o.length ∧ (lastP o).f1 = isv) from fun e => hc e.2)
                  clear hc
                  go_wp2
                  have sw1 : IntKind.i64.wrap ((i : Int) + 1) = (i : Int) + 1 := IntWalk.i64_in _ (by omega)
                  have sw2 : (0 : Int) ≤ (i : Int) + 1 := by omega
                  have sw3 : ((i : Int) + 1).toNat = i + 1 := by omega
                  have RO7 := Aside0.mk (Kd.R_drew RO6.out)
                  have KO7 := Aside0.mk (blk_drew KO6.out)
                  have X7 := Aside0.mk (below_drew X6.out)
                  have hz7 : Bo < (w6.drew).heap.size := z6
                  clear RO6 KO6 X6 n0 n1 n2 n3 z6
                  refine start_ (n := 18) (S := fun w' => w'.cell? ⟨Bo, 1, none⟩ = some (.slice (some ⟨g, 0, none⟩) o.length cu) ∧ w'.cell? (ab.add i) = some (.int .i64 x) ∧ w'.cell? ⟨ab.block, ab.off + (i + 1), none⟩ = some (.int .i64 y)) (ds := [17]) #[false, false, false, false, false, false, false, false, false, false, false, false, false, false, false, false, false, false] (by kernel_rfl) rfl rfl ⟨(blk_cell KO7.out 1).trans rfl, (HYW.out _ X7.out).1, (HYW.out _ X7.out).2⟩ (fun hHeld => ?_)
                  generalize w6.drew = w7 at RO7 KO7 X7 hz7 hHeld ⊢
                  refine pure_ (i := 0) (N := some 112) (v := ?_) (a' := ?_) #[true, false, false, false, false, false, false, false, false, false, false, false, false, false, false, false, false, false] rfl rfl (by kernel_rfl) (fun _ _ _ h => h) (Or.inl ⟨by rfl, ?_⟩) ?_ ?_
                  rotate_left
                  · intro w'
                    go_simp
                    with_reducible rfl
                  rotate_left
                  · simp only [Act.put, List.setIfInBounds_toArray, List.set_cons_zero, List.set_cons_succ, i64_w, i32_w]
                    rfl
                  refine take_ (i := 1) (N := some 113) (v := ?_) (a' := ?_) #[true, true, false, false, false, false, false, false, false, false, false, false, false, false, false, false, false, false] rfl rfl (by kernel_rfl) (fun _ _ _ h => h) (Or.inl ⟨by rfl, ?_⟩) hHeld ?_ ?_
                  rotate_left
                  · rintro w' ⟨s0, s1, s2⟩
                    go_simp
                    with_reducible rfl
                  rotate_left
                  · simp only [Act.put, List.setIfInBounds_toArray, List.set_cons_zero, List.set_cons_succ, i64_w, i32_w]
                    rfl
                  refine pure_ (i := 2) (N := some 114) (v := ?_) (a' := ?_) #[true, true, true, false, false, false, false, false, false, false, false, false, false, false, false, false, false, false] rfl rfl (by kernel_rfl) (fun _ _ _ h => h) (Or.inl ⟨by rfl, ?_⟩) ?_ ?_
                  rotate_left
                  · intro w'
                    go_simp
                    with_reducible rfl
                  rotate_left
                  · simp only [Act.put, List.setIfInBounds_toArray, List.set_cons_zero, List.set_cons_succ, i64_w, i32_w]
                    rfl
                  refine pure_ (i := 3) (N := some 115) (v := ?_) (a' := ?_) #[true, true, true, true, false, false, false, false, false, false, false, false, false, false, false, false, false, false] rfl rfl (by kernel_rfl) (fun _ _ _ h => h) (Or.inl ⟨by rfl, ?_⟩) ?_ ?_
                  rotate_left
                  · intro w'
                    go_simp
                    with_reducible rfl
                  rotate_left
                  · simp only [Act.put, List.setIfInBounds_toArray, List.set_cons_zero, List.set_cons_succ, i64_w, i32_w]
                    rfl
                  refine pure_ (i := 4) (N := some 116) (v := ?_) (a' := ?_) #[true, true, true, true, true, false, false, false, false, false, false, false, false, false, false, false, false, false] rfl rfl (by kernel_rfl) (fun _ _ _ h => h) (Or.inl ⟨by rfl, ?_⟩) ?_ ?_
                  rotate_left
                  · intro w'
                    go_simp
                    with_reducible rfl
                  rotate_left
                  · simp only [Act.put, List.setIfInBounds_toArray, List.set_cons_zero, List.set_cons_succ, i64_w, i32_w]
                    rfl
                  refine take_ (i := 5) (N := some 117) (v := ?_) (a' := ?_) #[true, true, true, true, true, true, false, false, false, false, false, false, false, false, false, false, false, false] rfl rfl (by kernel_rfl) (fun _ _ _ h => h) (Or.inl ⟨by rfl, ?_⟩) hHeld ?_ ?_
                  rotate_left
                  · rintro w' ⟨s0, s1, s2⟩
                    go_simp
                    with_reducible rfl
                  rotate_left
                  · simp only [Act.put, List.setIfInBounds_toArray, List.set_cons_zero, List.set_cons_succ, i64_w, i32_w]
                    rfl
                  refine pure_ (i := 6) (N := some 118) (v := ?_) (a' := ?_) #[true, true, true, true, true, true, true, false, false, false, false, false, false, false, false, false, false, false] rfl rfl (by kernel_rfl) (fun _ _ _ h => h) (Or.inl ⟨by rfl, ?_⟩) ?_ ?_
                  rotate_left
                  · intro w'
                    go_simp
                    with_reducible rfl
                  rotate_left
                  · simp only [Act.put, List.setIfInBounds_toArray, List.set_cons_zero, List.set_cons_succ, i64_w, i32_w]
                    rfl
                  refine pure_ (i := 7) (N := some 119) (v := ?_) (a' := ?_) #[true, true, true, true, true, true, true, true, false, false, false, false, false, false, false, false, false, false] rfl rfl (by kernel_rfl) (fun _ _ _ h => h) (Or.inl ⟨by rfl, ?_⟩) ?_ ?_
                  rotate_left
                  · intro w'
                    go_simp
                    with_reducible rfl
                  rotate_left
                  · simp only [Act.put, List.setIfInBounds_toArray, List.set_cons_zero, List.set_cons_succ, i64_w, i32_w]
                    rfl
                  refine pure_ (i := 8) (N := some 120) (v := ?_) (a' := ?_) #[true, true, true, true, true, true, true, true, true, false, false, false, false, false, false, false, false, false] rfl rfl (by kernel_rfl) (fun _ _ _ h => h) (Or.inl ⟨by rfl, ?_⟩) ?_ ?_
                  rotate_left
                  · intro w'
                    go_simp
                    with_reducible rfl
                  rotate_left
                  · simp only [Act.put, List.setIfInBounds_toArray, List.set_cons_zero, List.set_cons_succ, i64_w, i32_w]
                    rfl
                  refine pure_ (i := 9) (N := some 121) (v := ?_) (a' := ?_) #[true, true, true, true, true, true, true, true, true, true, false, false, false, false, false, false, false, false] rfl rfl (by kernel_rfl) (fun _ _ _ h => h) (Or.inl ⟨by rfl, ?_⟩) ?_ ?_
                  rotate_left
                  · intro w'
                    go_simp
                    with_reducible rfl
                  rotate_left
                  · simp only [Act.put, List.setIfInBounds_toArray, List.set_cons_zero, List.set_cons_succ, i64_w, i32_w]
                    rfl
                  refine take_ (i := 10) (N := some 122) (v := ?_) (a' := ?_) #[true, true, true, true, true, true, true, true, true, true, true, false, false, false, false, false, false, false] rfl rfl (by kernel_rfl) (fun _ _ _ h => h) (Or.inl ⟨by rfl, ?_⟩) hHeld ?_ ?_
                  rotate_left
                  · rintro w' ⟨s0, s1, s2⟩
                    go_simp
                    with_reducible rfl
                  rotate_left
                  · simp only [Act.put, List.setIfInBounds_toArray, List.set_cons_zero, List.set_cons_succ, i64_w, i32_w]
                    rfl
                  refine pure_ (i := 11) (N := some 123) (v := ?_) (a' := ?_) #[true, true, true, true, true, true, true, true, true, true, true, true, false, false, false, false, false, false] rfl rfl (by kernel_rfl) (fun _ _ _ h => h) (Or.inl ⟨by rfl, ?_⟩) ?_ ?_
                  rotate_left
                  · intro w'
                    go_simp
                    with_reducible rfl
                  rotate_left
                  · simp only [Act.put, List.setIfInBounds_toArray, List.set_cons_zero, List.set_cons_succ, i64_w, i32_w]
                    rfl
                  refine pure_ (i := 12) (N := some 124) (v := ?_) (a' := ?_) #[true, true, true, true, true, true, true, true, true, true, true, true, true, false, false, false, false, false] rfl rfl (by kernel_rfl) (fun _ _ _ h => h) (Or.inl ⟨by rfl, ?_⟩) ?_ ?_
                  rotate_left
                  · intro w'
                    go_simp
                    with_reducible rfl
                  rotate_left
                  · simp only [Act.put, List.setIfInBounds_toArray, List.set_cons_zero, List.set_cons_succ, i64_w, i32_w]
                    rfl
                  refine pure_ (i := 13) (N := some 125) (v := ?_) (a' := ?_) #[true, true, true, true, true, true, true, true, true, true, true, true, true, true, false, false, false, false] rfl rfl (by kernel_rfl) (fun _ _ _ h => h) (Or.inl ⟨by rfl, ?_⟩) ?_ ?_
                  rotate_left
                  · intro w'
                    go_simp
                    with_reducible rfl
                  rotate_left
                  · simp only [Act.put, List.setIfInBounds_toArray, List.set_cons_zero, List.set_cons_succ, i64_w, i32_w]
                    rfl
                  refine one_ (i := 14) (N := some 126) #[true, true, true, true, true, true, true, true, true, true, true, true, true, true, true, false, false, false] rfl rfl (by kernel_rfl) (by decide) (fun K hK => ?_)
                  refine value_ (w1 := ?_) (v := ?_) (by rfl) rfl ?_ ?_
                  rotate_left 2
                  · go_simp
                    constructor
                    · rfl
                    · rfl
                  refine hK.out _ _ ⟨(blk_cell (blk_alloc KO7.out _) 1).trans rfl, (HYW.out _ (X7.out.alloc (by omega) _)).1, (HYW.out _ (X7.out.alloc (by omega) _)).2⟩ (fun hHeld => ?_)
                  clear hK K
                  refine norm_ (a' := ?_) ?_ ?_
                  rotate_left
                  · show Act.put _ (some 126) _ = _; simp only [Act.put, List.setIfInBounds_toArray, List.set_cons_zero, List.set_cons_succ, i64_w, i32_w]
                    rfl
                  refine one_ (i := 15) (N := some 127) #[true, true, true, true, true, true, true, true, true, true, true, true, true, true, true, true, false, false] rfl rfl (by kernel_rfl) (by decide) (fun K hK => ?_)
                  refine Kd.R_append_step k43 (w0 := w3) Bo (by rfl) (.tmp 113) (.tmp 126) 22 43 (.agg #[(.int .i64 0), (.int .i64 0), (.int .i64 0)]) 24 rfl Try.underlying22 info43 rfl (by decide) (by decide) (.slice (some ⟨g, 0, none⟩) o.length cu) o (⟨⟨x, y⟩, isv⟩ : S43) [.int .i64 x, .int .i64 y, .int .i64 isv] (fun k => k ≠ Bo) (fun _ => False) rfl rfl (k43_mkM _ _ _ (⟨⟨x, y⟩, isv⟩ : S43)) (fun _ h => h.elim) (fun k hk => by omega) RO7.out X7.out (by omega) (by omega) ?_
                  intro v8 w8 hO8 hX8 hg8 hat8
                  obtain ⟨A8_, c8_, rfl⟩ := Kd.R_slice hO8
                  simp only [List.length_append, List.length_singleton] at hO8
                  have KO8 := Aside0.mk (blk_grown KO7.out hg8 (fun e => RO7.out.1 Bo e.symm rfl))
                  have RO8 := Aside0.mk hO8
                  have X8 := Aside0.mk hX8
                  clear hO8 hX8 hg8 hat8
                  refine hK.out _ _ ⟨(blk_cell KO8.out 1).trans rfl, (HYW.out _ X8.out).1, (HYW.out _ X8.out).2⟩ (fun hHeld => ?_)
                  clear hK K
                  refine norm_ (a' := ?_) ?_ ?_
                  rotate_left
                  · show Act.put _ (some 127) _ = _; simp only [Act.put, List.setIfInBounds_toArray, List.set_cons_zero, List.set_cons_succ, i64_w, i32_w]
                    rfl
                  refine pure_ (i := 16) (N := some 128) (v := ?_) (a' := ?_) #[true, true, true, true, true, true, true, true, true, true, true, true, true, true, true, true, true, false] rfl rfl (by kernel_rfl) (fun _ _ _ h => h) (Or.inl ⟨by rfl, ?_⟩) ?_ ?_
                  rotate_left
                  · intro w'
                    go_simp
                    with_reducible rfl
                  rotate_left
                  · simp only [Act.put, List.setIfInBounds_toArray, List.set_cons_zero, List.set_cons_succ, i64_w, i32_w]
                    rfl
                  have t1 : w8.cell? ⟨Bo, 1, none⟩ = some (.slice (some ⟨g, 0, none⟩) o.length cu) := (blk_cell KO8.out 1).trans rfl
                  have t2 := blk_frozen KO8.out 1
                  refine last_ (i := 17) (N := none) #[true, true, true, true, true, true, true, true, true, true, true, true, true, true, true, true, true, true] rfl rfl (by kernel_rfl) (by decide) (fun K hK => ?_)
                  refine skip_ (w1 := ?_) (by rfl) rfl ?_ ?_
                  rotate_left
                  · go_simp
                    rfl
                  refine hK.out _ _ ?_
                  clear hK K
                  refine done_ (by kernel_rfl) ?_
                  go_wp2
                  go_roundg (b.length - (i + 1))
                  case measure => have := HLT.out; omega
                  case rel =>
                    have h1 := HZ9.out
                    have e1 : putR o x y isv = o ++ [⟨⟨x, y⟩, isv⟩] := by unfold putR; rw [if_neg HNC.out]
                    rw [e1] at h1
                    refine ⟨i + 1, o ++ [⟨⟨x, y⟩, isv⟩], (ch || (isv != was)), _, by go_num, rfl, by have := HLT.out; omega, by have := HLT.out; omega, ⟨h1⟩, ⟨by have := HOL.out; simp; omega⟩, ⟨blk_put (cs := #[.int .i64 a0, .slice (some ⟨g, 0, none⟩) o.length cu]) KO8.out 1 _ rfl⟩, ⟨Kd.R_far (p := ⟨Bo, 1, none⟩) RO8.out (fun _ hk => hk) _⟩, ⟨X8.out.setCell (p := ⟨Bo, 1, none⟩) (Nat.le_refl _) _⟩⟩
              · have f5 : decide (0 < o.length) = false := decide_eq_false h0
                have f6 : decide ((0 : Int) < (o.length : Int)) = false := decide_eq_false (by omega)
                have HNC := Aside0.mk (show ¬ (0 < o.length ∧ (lastP o).f1 = isv) from fun e => h0 e.1)
                go_wp2
                have sw1 : IntKind.i64.wrap ((i : Int) + 1) = (i : Int) + 1 := IntWalk.i64_in _ (by omega)
                have sw2 : (0 : Int) ≤ (i : Int) + 1 := by omega
                have sw3 : ((i : Int) + 1).toNat = i + 1 := by omega
                have RO7 := Aside0.mk (Kd.R_drew RO6.out)
                have KO7 := Aside0.mk (blk_drew KO6.out)
                have X7 := Aside0.mk (below_drew X6.out)
                have hz7 : Bo < (w6.drew).heap.size := z6
                clear RO6 KO6 X6 n0 n1 n2 n3 z6
                refine start_ (n := 18) (S := fun w' => w'.cell? ⟨Bo, 1, none⟩ = some (.slice Au o.length cu) ∧ w'.cell? (ab.add i) = some (.int .i64 x) ∧ w'.cell? ⟨ab.block, ab.off + (i + 1), none⟩ = some (.int .i64 y)) (ds := [17]) #[false, false, false, false, false, false, false, false, false, false, false, false, false, false, false, false, false, false] (by kernel_rfl) rfl rfl ⟨(blk_cell KO7.out 1).trans rfl, (HYW.out _ X7.out).1, (HYW.out _ X7.out).2⟩ (fun hHeld => ?_)
                generalize w6.drew = w7 at RO7 KO7 X7 hz7 hHeld ⊢
                refine pure_ (i := 0) (N := some 112) (v := ?_) (a' := ?_) #[true, false, false, false, false, false, false, false, false, false, false, false, false, false, false, false, false, false] rfl rfl (by kernel_rfl) (fun _ _ _ h => h) (Or.inl ⟨by rfl, ?_⟩) ?_ ?_
                rotate_left
                · intro w'
                  go_simp
                  with_reducible rfl
                rotate_left
                · simp only [Act.put, List.setIfInBounds_toArray, List.set_cons_zero, List.set_cons_succ, i64_w, i32_w]
                  rfl
                refine take_ (i := 1) (N := some 113) (v := ?_) (a' := ?_) #[true, true, false, false, false, false, false, false, false, false, false, false, false, false, false, false, false, false] rfl rfl (by kernel_rfl) (fun _ _ _ h => h) (Or.inl ⟨by rfl, ?_⟩) hHeld ?_ ?_
                rotate_left
                · rintro w' ⟨s0, s1, s2⟩
                  go_simp
                  with_reducible rfl
                rotate_left
                · simp only [Act.put, List.setIfInBounds_toArray, List.set_cons_zero, List.set_cons_succ, i64_w, i32_w]
                  rfl
                refine pure_ (i := 2) (N := some 114) (v := ?_) (a' := ?_) #[true, true, true, false, false, false, false, false, false, false, false, false, false, false, false, false, false, false] rfl rfl (by kernel_rfl) (fun _ _ _ h => h) (Or.inl ⟨by rfl, ?_⟩) ?_ ?_
                rotate_left
                · intro w'
                  go_simp
                  with_reducible rfl
                rotate_left
                · simp only [Act.put, List.setIfInBounds_toArray, List.set_cons_zero, List.set_cons_succ, i64_w, i32_w]
                  rfl
                refine pure_ (i := 3) (N := some 115) (v := ?_) (a' := ?_) #[true, true, true, true, false, false, false, false, false, false, false, false, false, false, false, false, false, false] rfl rfl (by kernel_rfl) (fun _ _ _ h => h) (Or.inl ⟨by rfl, ?_⟩) ?_ ?_
                rotate_left
                · intro w'
                  go_simp
                  with_reducible rfl
                rotate_left
                · simp only [Act.put, List.setIfInBounds_toArray, List.set_cons_zero, List.set_cons_succ, i64_w, i32_w]
                  rfl
                refine pure_ (i := 4) (N := some 116) (v := ?_) (a' := ?_) #[true, true, true, true, true, false, false, false, false, false, false, false, false, false, false, false, false, false] rfl rfl (by kernel_rfl) (fun _ _ _ h => h) (Or.inl ⟨by rfl, ?_⟩) ?_ ?_
                rotate_left
                · intro w'
                  go_simp
                  with_reducible rfl
                rotate_left
                · simp only [Act.put, List.setIfInBounds_toArray, List.set_cons_zero, List.set_cons_succ, i64_w, i32_w]
                  rfl
                refine take_ (i := 5) (N := some 117) (v := ?_) (a' := ?_) #[true, true, true, true, true, true, false, false, false, false, false, false, false, false, false, false, false, false] rfl rfl (by kernel_rfl) (fun _ _ _ h => h) (Or.inl ⟨by rfl, ?_⟩) hHeld ?_ ?_
                rotate_left
                · rintro w' ⟨s0, s1, s2⟩
                  go_simp
                  with_reducible rfl
                rotate_left
                · simp only [Act.put, List.setIfInBounds_toArray, List.set_cons_zero, List.set_cons_succ, i64_w, i32_w]
                  rfl
                refine pure_ (i := 6) (N := some 118) (v := ?_) (a' := ?_) #[true, true, true, true, true, true, true, false, false, false, false, false, false, false, false, false, false, false] rfl rfl (by kernel_rfl) (fun _ _ _ h => h) (Or.inl ⟨by rfl, ?_⟩) ?_ ?_
                rotate_left
                · intro w'
                  go_simp
                  with_reducible rfl
                rotate_left
                · simp only [Act.put, List.setIfInBounds_toArray, List.set_cons_zero, List.set_cons_succ, i64_w, i32_w]
                  rfl
                refine pure_ (i := 7) (N := some 119) (v := ?_) (a' := ?_) #[true, true, true, true, true, true, true, true, false, false, false, false, false, false, false, false, false, false] rfl rfl (by kernel_rfl) (fun _ _ _ h => h) (Or.inl ⟨by rfl, ?_⟩) ?_ ?_
                rotate_left
                · intro w'
                  go_simp
                  with_reducible rfl
                rotate_left
                · simp only [Act.put, List.setIfInBounds_toArray, List.set_cons_zero, List.set_cons_succ, i64_w, i32_w]
                  rfl
                refine pure_ (i := 8) (N := some 120) (v := ?_) (a' := ?_) #[true, true, true, true, true, true, true, true, true, false, false, false, false, false, false, false, false, false] rfl rfl (by kernel_rfl) (fun _ _ _ h => h) (Or.inl ⟨by rfl, ?_⟩) ?_ ?_
                rotate_left
                · intro w'
                  go_simp
                  with_reducible rfl
                rotate_left
                · simp only [Act.put, List.setIfInBounds_toArray, List.set_cons_zero, List.set_cons_succ, i64_w, i32_w]
                  rfl
                refine pure_ (i := 9) (N := some 121) (v := ?_) (a' := ?_) #[true, true, true, true, true, true, true, true, true, true, false, false, false, false, false, false, false, false] rfl rfl (by kernel_rfl) (fun _ _ _ h => h) (Or.inl ⟨by rfl, ?_⟩) ?_ ?_
                rotate_left
                · intro w'
                  go_simp
                  with_reducible rfl
                rotate_left
                · simp only [Act.put, List.setIfInBounds_toArray, List.set_cons_zero, List.set_cons_succ, i64_w, i32_w]
                  rfl
                refine take_ (i := 10) (N := some 122) (v := ?_) (a' := ?_) #[true, true, true, true, true, true, true, true, true, true, true, false, false, false, false, false, false, false] rfl rfl (by kernel_rfl) (fun _ _ _ h => h) (Or.inl ⟨by rfl, ?_⟩) hHeld ?_ ?_
                rotate_left
                · rintro w' ⟨s0, s1, s2⟩
                  go_simp
                  with_reducible rfl
                rotate_left
                · simp only [Act.put, List.setIfInBounds_toArray, List.set_cons_zero, List.set_cons_succ, i64_w, i32_w]
                  rfl
                refine pure_ (i := 11) (N := some 123) (v := ?_) (a' := ?_) #[true, true, true, true, true, true, true, true, true, true, true, true, false, false, false, false, false, false] rfl rfl (by kernel_rfl) (fun _ _ _ h => h) (Or.inl ⟨by rfl, ?_⟩) ?_ ?_
                rotate_left
                · intro w'
                  go_simp
                  with_reducible rfl
                rotate_left
                · simp only [Act.put, List.setIfInBounds_toArray, List.set_cons_zero, List.set_cons_succ, i64_w, i32_w]
                  rfl
                refine pure_ (i := 12) (N := some 124) (v := ?_) (a' := ?_) #[true, true, true, true, true, true, true, true, true, true, true, true, true, false, false, false, false, false] rfl rfl (by kernel_rfl) (fun _ _ _ h => h) (Or.inl ⟨by rfl, ?_⟩) ?_ ?_
                rotate_left
                · intro w'
                  go_simp
                  with_reducible rfl
                rotate_left
                · simp only [Act.put, List.setIfInBounds_toArray, List.set_cons_zero, List.set_cons_succ, i64_w, i32_w]
                  rfl
                refine pure_ (i := 13) (N := some 125) (v := ?_) (a' := ?_) #[true, true, true, true, true, true, true, true, true, true, true, true, true, true, false, false, false, false] rfl rfl (by kernel_rfl) (fun _ _ _ h => h) (Or.inl ⟨by rfl, ?_⟩) ?_ ?_
                rotate_left
                · intro w'
                  go_simp
                  with_reducible rfl
                rotate_left
                · simp only [Act.put, List.setIfInBounds_toArray, List.set_cons_zero, List.set_cons_succ, i64_w, i32_w]
                  rfl
                refine one_ (i := 14) (N := some 126) #[true, true, true, true, true, true, true, true, true, true, true, true, true, true, true, false, false, false] rfl rfl (by kernel_rfl) (by decide) (fun K hK => ?_)
                refine value_ (w1 := ?_) (v := ?_) (by rfl) rfl ?_ ?_
                rotate_left 2
                · go_simp
                  constructor
                  · rfl
                  · rfl
                refine hK.out _ _ ⟨(blk_cell (blk_alloc KO7.out _) 1).trans rfl, (HYW.out _ (X7.out.alloc (by omega) _)).1, (HYW.out _ (X7.out.alloc (by omega) _)).2⟩ (fun hHeld => ?_)
                clear hK K
                refine norm_ (a' := ?_) ?_ ?_
                rotate_left
                · show Act.put _ (some 126) _ = _; simp only [Act.put, List.setIfInBounds_toArray, List.set_cons_zero, List.set_cons_succ, i64_w, i32_w]
                  rfl
                refine one_ (i := 15) (N := some 127) #[true, true, true, true, true, true, true, true, true, true, true, true, true, true, true, true, false, false] rfl rfl (by kernel_rfl) (by decide) (fun K hK => ?_)
                refine Kd.R_append_step k43 (w0 := w3) Bo (by rfl) (.tmp 113) (.tmp 126) 22 43 (.agg #[(.int .i64 0), (.int .i64 0), (.int .i64 0)]) 24 rfl Try.underlying22 info43 rfl (by decide) (by decide) (.slice Au o.length cu) o (⟨⟨x, y⟩, isv⟩ : S43) [.int .i64 x, .int .i64 y, .int .i64 isv] (fun k => k ≠ Bo) (fun _ => False) rfl rfl (k43_mkM _ _ _ (⟨⟨x, y⟩, isv⟩ : S43)) (fun _ h => h.elim) (fun k hk => by omega) RO7.out X7.out (by omega) (by omega) ?_
                intro v8 w8 hO8 hX8 hg8 hat8
                obtain ⟨A8_, c8_, rfl⟩ := Kd.R_slice hO8
                simp only [List.length_append, List.length_singleton] at hO8
                have KO8 := Aside0.mk (blk_grown KO7.out hg8 (fun e => RO7.out.1 Bo e.symm rfl))
                have RO8 := Aside0.mk hO8
                have X8 := Aside0.mk hX8
                clear hO8 hX8 hg8 hat8
                refine hK.out _ _ ⟨(blk_cell KO8.out 1).trans rfl, (HYW.out _ X8.out).1, (HYW.out _ X8.out).2⟩ (fun hHeld => ?_)
                clear hK K
                refine norm_ (a' := ?_) ?_ ?_
                rotate_left
                · show Act.put _ (some 127) _ = _; simp only [Act.put, List.setIfInBounds_toArray, List.set_cons_zero, List.set_cons_succ, i64_w, i32_w]
                  rfl
                refine pure_ (i := 16) (N := some 128) (v := ?_) (a' := ?_) #[true, true, true, true, true, true, true, true, true, true, true, true, true, true, true, true, true, false] rfl rfl (by kernel_rfl) (fun _ _ _ h => h) (Or.inl ⟨by rfl, ?_⟩) ?_ ?_
                rotate_left
                · intro w'
                  go_simp
                  with_reducible rfl
                rotate_left
                · simp only [Act.put, List.setIfInBounds_toArray, List.set_cons_zero, List.set_cons_succ, i64_w, i32_w]
                  rfl
                have t1 : w8.cell? ⟨Bo, 1, none⟩ = some (.slice Au o.length cu) := (blk_cell KO8.out 1).trans rfl
                have t2 := blk_frozen KO8.out 1
                refine last_ (i := 17) (N := none) #[true, true, true, true, true, true, true, true, true, true, true, true, true, true, true, true, true, true] rfl rfl (by kernel_rfl) (by decide) (fun K hK => ?_)
                refine skip_ (w1 := ?_) (by rfl) rfl ?_ ?_
                rotate_left
                · go_simp
                  rfl
                refine hK.out _ _ ?_
                clear hK K
                refine done_ (by kernel_rfl) ?_
                go_wp2
                go_roundg (b.length - (i + 1))
                case measure => have := HLT.out; omega
                case rel =>
                  have h1 := HZ9.out
                  have e1 : putR o x y isv = o ++ [⟨⟨x, y⟩, isv⟩] := by unfold putR; rw [if_neg HNC.out]
                  rw [e1] at h1
                  refine ⟨i + 1, o ++ [⟨⟨x, y⟩, isv⟩], (ch || (isv != was)), _, by go_num, rfl, by have := HLT.out; omega, by have := HLT.out; omega, ⟨h1⟩, ⟨by have := HOL.out; simp; omega⟩, ⟨blk_put (cs := #[.int .i64 a0, .slice Au o.length cu]) KO8.out 1 _ rfl⟩, ⟨Kd.R_far (p := ⟨Bo, 1, none⟩) RO8.out (fun _ hk => hk) _⟩, ⟨X8.out.setCell (p := ⟨Bo, 1, none⟩) (Nat.le_refl _) _⟩⟩
        · have hltz : ¬ (i : Int) + 1 < (b.length : Int) := by omega
          have hxe := HRS.out
          rw [rmGo_end k a0 l0 r tt b i (by omega)] at hxe
          have hres := HRES.out
          rw [← Option.some.inj hxe] at hres
          clear hxe
          have hBB := HX.out
          have X9 := Aside0.mk (show Below w.heap.size w wr from B0.out.trans (HW.out.mono (by omega)))
          have K19 := blk_below K1.out HW.out
          have K39 := Aside0.mk (blk_below K3.out HW.out)
          have k5 : wr.cell? ⟨w.heap.size, 0, none⟩ = some (.int .i64 a0) := (blk_cell K19 0).trans rfl
          have k6 : wr.cell? ⟨w.heap.size + 1 + 1, 0, none⟩ = some (.int .i64 0) := (blk_cell K39.out 0).trans rfl
          have k7 : wr.cell? ⟨w.heap.size + 1 + 1, 1, none⟩ = some (.slice none 0 0) := (blk_cell K39.out 1).trans rfl
          have k8 := blk_frozen K39.out 0
          have k9 := blk_frozen K39.out 1
          obtain ⟨Au, cu, rfl⟩ := Kd.R_slice HRO.out
          have m0 : wr.cell? ⟨Bo, 0, none⟩ = some (.int .i64 a0) := (blk_cell KO.out 0).trans rfl
          have m1 : wr.cell? ⟨Bo, 1, none⟩ = some (.slice Au o.length cu) := (blk_cell KO.out 1).trans rfl
          have m2 := blk_frozen KO.out 0
          have hn1 : Bo ≠ w.heap.size + 1 + 1 := by omega
          have hn2 : w.heap.size + 1 + 1 ≠ Bo := by omega
          have R9 := Aside0.mk (show Kd.R k43 43 wr w.heap.size (fun k => k ≠ w.heap.size + 1 + 1 ∧ k ≠ Bo) (.slice Au o.length cu) o from Kd.R_lower (Kd.R_mono (Kd.R_bound HRO.out) (fun k hk => by have h1 := hk.1; have h2 := hk.2.1; omega)) (by omega))
          have hs2 : w.heap.size ≤ w.heap.size + 1 + 1 := by omega
          have hs3 : w.heap.size ≤ Bo := by omega
          clear K19 hBB
          cases ch with
          | false =>
            unfold moveEnd at hres
            simp only [if_true] at hres
            obtain ⟨rfl, rfl, rfl⟩ : a0 = r1 ∧ o = r2 ∧ 0 = r3 := by simpa using hres
            go_wp2
            refine bodyPost_ret (results_ct rfl _ _ (w.heap.size + 1 + 1) 24 #[.int .i64 a0, .slice Au o.length cu] (0, 0) _ rfl ?_ Try.underlying24 rfl (by kernel_rfl)) rfl ?_
            · refine blk_put (cs := #[.int .i64 a0, .slice none 0 0]) ?_ 1 _ rfl
              exact blk_put (cs := #[.int .i64 0, .slice none 0 0]) K39.out 0 _ rfl
            · refine ⟨_, rfl, ?_, (X9.out.setCell (p := ⟨w.heap.size + 1 + 1, 0, none⟩) hs2 _).setCell (p := ⟨w.heap.size + 1 + 1, 1, none⟩) hs2 _⟩
              exact Kd.R_mono (Kd.R_far (p := ⟨w.heap.size + 1 + 1, 1, none⟩) (Kd.R_far (p := ⟨w.heap.size + 1 + 1, 0, none⟩) R9.out (fun _ hk => hk.1) _) (fun _ hk => hk.1) _) (fun _ _ => trivial)
          | true =>
            unfold moveEnd at hres
            simp only [Bool.true_eq_false, if_false] at hres
            by_cases hm : a0 = 1099511627776
            · rw [if_pos hm] at hres
              obtain ⟨rfl, rfl, rfl⟩ : 0 = r1 ∧ [] = r2 ∧ 7 = r3 := by simpa using hres
              have hm2 : (a0 == 1099511627776) = true := beq_iff_eq.2 hm
              clear hm hres
              go_wp2
              refine bodyPost_ret (results_ct rfl _ _ (w.heap.size + 1 + 1) 24 #[.int .i64 0, .slice none 0 0] (0, 0) _ rfl ?_ Try.underlying24 rfl (by kernel_rfl)) rfl ?_
              · refine blk_put (cs := #[.int .i64 0, .slice none 0 0]) ?_ 1 _ rfl
                exact blk_put (cs := #[.int .i64 0, .slice none 0 0]) K39.out 0 _ rfl
              · exact ⟨_, rfl, Kd.R_nil _ _ _ _ _, (X9.out.setCell (p := ⟨w.heap.size + 1 + 1, 0, none⟩) hs2 _).setCell (p := ⟨w.heap.size + 1 + 1, 1, none⟩) hs2 _⟩
            · rw [if_neg hm] at hres
              obtain ⟨rfl, rfl, rfl⟩ : wrap64 (a0 + 1) = r1 ∧ o = r2 ∧ 0 = r3 := by simpa using hres
              have hm2 : (a0 == 1099511627776) = false := beq_eq_false_iff_ne.2 hm
              clear hm hres
              go_wp2
              refine bodyPost_ret (results_ct rfl _ _ (w.heap.size + 1 + 1) 24 #[.int .i64 (wrap64 (a0 + 1)), .slice Au o.length cu] (0, 0) _ rfl ?_ Try.underlying24 rfl (by kernel_rfl)) rfl ?_
              · refine blk_put (cs := #[.int .i64 (wrap64 (a0 + 1)), .slice none 0 0]) ?_ 1 _ rfl
                refine blk_put (cs := #[.int .i64 0, .slice none 0 0]) ?_ 0 _ rfl
                exact blk_far (p := ⟨Bo, 0, none⟩) K39.out hn2 _
              · refine ⟨_, rfl, ?_, ((X9.out.setCell (p := ⟨Bo, 0, none⟩) hs3 _).setCell (p := ⟨w.heap.size + 1 + 1, 0, none⟩) hs2 _).setCell (p := ⟨w.heap.size + 1 + 1, 1, none⟩) hs2 _⟩
                exact Kd.R_mono (Kd.R_far (p := ⟨w.heap.size + 1 + 1, 1, none⟩) (Kd.R_far (p := ⟨w.heap.size + 1 + 1, 0, none⟩) (Kd.R_far (p := ⟨Bo, 0, none⟩) R9.out (fun _ hk => hk.2) _) (fun _ hk => hk.1) _) (fun _ hk => hk.1) _) (fun _ _ => trivial)
set_option maxHeartbeats 4000000 in
theorem rmove_no (k : Nat) (a0 : Int) (A0 : Option Addr) (c0 : Nat) (l0 : List S43) (r : S26) (tt : Int) (t : Bool) (w : World) (hr0 : Kd.C k43 w A0 l0.length l0) (hc0 : l0.length ≤ c0) (hmay : racewayref15_May.f k a0 l0 = some t) (hn : ¬ (t = true ∧ mayB r = true ∧ 1 ≤ tt ∧ tt ≤ 6)) :
    Calls Try.prog 9 #[.agg #[.int .i64 a0, .slice A0 l0.length c0], .agg #[.int .i64 r.f0, .int .i64 r.f1], .int .i64 tt] w fun e w' => ∃ v1_ : Value, e = .returned (.tuple #[.agg #[.int .i64 0, v1_], .int .i64 2]) ∧ Kd.R k43 43 w' w.heap.size (fun _ => True) v1_ [] ∧ Below w.heap.size w w' := by
  obtain ⟨W0, hW0⟩ : ∃ W0, W0 = ((w.alloc (.cells #[.int .i64 a0, .slice A0 l0.length c0] 24)).alloc (.cells #[.int .i64 r.f0, .int .i64 r.f1] 26)).alloc (.cells #[.int .i64 0, .slice none 0 0] 24) := ⟨_, rfl⟩
  have B0 := Aside0.mk (show Below w.heap.size w W0 by rw [hW0]; exact below_alloc (below_alloc (below_alloc (Below.refl _ _) _) _) _)
  have K2 := Aside0.mk (show W0.heap[w.heap.size + 1]? = some (.cells #[.int .i64 r.f0, .int .i64 r.f1] 26 (0, 0)) by rw [hW0]; refine blk_alloc ?_ _; have := heap_alloc_new (w.alloc (.cells #[.int .i64 a0, .slice A0 l0.length c0] 24)) (.cells #[.int .i64 r.f0, .int .i64 r.f1] 26); simpa using this)
  have K3 := Aside0.mk (show W0.heap[w.heap.size + 1 + 1]? = some (.cells #[.int .i64 0, .slice none 0 0] 24 (0, 0)) by rw [hW0]; have := heap_alloc_new ((w.alloc (.cells #[.int .i64 a0, .slice A0 l0.length c0] 24)).alloc (.cells #[.int .i64 r.f0, .int .i64 r.f1] 26)) (.cells #[.int .i64 0, .slice none 0 0] 24); simpa using this)
  have HR := Aside0.mk hr0
  have HC := Aside0.mk hc0
  have hs2 : w.heap.size ≤ w.heap.size + 1 + 1 := by omega
  have hcMay := fun W (h : Kd.C k43 W A0 l0.length l0) => racewayref15_May.calls k a0 A0 c0 l0 t W h hc0 hmay
  have hcm := fun W => racewayref04_May.calls r.f0 r.f1 (mayB r) W (rmay_f r)
  clear hr0 hc0 hmay
  cases t with
  | false =>
    clear hn hcm
    go_enter Try.func9, Try.ntmps9
    go_wp2_with fail
    rw [← hW0]
    clear hW0
    (with_reducible refine (hcMay _ (Kd.C_below HR.out B0.out)).mono ?_)
    rintro e w1 ⟨rfl, hb1⟩
    have K31 := Aside0.mk (blk_below K3.out hb1)
    have B1 := Aside0.mk (B0.out.trans (hb1.mono B0.out.size))
    clear hb1
    have k7 : w1.cell? ⟨w.heap.size + 1 + 1, 0, none⟩ = some (.int .i64 0) := (blk_cell K31.out 0).trans rfl
    have k8 : w1.cell? ⟨w.heap.size + 1 + 1, 1, none⟩ = some (.slice none 0 0) := (blk_cell K31.out 1).trans rfl
    have k9 := blk_frozen K31.out 0
    have k10 := blk_frozen K31.out 1
    go_wp2
    refine bodyPost_ret (results_ct rfl _ _ (w.heap.size + 1 + 1) 24 #[.int .i64 0, .slice none 0 0] (0, 0) _ rfl ?_ Try.underlying24 rfl (by kernel_rfl)) rfl ?_
    · refine blk_put (cs := #[.int .i64 0, .slice none 0 0]) ?_ 1 _ rfl
      exact blk_put (cs := #[.int .i64 0, .slice none 0 0]) K31.out 0 _ rfl
    · exact ⟨_, rfl, Kd.R_nil _ _ _ _ _, (B1.out.setCell (p := ⟨w.heap.size + 1 + 1, 0, none⟩) hs2 _).setCell (p := ⟨w.heap.size + 1 + 1, 1, none⟩) hs2 _⟩
  | true =>
    cases hm : mayB r with
    | false =>
      rw [hm] at hcm
      clear hn hm
      go_enter Try.func9, Try.ntmps9
      go_wp2_with fail
      rw [← hW0]
      clear hW0
      (with_reducible refine (hcMay _ (Kd.C_below HR.out B0.out)).mono ?_)
      rintro e w1 ⟨rfl, hb1⟩
      have K31 := Aside0.mk (blk_below K3.out hb1)
      have B1 := Aside0.mk (B0.out.trans (hb1.mono B0.out.size))
      have k1 : w1.cell? ⟨w.heap.size + 1, 0, none⟩ = some (.int .i64 r.f0) := (blk_cell (blk_below K2.out hb1) 0).trans rfl
      have k2 : w1.cell? ⟨w.heap.size + 1, 1, none⟩ = some (.int .i64 r.f1) := (blk_cell (blk_below K2.out hb1) 1).trans rfl
      clear hb1
      go_wp2_with fail
      (with_reducible refine (hcm _).mono ?_)
      rintro e w2 ⟨rfl, hb2⟩
      have K32 := Aside0.mk (blk_below K31.out hb2)
      have B2 := Aside0.mk (B1.out.trans (hb2.mono B1.out.size))
      clear hb2 k1 k2
      have k7 : w2.cell? ⟨w.heap.size + 1 + 1, 0, none⟩ = some (.int .i64 0) := (blk_cell K32.out 0).trans rfl
      have k8 : w2.cell? ⟨w.heap.size + 1 + 1, 1, none⟩ = some (.slice none 0 0) := (blk_cell K32.out 1).trans rfl
      have k9 := blk_frozen K32.out 0
      have k10 := blk_frozen K32.out 1
      go_wp2
      refine bodyPost_ret (results_ct rfl _ _ (w.heap.size + 1 + 1) 24 #[.int .i64 0, .slice none 0 0] (0, 0) _ rfl ?_ Try.underlying24 rfl (by kernel_rfl)) rfl ?_
      · refine blk_put (cs := #[.int .i64 0, .slice none 0 0]) ?_ 1 _ rfl
        exact blk_put (cs := #[.int .i64 0, .slice none 0 0]) K32.out 0 _ rfl
      · exact ⟨_, rfl, Kd.R_nil _ _ _ _ _, (B2.out.setCell (p := ⟨w.heap.size + 1 + 1, 0, none⟩) hs2 _).setCell (p := ⟨w.heap.size + 1 + 1, 1, none⟩) hs2 _⟩
    | true =>
      rw [hm] at hcm
      have hnn : ¬ (1 ≤ tt ∧ tt ≤ 6) := fun h => hn ⟨rfl, hm, h⟩
      clear hn hm
      by_cases h1 : tt < 1
      · have f1 : decide (tt < 1) = true := decide_eq_true h1
        clear hnn
        go_enter Try.func9, Try.ntmps9
        go_wp2_with fail
        rw [← hW0]
        clear hW0
        (with_reducible refine (hcMay _ (Kd.C_below HR.out B0.out)).mono ?_)
        rintro e w1 ⟨rfl, hb1⟩
        have K31 := Aside0.mk (blk_below K3.out hb1)
        have B1 := Aside0.mk (B0.out.trans (hb1.mono B0.out.size))
        have k1 : w1.cell? ⟨w.heap.size + 1, 0, none⟩ = some (.int .i64 r.f0) := (blk_cell (blk_below K2.out hb1) 0).trans rfl
        have k2 : w1.cell? ⟨w.heap.size + 1, 1, none⟩ = some (.int .i64 r.f1) := (blk_cell (blk_below K2.out hb1) 1).trans rfl
        clear hb1
        go_wp2_with fail
        (with_reducible refine (hcm _).mono ?_)
        rintro e w2 ⟨rfl, hb2⟩
        have K32 := Aside0.mk (blk_below K31.out hb2)
        have B2 := Aside0.mk (B1.out.trans (hb2.mono B1.out.size))
        clear hb2 k1 k2
        have k7 : w2.cell? ⟨w.heap.size + 1 + 1, 0, none⟩ = some (.int .i64 0) := (blk_cell K32.out 0).trans rfl
        have k8 : w2.cell? ⟨w.heap.size + 1 + 1, 1, none⟩ = some (.slice none 0 0) := (blk_cell K32.out 1).trans rfl
        have k9 := blk_frozen K32.out 0
        have k10 := blk_frozen K32.out 1
        go_wp2
        refine bodyPost_ret (results_ct rfl _ _ (w.heap.size + 1 + 1) 24 #[.int .i64 0, .slice none 0 0] (0, 0) _ rfl ?_ Try.underlying24 rfl (by kernel_rfl)) rfl ?_
        · refine blk_put (cs := #[.int .i64 0, .slice none 0 0]) ?_ 1 _ rfl
          exact blk_put (cs := #[.int .i64 0, .slice none 0 0]) K32.out 0 _ rfl
        · exact ⟨_, rfl, Kd.R_nil _ _ _ _ _, (B2.out.setCell (p := ⟨w.heap.size + 1 + 1, 0, none⟩) hs2 _).setCell (p := ⟨w.heap.size + 1 + 1, 1, none⟩) hs2 _⟩
      · have f1 : decide (tt < 1) = false := decide_eq_false h1
        have f2 : decide (6 < tt) = true := decide_eq_true (by omega)
        clear hnn
        go_enter Try.func9, Try.ntmps9
        go_wp2_with fail
        rw [← hW0]
        clear hW0
        (with_reducible refine (hcMay _ (Kd.C_below HR.out B0.out)).mono ?_)
        rintro e w1 ⟨rfl, hb1⟩
        have K31 := Aside0.mk (blk_below K3.out hb1)
        have B1 := Aside0.mk (B0.out.trans (hb1.mono B0.out.size))
        have k1 : w1.cell? ⟨w.heap.size + 1, 0, none⟩ = some (.int .i64 r.f0) := (blk_cell (blk_below K2.out hb1) 0).trans rfl
        have k2 : w1.cell? ⟨w.heap.size + 1, 1, none⟩ = some (.int .i64 r.f1) := (blk_cell (blk_below K2.out hb1) 1).trans rfl
        clear hb1
        go_wp2_with fail
        (with_reducible refine (hcm _).mono ?_)
        rintro e w2 ⟨rfl, hb2⟩
        have K32 := Aside0.mk (blk_below K31.out hb2)
        have B2 := Aside0.mk (B1.out.trans (hb2.mono B1.out.size))
        clear hb2 k1 k2
        have k7 : w2.cell? ⟨w.heap.size + 1 + 1, 0, none⟩ = some (.int .i64 0) := (blk_cell K32.out 0).trans rfl
        have k8 : w2.cell? ⟨w.heap.size + 1 + 1, 1, none⟩ = some (.slice none 0 0) := (blk_cell K32.out 1).trans rfl
        have k9 := blk_frozen K32.out 0
        have k10 := blk_frozen K32.out 1
        go_wp2
        refine bodyPost_ret (results_ct rfl _ _ (w.heap.size + 1 + 1) 24 #[.int .i64 0, .slice none 0 0] (0, 0) _ rfl ?_ Try.underlying24 rfl (by kernel_rfl)) rfl ?_
        · refine blk_put (cs := #[.int .i64 0, .slice none 0 0]) ?_ 1 _ rfl
          exact blk_put (cs := #[.int .i64 0, .slice none 0 0]) K32.out 0 _ rfl
        · exact ⟨_, rfl, Kd.R_nil _ _ _ _ _, (B2.out.setCell (p := ⟨w.heap.size + 1 + 1, 0, none⟩) hs2 _).setCell (p := ⟨w.heap.size + 1 + 1, 1, none⟩) hs2 _⟩
theorem racewayref15_Move.calls (k : Nat) (a0_0 : Int) (A0_1 : Option Addr) (c0_1 : Nat) (l0_1 : List S43) (a1_0 a1_1 a2 : Int) (r1 : Int) (r2 : List S43) (r3 : Int) (w : World) (hr0_1 : Kd.C k43 w A0_1 l0_1.length l0_1) (hc0_1 : l0_1.length ≤ c0_1) (h : racewayref15_Move.f k a0_0 l0_1 a1_0 a1_1 a2 = some (r1, r2, r3)) :
    Calls Try.prog 9 #[.agg #[.int .i64 a0_0, .slice A0_1 l0_1.length c0_1], .agg #[.int .i64 a1_0, .int .i64 a1_1], .int .i64 a2] w fun e w' => ∃ v1_ : Value, e = .returned (.tuple #[.agg #[.int .i64 r1, v1_], .int .i64 r3]) ∧ Kd.R k43 43 w' w.heap.size (fun _ => True) v1_ r2 ∧ Below w.heap.size w w' := by
  unfold racewayref15_Move.f at h
  obtain ⟨t, ht, h⟩ := Option.bind_eq_some_iff.1 h
  by_cases hc : t = true ∧ mayB ⟨a1_0, a1_1⟩ = true ∧ 1 ≤ a2 ∧ a2 ≤ 6
  · rw [if_pos hc] at h
    by_cases hl : l0_1.length ≤ 100000
    · rw [if_pos hl] at h
      obtain ⟨b, hb, h⟩ := Option.bind_eq_some_iff.1 h
      by_cases hbl : b.length ≤ 300000
      · rw [if_pos hbl] at h
        obtain ⟨X, hX, h⟩ := Option.bind_eq_some_iff.1 h
        obtain ⟨rfl, hm, hs⟩ := hc
        exact rmove_go k a0_0 A0_1 c0_1 l0_1 ⟨a1_0, a1_1⟩ a2 b X r1 r2 r3 w hr0_1 hc0_1 ht hm hs hl hb hbl hX (Option.some.inj h)
      · rw [if_neg hbl] at h; cases h
    · rw [if_neg hl] at h; cases h
  · rw [if_neg hc] at h
    obtain ⟨rfl, rfl, rfl⟩ : 0 = r1 ∧ [] = r2 ∧ 2 = r3 := by simpa using h
    exact rmove_no k a0_0 A0_1 c0_1 l0_1 ⟨a1_0, a1_1⟩ a2 t w hr0_1 hc0_1 ht hc
end Go.Proofs.Yteppmdafdopehaa.P
