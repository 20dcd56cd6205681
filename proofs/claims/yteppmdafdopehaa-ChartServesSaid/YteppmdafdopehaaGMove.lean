/- chart.Move, by hand, in the print's own form: piece by piece, each parted where the range begins and ends. No conditions. -/
import Derived.Test.YteppmdafdopehaaP1
import Derived.Test.YteppmdafdopehaaP6
import Derived.Test.YteppmdafdopehaaP7
import Derived.Test.YteppmdafdopehaaGPut
import Derived.Deep.LoopGhost
namespace Go.Proofs.Yteppmdafdopehaa.P
open Go.RowKit Go.Proofs.YteppmdafdopehaaW.PrintWords Go.Proofs.YteppmdafdopehaaW.PrintLast Go.Proofs.YteppmdafdopehaaW.PrintMore
set_option linter.unusedVariables false
set_option linter.unusedSimpArgs false

def meetR (x r : S26) : S26 := if mayB x = true ∧ mayB r = true ∧ mayB ⟨mx x.f0 r.f0, mn x.f1 r.f1⟩ = true then ⟨mx x.f0 r.f0, mn x.f1 r.f1⟩ else z26
theorem meet_f (x r : S26) : place_Meet.f x.f0 x.f1 r.f0 r.f1 = some ((meetR x r).f0, (meetR x r).f1) := by
  unfold place_Meet.f meetR
  rw [may_f x, may_f r, may_f ⟨mx x.f0 r.f0, mn x.f1 r.f1⟩]
  simp only [Option.bind_some]
  cases mayB x <;> cases mayB r <;> cases mayB ⟨mx x.f0 r.f0, mn x.f1 r.f1⟩ <;> simp [z26]
attribute [local go_sem high] eqA26
/-- one piece -/
def zB (m : S26) : Bool := m.f0 == 0 && m.f1 == 0
def moveP (r : S26) (tt : Int) (p : S43) (o : List S43) : List S43 :=
  if zB (meetR p.f0 r) = true then putC o p.f0 p.f1 else putC (putC (putC o ⟨p.f0.f0, (meetR p.f0 r).f0⟩ p.f1) (meetR p.f0 r) tt) ⟨(meetR p.f0 r).f1, p.f0.f1⟩ p.f1
def movePc (r : S26) (tt : Int) (p : S43) : Bool := !zB (meetR p.f0 r) && (p.f1 != tt)
def moveGo (r : S26) (tt : Int) : List S43 → List S43 → Bool → List S43 × Bool
  | [], o, ch => (o, ch)
  | p :: l, o, ch => moveGo r tt l (moveP r tt p o) (ch || movePc r tt p)
def moveEnd (ep : Int) (x : List S43 × Bool) : Int × List S43 × Int := if x.2 = false then (ep, x.1, 0) else if ep = 1099511627776 then (0, [], 7) else (wrap64 (ep + 1), x.1, 0)
def shardB (n : Int) : Bool := decide (1 ≤ n) && decide (n ≤ 6)
theorem shard_f (n : Int) : chart_shard.f n = some (shardB n) := by
  unfold chart_shard.f shardB
  by_cases h1 : n ≥ 1 <;> simp [h1] <;> omega
def chart_Move.f (k : Nat) (a0_0 : Int) (l0_1 : List S43) (a1_0 a1_1 a2 : Int) : Option (Int × List S43 × Int) :=
  (chart_May.f k a0_0 l0_1).bind fun t => if t = true ∧ mayB ⟨a1_0, a1_1⟩ = true ∧ shardB a2 = true then (if l0_1.length ≤ 100000 then some (moveEnd a0_0 (moveGo ⟨a1_0, a1_1⟩ a2 l0_1 [] false)) else none) else some (0, [], 2)
theorem chart_Move.mono : ∀ a0 a1 a2 a3 a4 k, LeO (chart_Move.f k a0 a1 a2 a3 a4) (chart_Move.f (k + 1) a0 a1 a2 a3 a4) := by
  intro a0 a1 a2 a3 a4 k
  unfold chart_Move.f
  exact LeO.bind (chart_May.mono _ _ k) (fun x => LeO.refl _)
theorem moveGo_step (r : S26) (tt : Int) (l : List S43) (i : Nat) (h : i < l.length) (o : List S43) (ch : Bool) : moveGo r tt (l.drop i) o ch = moveGo r tt (l.drop (i + 1)) (moveP r tt (rd_T43 l (i : Int)) o) (ch || movePc r tt (rd_T43 l (i : Int))) := by
  have e : rd_T43 l (i : Int) = l[i] := by unfold rd_T43; simp [h]
  rw [List.drop_eq_getElem_cons h, moveGo, e]
theorem moveP_len (r : S26) (tt : Int) (p : S43) (o : List S43) : (moveP r tt p o).length ≤ o.length + 3 := by
  unfold moveP
  split
  · have := putC_len o p.f0 p.f1; omega
  · have h1 := putC_len o ⟨p.f0.f0, (meetR p.f0 r).f0⟩ p.f1
    have h2 := putC_len (putC o ⟨p.f0.f0, (meetR p.f0 r).f0⟩ p.f1) (meetR p.f0 r) tt
    have h3 := putC_len (putC (putC o ⟨p.f0.f0, (meetR p.f0 r).f0⟩ p.f1) (meetR p.f0 r) tt) ⟨(meetR p.f0 r).f1, p.f0.f1⟩ p.f1
    omega

set_option maxHeartbeats 4000000 in
set_option maxRecDepth 100000 in
theorem move_go (k : Nat) (a0 : Int) (A0 : Option Addr) (c0 : Nat) (l0 : List S43) (r : S26) (tt : Int) (r1 : Int) (r2 : List S43) (r3 : Int) (w : World) (hr0 : Kd.C k43 w A0 l0.length l0) (hc0 : l0.length ≤ c0) (hmay : chart_May.f k a0 l0 = some true) (hm : mayB r = true) (hs : shardB tt = true) (hl : l0.length ≤ 100000)
    (hR : moveEnd a0 (moveGo r tt l0 [] false) = (r1, r2, r3)) :
    Calls Try.prog 8 #[.agg #[.int .i64 a0, .slice A0 l0.length c0], .agg #[.int .i64 r.f0, .int .i64 r.f1], .int .i64 tt] w fun e w' => ∃ v1_ : Value, e = .returned (.tuple #[.agg #[.int .i64 r1, v1_], .int .i64 r3]) ∧ Kd.R k43 43 w' w.heap.size (fun _ => True) v1_ r2 ∧ Below w.heap.size w w' := by
  obtain ⟨W0, hW0⟩ : ∃ W0, W0 = ((w.alloc (.cells #[.int .i64 a0, .slice A0 l0.length c0] 24)).alloc (.cells #[.int .i64 r.f0, .int .i64 r.f1] 26)).alloc (.cells #[.int .i64 0, .slice none 0 0] 24) := ⟨_, rfl⟩
  have B0 := Aside0.mk (show Below w.heap.size w W0 by rw [hW0]; exact below_alloc (below_alloc (below_alloc (Below.refl _ _) _) _) _)
  have K1 := Aside0.mk (show W0.heap[w.heap.size]? = some (.cells #[.int .i64 a0, .slice A0 l0.length c0] 24 (0, 0)) by rw [hW0]; exact blk_alloc (blk_alloc (heap_alloc_new w _) _) _)
  have K2 := Aside0.mk (show W0.heap[w.heap.size + 1]? = some (.cells #[.int .i64 r.f0, .int .i64 r.f1] 26 (0, 0)) by rw [hW0]; refine blk_alloc ?_ _; have := heap_alloc_new (w.alloc (.cells #[.int .i64 a0, .slice A0 l0.length c0] 24)) (.cells #[.int .i64 r.f0, .int .i64 r.f1] 26); simpa using this)
  have K3 := Aside0.mk (show W0.heap[w.heap.size + 1 + 1]? = some (.cells #[.int .i64 0, .slice none 0 0] 24 (0, 0)) by rw [hW0]; have := heap_alloc_new ((w.alloc (.cells #[.int .i64 a0, .slice A0 l0.length c0] 24)).alloc (.cells #[.int .i64 r.f0, .int .i64 r.f1] 26)) (.cells #[.int .i64 0, .slice none 0 0] 24); simpa using this)
  have HR := Aside0.mk hr0
  have HC := Aside0.mk hc0
  have HL := Aside0.mk hl
  have HRES := Aside0.mk hR
  have hcMay := fun W (h : Kd.C k43 W A0 l0.length l0) => chart_May.calls k a0 A0 c0 l0 true W h hc0 hmay
  have hcm := fun W => place_May.calls r.f0 r.f1 true W (by rw [may_f, hm])
  have hcs := fun W => chart_shard.calls tt true W (by rw [shard_f, hs])
  clear hr0 hc0 hmay hm hs hl hR
  go_enter Try.func8, Try.ntmps8
  go_wp2_with fail
  rw [← hW0]
  have hsz0 : w.heap.size + 1 + 1 < W0.heap.size := by rw [hW0]; simp
  clear hW0
  (with_reducible refine (hcMay _ (Kd.C_below HR.out B0.out)).mono ?_)
  rintro e w1 ⟨rfl, hb1⟩
  have k1 : w1.cell? ⟨w.heap.size + 1, 0, none⟩ = some (.int .i64 r.f0) := (blk_cell (blk_below K2.out hb1) 0).trans rfl
  have k2 : w1.cell? ⟨w.heap.size + 1, 1, none⟩ = some (.int .i64 r.f1) := (blk_cell (blk_below K2.out hb1) 1).trans rfl
  have B1 := Aside0.mk hb1
  have z1 := hb1.size
  clear hb1
  go_wp2_with fail
  (with_reducible refine (hcm _).mono ?_)
  rintro e w2 ⟨rfl, hb2⟩
  have B2 := Aside0.mk (below_step B1.out hb2)
  have z2 := hb2.size
  clear hb2 k1 k2
  go_wp2_with fail
  (with_reducible refine (hcs _).mono ?_)
  rintro e w3' ⟨rfl, nd, rfl⟩
  generalize hw3 : w2.drewN nd = w3
  have B3 := Aside0.mk (show Below W0.heap.size W0 w3 by rw [← hw3]; exact pw_below_drewN B2.out nd)
  have z3 : W0.heap.size ≤ w3.heap.size := B3.out.size
  clear hw3 B1 B2 z1 z2
  have k1 : w3.cell? ⟨w.heap.size, 0, none⟩ = some (.int .i64 a0) := (blk_cell (blk_below K1.out B3.out) 0).trans rfl
  have k2 : w3.cell? ⟨w.heap.size, 1, none⟩ = some (.slice A0 l0.length c0) := (blk_cell (blk_below K1.out B3.out) 1).trans rfl
  have k3 : w.heap.size < w3.heap.size := by omega
  have k4 : w.heap.size ≠ w3.heap.size := by omega
  go_wp2
  obtain ⟨W1, hW1⟩ : ∃ W1, W1 = w3.alloc (.cells #[.int .i64 a0, .slice none 0 0] 24) := ⟨_, rfl⟩
  rw [← hW1]
  obtain ⟨Bo, hBo⟩ : ∃ Bo, Bo = w3.heap.size := ⟨_, rfl⟩
  have X1 := Aside0.mk (show Below w3.heap.size w3 W1 by rw [hW1]; exact below_alloc (Below.refl _ _) _)
  have KO := Aside0.mk (show W1.heap[w3.heap.size]? = some (.cells #[.int .i64 a0, .slice none 0 0] 24 (0, 0)) by rw [hW1]; exact heap_alloc_new w3 _)
  rw [← hBo] at X1 KO ⊢
  have BW := Aside0.mk (show Below W0.heap.size W0 w3 from B3.out)
  have BO := Aside0.mk hBo
  have hBw : W0.heap.size ≤ Bo := by omega
  have hBl : Bo < W1.heap.size := blk_lt KO.out
  clear hW1 hBo k1 k2 k3 k4
  -- what stays below the row
  have HCE := Aside0.mk (fun (W : World) (h : Below Bo w3 W) => (show Below W0.heap.size W0 W from B3.out.trans (h.mono hBw)))
  go_loopg [9, 35] l0.length (fun kq v9 v35 w' => ∃ (i : Nat) (o : List S43) (ch : Bool) (u : Value), v35 = .int .i64 i ∧ v9 = .bool ch ∧ i ≤ l0.length ∧ l0.length - i ≤ kq ∧ Aside0 (moveEnd a0 (moveGo r tt (l0.drop i) o ch) = (r1, r2, r3)) ∧ Aside0 (o.length ≤ 3 * i) ∧ Aside0 (w'.heap[Bo]? = some (.cells #[.int .i64 a0, u] 24 (0, 0))) ∧ Aside0 (Kd.R k43 43 w' Bo (fun k => k ≠ Bo) u o) ∧ Aside0 (Below Bo w3 w'))
  case atStart => exact ⟨0, [], false, _, rfl, rfl, Nat.zero_le _, by omega, HRES, ⟨by simp⟩, KO, ⟨Kd.R_nil _ _ _ _ _⟩, X1⟩
  case round =>
    obtain ⟨i, o, ch, u, rfl, rfl, hi, hg, HRS, HOL, KO, HRO, HX⟩ := hrel
    have HW := Aside0.mk (HCE.out _ HX.out)
    have hzr : Bo < wr.heap.size := blk_lt KO.out
    have hz1 : w.heap.size + 1 < wr.heap.size := by omega
    have hz2 : w.heap.size + 1 ≠ wr.heap.size := by omega
    have k3 : wr.cell? ⟨w.heap.size + 1, 0, none⟩ = some (.int .i64 r.f0) := (blk_cell (blk_below K2.out HW.out) 0).trans rfl
    have k4 : wr.cell? ⟨w.heap.size + 1, 1, none⟩ = some (.int .i64 r.f1) := (blk_cell (blk_below K2.out HW.out) 1).trans rfl
    by_cases hlt : i < l0.length
    · have hltz : (i : Int) < (l0.length : Int) := by omega
      have HLT := Aside0.mk hlt
      have hi9 : (i : Int) ≤ 100000 := by have := HL.out; omega
      obtain ⟨ad, hA, hx0, hx1, hx2⟩ := at_T43 (Kd.C_below (Kd.C_below HR.out B0.out) HW.out) (i : Int) (by omega) (by omega)
      subst hA
      simp only [Int.toNat_natCast] at hx0 hx1 hx2
      have hstep := HRS.out
      rw [moveGo_step r tt l0 i hlt] at hstep
      have HLP := Aside0.mk (moveP_len r tt (rd_T43 l0 (i : Int)) o)
      generalize hp : rd_T43 l0 (i : Int) = p at hx0 hx1 hx2 hstep HLP
      clear hp
      have hcM := fun W => place_Meet.calls p.f0.f0 p.f0.f1 r.f0 r.f1 _ _ W (meet_f p.f0 r)
      unfold moveP movePc at hstep
      unfold moveP at HLP
      generalize hmm : meetR p.f0 r = m at hstep hcM HLP
      clear hmm
      have HST := Aside0.mk hstep
      clear hstep
      have hol : o.length ≤ 300000 := by have := HOL.out; have := HL.out; omega
      have HPR := Aside0.mk (Kd.R_mono (ok' := fun k => k ≠ Bo ∧ k < wr.heap.size) (Kd.R_bound HRO.out) (fun k hk => ⟨hk.1, hk.2.2.1⟩))
      cases hzb : zB m with
      | true =>
        have HZB := Aside0.mk hzb
        have hzb2 : (m.f0 == 0 && m.f1 == 0) = true := hzb
        clear hzb
        go_wp2_with (first
          | (go_at_call 24; (with_reducible refine (hcM _).mono ?_); rintro e w5 ⟨rfl, hb5⟩; have B5 := Aside0.mk (below_step (below_alloc (Below.refl wr.heap.size wr) _) hb5); have HP := Aside0.mk (blk_below (g := wr.heap.size) (o := .cells #[.int .i64 p.f0.f0, .int .i64 p.f0.f1, .int .i64 p.f1] 43 (0, 0)) (heap_alloc_new wr _) hb5); have g0 : w5.cell? ⟨wr.heap.size, 0, none⟩ = some (.int .i64 p.f0.f0) := (blk_cell HP.out 0).trans rfl; have g1 : w5.cell? ⟨wr.heap.size, 1, none⟩ = some (.int .i64 p.f0.f1) := (blk_cell HP.out 1).trans rfl; have g2 : w5.cell? ⟨wr.heap.size, 2, none⟩ = some (.int .i64 p.f1) := (blk_cell HP.out 2).trans rfl; have gz := blk_lt HP.out; have gn := Nat.ne_of_lt gz; clear hb5)
          | (go_at_call 23; (with_reducible refine (put_calls Bo a0 p.f0 p.f1 o u Bo (fun k => k ≠ Bo) _ (blk_alloc (blk_below KO.out B5.out) _) (by simp; omega) (Nat.le_refl _) (Kd.R_alloc (Kd.R_below HRO.out B5.out) _) (fun k hk => by simp at hk; omega) (fun k hk => hk) (by omega)).mono ?_); rintro e w6 ⟨u6, rfl, hk6, hr6, hkp6, hx6⟩; have KO6 := Aside0.mk hk6; have RO6 := Aside0.mk hr6; have X6 := Aside0.mk (HX.out.trans (((B5.out.mono (Nat.le_of_lt hzr)).alloc (by omega) _).trans hx6)); clear hk6 hr6 hkp6 hx6))
        go_roundg (l0.length - (i + 1))
        case measure => omega
        case rel =>
          have h1 := HST.out
          have h2 := HLP.out
          simp only [HZB.out, if_true, Bool.not_true, Bool.false_and, Bool.or_false] at h1 h2
          have h3 : (putC o p.f0 p.f1).length ≤ 3 * (i + 1) := by have h4 := HOL.out; clear hol; omega
          exact ⟨i + 1, putC o p.f0 p.f1, ch, u6, by go_num, rfl, HLT.out, by have := HLT.out; omega, ⟨h1⟩, ⟨h3⟩, KO6, RO6, X6⟩
      | false =>
        have HZB := Aside0.mk hzb
        have hzb2 : (m.f0 == 0 && m.f1 == 0) = false := hzb
        clear hzb
        cases ch with
        | true =>
          go_wp2_with (first
            | (go_at_call 24; (with_reducible refine (hcM _).mono ?_); rintro e w5 ⟨rfl, hb5⟩; have B5 := Aside0.mk (below_step (below_alloc (Below.refl wr.heap.size wr) _) hb5); have HP := Aside0.mk (blk_below (g := wr.heap.size) (o := .cells #[.int .i64 p.f0.f0, .int .i64 p.f0.f1, .int .i64 p.f1] 43 (0, 0)) (heap_alloc_new wr _) hb5); have g0 : w5.cell? ⟨wr.heap.size, 0, none⟩ = some (.int .i64 p.f0.f0) := (blk_cell HP.out 0).trans rfl; have g1 : w5.cell? ⟨wr.heap.size, 1, none⟩ = some (.int .i64 p.f0.f1) := (blk_cell HP.out 1).trans rfl; have g2 : w5.cell? ⟨wr.heap.size, 2, none⟩ = some (.int .i64 p.f1) := (blk_cell HP.out 2).trans rfl; have gz := blk_lt HP.out; have gn := Nat.ne_of_lt gz; clear hb5)
            | (go_at_call 23; (with_reducible refine (put_calls Bo a0 ⟨p.f0.f0, m.f0⟩ p.f1 o u Bo (fun k => k ≠ Bo ∧ k ≠ wr.heap.size ∧ k ≠ w5.heap.size) _ (blk_alloc (blk_below KO.out B5.out) _) (by simp; omega) (Nat.le_refl _) (Kd.R_mono (Kd.R_alloc (Kd.R_below HPR.out B5.out) _) (fun k hk => ⟨hk.1, by omega, by omega⟩)) (fun k hk => by simp at hk; omega) (fun k hk => hk.1) (by omega)).mono ?_); rintro e w6 ⟨u6, rfl, hk6, hr6, hkp6, hx6⟩; have KO6 := Aside0.mk hk6; have RO6 := Aside0.mk hr6; have X6 := Aside0.mk (HX.out.trans (((B5.out.mono (Nat.le_of_lt hzr)).alloc (by omega) _).trans hx6)); have HP6 := Aside0.mk ((hkp6.2 wr.heap.size (by simp; omega) (by omega)).trans (blk_alloc HP.out _)); have HM6 := Aside0.mk ((hkp6.2 w5.heap.size (by simp) (by omega)).trans (heap_alloc_new w5 (.cells #[.int .i64 m.f0, .int .i64 m.f1] 26))); clear hk6 hr6 hx6; have hz6 := hkp6.1; clear hkp6; have q0 : w6.cell? ⟨wr.heap.size, 0, none⟩ = some (.int .i64 p.f0.f0) := (blk_cell HP6.out 0).trans rfl; have q1 : w6.cell? ⟨wr.heap.size, 1, none⟩ = some (.int .i64 p.f0.f1) := (blk_cell HP6.out 1).trans rfl; have q2 : w6.cell? ⟨wr.heap.size, 2, none⟩ = some (.int .i64 p.f1) := (blk_cell HP6.out 2).trans rfl; have q3 : w6.cell? ⟨w5.heap.size, 0, none⟩ = some (.int .i64 m.f0) := (blk_cell HM6.out 0).trans rfl; have q4 : w6.cell? ⟨w5.heap.size, 1, none⟩ = some (.int .i64 m.f1) := (blk_cell HM6.out 1).trans rfl)
            | (go_at_call 23; (with_reducible refine (put_calls Bo a0 m tt (putC o ⟨p.f0.f0, m.f0⟩ p.f1) u6 Bo (fun k => k ≠ Bo ∧ k ≠ wr.heap.size ∧ k ≠ w5.heap.size) _ KO6.out (by simp at hz6; omega) (Nat.le_refl _) RO6.out (fun k hk => by simp at hz6; omega) (fun k hk => hk.1) (by have := putC_len o ⟨p.f0.f0, m.f0⟩ p.f1; omega)).mono ?_); rintro e w7 ⟨u7, rfl, hk7, hr7, hkp7, hx7⟩; have KO7 := Aside0.mk hk7; have RO7 := Aside0.mk hr7; have X7 := Aside0.mk (X6.out.trans hx7); have HP7 := Aside0.mk ((hkp7.2 wr.heap.size (by simp at hz6; omega) (by omega)).trans HP6.out); have HM7 := Aside0.mk ((hkp7.2 w5.heap.size (by simp at hz6; omega) (by omega)).trans HM6.out); clear hk7 hr7 hx7; have hz7 := hkp7.1; clear hkp7; have t1 : w7.cell? ⟨wr.heap.size, 1, none⟩ = some (.int .i64 p.f0.f1) := (blk_cell HP7.out 1).trans rfl; have t2 : w7.cell? ⟨wr.heap.size, 2, none⟩ = some (.int .i64 p.f1) := (blk_cell HP7.out 2).trans rfl; have t4 : w7.cell? ⟨w5.heap.size, 1, none⟩ = some (.int .i64 m.f1) := (blk_cell HM7.out 1).trans rfl)
            | (go_at_call 23; (with_reducible refine (put_calls Bo a0 ⟨m.f1, p.f0.f1⟩ p.f1 (putC (putC o ⟨p.f0.f0, m.f0⟩ p.f1) m tt) u7 Bo (fun k => k ≠ Bo ∧ k ≠ wr.heap.size ∧ k ≠ w5.heap.size) _ KO7.out (by simp at hz6; omega) (Nat.le_refl _) RO7.out (fun k hk => by simp at hz6; omega) (fun k hk => hk.1) (by have := putC_len o ⟨p.f0.f0, m.f0⟩ p.f1; have := putC_len (putC o ⟨p.f0.f0, m.f0⟩ p.f1) m tt; omega)).mono ?_); rintro e w8 ⟨u8, rfl, hk8, hr8, hkp8, hx8⟩; have KO8 := Aside0.mk hk8; have RO8 := Aside0.mk (Kd.R_mono (ok' := fun k => k ≠ Bo) hr8 (fun k hk => hk.1)); have X8 := Aside0.mk (X7.out.trans hx8); clear hk8 hr8 hx8 hkp8))
          go_roundg (l0.length - (i + 1))
          case measure => omega
          case rel =>
            have h1 := HST.out
            have h2 := HLP.out
            simp only [HZB.out, Bool.false_eq_true, if_false, Bool.not_false, Bool.true_and, Bool.false_or, Bool.true_or, Bool.or_false, Bool.or_true] at h1 h2
            have h3 : (putC (putC (putC o ⟨p.f0.f0, m.f0⟩ p.f1) m tt) ⟨m.f1, p.f0.f1⟩ p.f1).length ≤ 3 * (i + 1) := by have h4 := HOL.out; clear hol; omega
            exact ⟨i + 1, _, _, u8, by go_num, rfl, HLT.out, by have := HLT.out; omega, ⟨h1⟩, ⟨h3⟩, KO8, RO8, X8⟩
        | false =>
          generalize hch : (p.f1 != tt) = nq at HST
          go_wp2_with (first
            | (go_at_call 24; (with_reducible refine (hcM _).mono ?_); rintro e w5 ⟨rfl, hb5⟩; have B5 := Aside0.mk (below_step (below_alloc (Below.refl wr.heap.size wr) _) hb5); have HP := Aside0.mk (blk_below (g := wr.heap.size) (o := .cells #[.int .i64 p.f0.f0, .int .i64 p.f0.f1, .int .i64 p.f1] 43 (0, 0)) (heap_alloc_new wr _) hb5); have g0 : w5.cell? ⟨wr.heap.size, 0, none⟩ = some (.int .i64 p.f0.f0) := (blk_cell HP.out 0).trans rfl; have g1 : w5.cell? ⟨wr.heap.size, 1, none⟩ = some (.int .i64 p.f0.f1) := (blk_cell HP.out 1).trans rfl; have g2 : w5.cell? ⟨wr.heap.size, 2, none⟩ = some (.int .i64 p.f1) := (blk_cell HP.out 2).trans rfl; have gz := blk_lt HP.out; have gn := Nat.ne_of_lt gz; clear hb5)
            | (go_at_call 23; (with_reducible refine (put_calls Bo a0 ⟨p.f0.f0, m.f0⟩ p.f1 o u Bo (fun k => k ≠ Bo ∧ k ≠ wr.heap.size ∧ k ≠ w5.heap.size) _ (blk_alloc (blk_below KO.out B5.out) _) (by simp; omega) (Nat.le_refl _) (Kd.R_mono (Kd.R_alloc (Kd.R_below HPR.out B5.out) _) (fun k hk => ⟨hk.1, by omega, by omega⟩)) (fun k hk => by simp at hk; omega) (fun k hk => hk.1) (by omega)).mono ?_); rintro e w6 ⟨u6, rfl, hk6, hr6, hkp6, hx6⟩; have KO6 := Aside0.mk hk6; have RO6 := Aside0.mk hr6; have X6 := Aside0.mk (HX.out.trans (((B5.out.mono (Nat.le_of_lt hzr)).alloc (by omega) _).trans hx6)); have HP6 := Aside0.mk ((hkp6.2 wr.heap.size (by simp; omega) (by omega)).trans (blk_alloc HP.out _)); have HM6 := Aside0.mk ((hkp6.2 w5.heap.size (by simp) (by omega)).trans (heap_alloc_new w5 (.cells #[.int .i64 m.f0, .int .i64 m.f1] 26))); clear hk6 hr6 hx6; have hz6 := hkp6.1; clear hkp6; have q0 : w6.cell? ⟨wr.heap.size, 0, none⟩ = some (.int .i64 p.f0.f0) := (blk_cell HP6.out 0).trans rfl; have q1 : w6.cell? ⟨wr.heap.size, 1, none⟩ = some (.int .i64 p.f0.f1) := (blk_cell HP6.out 1).trans rfl; have q2 : w6.cell? ⟨wr.heap.size, 2, none⟩ = some (.int .i64 p.f1) := (blk_cell HP6.out 2).trans rfl; have q3 : w6.cell? ⟨w5.heap.size, 0, none⟩ = some (.int .i64 m.f0) := (blk_cell HM6.out 0).trans rfl; have q4 : w6.cell? ⟨w5.heap.size, 1, none⟩ = some (.int .i64 m.f1) := (blk_cell HM6.out 1).trans rfl)
            | (go_at_call 23; (with_reducible refine (put_calls Bo a0 m tt (putC o ⟨p.f0.f0, m.f0⟩ p.f1) u6 Bo (fun k => k ≠ Bo ∧ k ≠ wr.heap.size ∧ k ≠ w5.heap.size) _ KO6.out (by simp at hz6; omega) (Nat.le_refl _) RO6.out (fun k hk => by simp at hz6; omega) (fun k hk => hk.1) (by have := putC_len o ⟨p.f0.f0, m.f0⟩ p.f1; omega)).mono ?_); rintro e w7 ⟨u7, rfl, hk7, hr7, hkp7, hx7⟩; have KO7 := Aside0.mk hk7; have RO7 := Aside0.mk hr7; have X7 := Aside0.mk (X6.out.trans hx7); have HP7 := Aside0.mk ((hkp7.2 wr.heap.size (by simp at hz6; omega) (by omega)).trans HP6.out); have HM7 := Aside0.mk ((hkp7.2 w5.heap.size (by simp at hz6; omega) (by omega)).trans HM6.out); clear hk7 hr7 hx7; have hz7 := hkp7.1; clear hkp7; have t1 : w7.cell? ⟨wr.heap.size, 1, none⟩ = some (.int .i64 p.f0.f1) := (blk_cell HP7.out 1).trans rfl; have t2 : w7.cell? ⟨wr.heap.size, 2, none⟩ = some (.int .i64 p.f1) := (blk_cell HP7.out 2).trans rfl; have t4 : w7.cell? ⟨w5.heap.size, 1, none⟩ = some (.int .i64 m.f1) := (blk_cell HM7.out 1).trans rfl)
            | (go_at_call 23; (with_reducible refine (put_calls Bo a0 ⟨m.f1, p.f0.f1⟩ p.f1 (putC (putC o ⟨p.f0.f0, m.f0⟩ p.f1) m tt) u7 Bo (fun k => k ≠ Bo ∧ k ≠ wr.heap.size ∧ k ≠ w5.heap.size) _ KO7.out (by simp at hz6; omega) (Nat.le_refl _) RO7.out (fun k hk => by simp at hz6; omega) (fun k hk => hk.1) (by have := putC_len o ⟨p.f0.f0, m.f0⟩ p.f1; have := putC_len (putC o ⟨p.f0.f0, m.f0⟩ p.f1) m tt; omega)).mono ?_); rintro e w8 ⟨u8, rfl, hk8, hr8, hkp8, hx8⟩; have KO8 := Aside0.mk hk8; have RO8 := Aside0.mk (Kd.R_mono (ok' := fun k => k ≠ Bo) hr8 (fun k hk => hk.1)); have X8 := Aside0.mk (X7.out.trans hx8); clear hk8 hr8 hx8 hkp8))
          go_roundg (l0.length - (i + 1))
          case measure => omega
          case rel =>
            have h1 := HST.out
            have h2 := HLP.out
            simp only [HZB.out, Bool.false_eq_true, if_false, Bool.not_false, Bool.true_and, Bool.false_or, Bool.true_or, Bool.or_false, Bool.or_true] at h1 h2
            have h3 : (putC (putC (putC o ⟨p.f0.f0, m.f0⟩ p.f1) m tt) ⟨m.f1, p.f0.f1⟩ p.f1).length ≤ 3 * (i + 1) := by have h4 := HOL.out; clear hol; omega
            exact ⟨i + 1, _, _, u8, by go_num, rfl, HLT.out, by have := HLT.out; omega, ⟨h1⟩, ⟨h3⟩, KO8, RO8, X8⟩
    · have hltz : ¬ (i : Int) < (l0.length : Int) := by omega
      have hie : i = l0.length := by omega
      have hres := HRS.out
      rw [hie, List.drop_length, moveGo] at hres
      clear hie
      have hBB := HX.out
      have X9 := Aside0.mk (show Below w.heap.size w wr from B0.out.trans (HW.out.mono (by omega)))
      have K19 := blk_below K1.out HW.out
      have K39 := Aside0.mk (blk_below K3.out HW.out)
      have k5 : wr.cell? ⟨w.heap.size, 0, none⟩ = some (.int .i64 a0) := (blk_cell K19 0).trans rfl
      have k6 : wr.cell? ⟨w.heap.size + 1 + 1, 0, none⟩ = some (.int .i64 0) := (blk_cell K39.out 0).trans rfl
      have k7 : wr.cell? ⟨w.heap.size + 1 + 1, 1, none⟩ = some (.slice none 0 0) := (blk_cell K39.out 1).trans rfl
      have k8 := blk_frozen K39.out 0
      have k9 := blk_frozen K39.out 1
      obtain ⟨Au, cu, rfl⟩ := Kd.R_slice HRO.out
      have m0 : wr.cell? ⟨Bo, 0, none⟩ = some (.int .i64 a0) := (blk_cell KO.out 0).trans rfl
      have m1 : wr.cell? ⟨Bo, 1, none⟩ = some (.slice Au o.length cu) := (blk_cell KO.out 1).trans rfl
      have m2 := blk_frozen KO.out 0
      have hn1 : Bo ≠ w.heap.size + 1 + 1 := by omega
      have hn2 : w.heap.size + 1 + 1 ≠ Bo := by omega
      have R9 := Aside0.mk (show Kd.R k43 43 wr w.heap.size (fun k => k ≠ w.heap.size + 1 + 1 ∧ k ≠ Bo) (.slice Au o.length cu) o from Kd.R_lower (Kd.R_mono (Kd.R_bound HRO.out) (fun k hk => by have h1 := hk.1; have h2 := hk.2.1; omega)) (by omega))
      have hs2 : w.heap.size ≤ w.heap.size + 1 + 1 := by omega
      have hs3 : w.heap.size ≤ Bo := by omega
      clear K19 hBB k3 k4
      cases ch with
      | false =>
        unfold moveEnd at hres
        simp only [if_true] at hres
        obtain ⟨rfl, rfl, rfl⟩ : a0 = r1 ∧ o = r2 ∧ 0 = r3 := by simpa using hres
        go_wp2
        refine bodyPost_ret (results_ct rfl _ _ (w.heap.size + 1 + 1) 24 #[.int .i64 a0, .slice Au o.length cu] (0, 0) _ rfl ?_ Try.underlying24 rfl (by kernel_rfl)) rfl ?_
        · refine blk_put (cs := #[.int .i64 a0, .slice none 0 0]) ?_ 1 _ rfl
          exact blk_put (cs := #[.int .i64 0, .slice none 0 0]) K39.out 0 _ rfl
        · refine ⟨_, rfl, ?_, (X9.out.setCell (p := ⟨w.heap.size + 1 + 1, 0, none⟩) hs2 _).setCell (p := ⟨w.heap.size + 1 + 1, 1, none⟩) hs2 _⟩
          exact Kd.R_mono (Kd.R_far (p := ⟨w.heap.size + 1 + 1, 1, none⟩) (Kd.R_far (p := ⟨w.heap.size + 1 + 1, 0, none⟩) R9.out (fun _ hk => hk.1) _) (fun _ hk => hk.1) _) (fun _ _ => trivial)
      | true =>
        unfold moveEnd at hres
        simp only [Bool.true_eq_false, if_false] at hres
        by_cases hm : a0 = 1099511627776
        · rw [if_pos hm] at hres
          obtain ⟨rfl, rfl, rfl⟩ : 0 = r1 ∧ [] = r2 ∧ 7 = r3 := by simpa using hres
          have hm2 : (a0 == 1099511627776) = true := beq_iff_eq.2 hm
          clear hm hres
          go_wp2
          refine bodyPost_ret (results_ct rfl _ _ (w.heap.size + 1 + 1) 24 #[.int .i64 0, .slice none 0 0] (0, 0) _ rfl ?_ Try.underlying24 rfl (by kernel_rfl)) rfl ?_
          · refine blk_put (cs := #[.int .i64 0, .slice none 0 0]) ?_ 1 _ rfl
            exact blk_put (cs := #[.int .i64 0, .slice none 0 0]) K39.out 0 _ rfl
          · exact ⟨_, rfl, Kd.R_nil _ _ _ _ _, (X9.out.setCell (p := ⟨w.heap.size + 1 + 1, 0, none⟩) hs2 _).setCell (p := ⟨w.heap.size + 1 + 1, 1, none⟩) hs2 _⟩
        · rw [if_neg hm] at hres
          obtain ⟨rfl, rfl, rfl⟩ : wrap64 (a0 + 1) = r1 ∧ o = r2 ∧ 0 = r3 := by simpa using hres
          have hm2 : (a0 == 1099511627776) = false := beq_eq_false_iff_ne.2 hm
          clear hm hres
          go_wp2
          refine bodyPost_ret (results_ct rfl _ _ (w.heap.size + 1 + 1) 24 #[.int .i64 (wrap64 (a0 + 1)), .slice Au o.length cu] (0, 0) _ rfl ?_ Try.underlying24 rfl (by kernel_rfl)) rfl ?_
          · refine blk_put (cs := #[.int .i64 (wrap64 (a0 + 1)), .slice none 0 0]) ?_ 1 _ rfl
            refine blk_put (cs := #[.int .i64 0, .slice none 0 0]) ?_ 0 _ rfl
            exact blk_far (p := ⟨Bo, 0, none⟩) K39.out hn2 _
          · refine ⟨_, rfl, ?_, ((X9.out.setCell (p := ⟨Bo, 0, none⟩) hs3 _).setCell (p := ⟨w.heap.size + 1 + 1, 0, none⟩) hs2 _).setCell (p := ⟨w.heap.size + 1 + 1, 1, none⟩) hs2 _⟩
            exact Kd.R_mono (Kd.R_far (p := ⟨w.heap.size + 1 + 1, 1, none⟩) (Kd.R_far (p := ⟨w.heap.size + 1 + 1, 0, none⟩) (Kd.R_far (p := ⟨Bo, 0, none⟩) R9.out (fun _ hk => hk.2) _) (fun _ hk => hk.1) _) (fun _ hk => hk.1) _) (fun _ _ => trivial)

set_option maxHeartbeats 4000000 in
theorem move_no (k : Nat) (a0 : Int) (A0 : Option Addr) (c0 : Nat) (l0 : List S43) (r : S26) (tt : Int) (t : Bool) (w : World) (hr0 : Kd.C k43 w A0 l0.length l0) (hc0 : l0.length ≤ c0) (hmay : chart_May.f k a0 l0 = some t) (hn : ¬ (t = true ∧ mayB r = true ∧ shardB tt = true)) :
    Calls Try.prog 8 #[.agg #[.int .i64 a0, .slice A0 l0.length c0], .agg #[.int .i64 r.f0, .int .i64 r.f1], .int .i64 tt] w fun e w' => ∃ v1_ : Value, e = .returned (.tuple #[.agg #[.int .i64 0, v1_], .int .i64 2]) ∧ Kd.R k43 43 w' w.heap.size (fun _ => True) v1_ [] ∧ Below w.heap.size w w' := by
  obtain ⟨W0, hW0⟩ : ∃ W0, W0 = ((w.alloc (.cells #[.int .i64 a0, .slice A0 l0.length c0] 24)).alloc (.cells #[.int .i64 r.f0, .int .i64 r.f1] 26)).alloc (.cells #[.int .i64 0, .slice none 0 0] 24) := ⟨_, rfl⟩
  have B0 := Aside0.mk (show Below w.heap.size w W0 by rw [hW0]; exact below_alloc (below_alloc (below_alloc (Below.refl _ _) _) _) _)
  have K2 := Aside0.mk (show W0.heap[w.heap.size + 1]? = some (.cells #[.int .i64 r.f0, .int .i64 r.f1] 26 (0, 0)) by rw [hW0]; refine blk_alloc ?_ _; have := heap_alloc_new (w.alloc (.cells #[.int .i64 a0, .slice A0 l0.length c0] 24)) (.cells #[.int .i64 r.f0, .int .i64 r.f1] 26); simpa using this)
  have K3 := Aside0.mk (show W0.heap[w.heap.size + 1 + 1]? = some (.cells #[.int .i64 0, .slice none 0 0] 24 (0, 0)) by rw [hW0]; have := heap_alloc_new ((w.alloc (.cells #[.int .i64 a0, .slice A0 l0.length c0] 24)).alloc (.cells #[.int .i64 r.f0, .int .i64 r.f1] 26)) (.cells #[.int .i64 0, .slice none 0 0] 24); simpa using this)
  have HR := Aside0.mk hr0
  have HC := Aside0.mk hc0
  have hs2 : w.heap.size ≤ w.heap.size + 1 + 1 := by omega
  have hcMay := fun W (h : Kd.C k43 W A0 l0.length l0) => chart_May.calls k a0 A0 c0 l0 t W h hc0 hmay
  have hcm := fun W => place_May.calls r.f0 r.f1 (mayB r) W (may_f r)
  have hcs := fun W => chart_shard.calls tt (shardB tt) W (shard_f tt)
  clear hr0 hc0 hmay
  cases t with
  | false =>
    clear hn hcm hcs
    go_enter Try.func8, Try.ntmps8
    go_wp2_with fail
    rw [← hW0]
    clear hW0
    (with_reducible refine (hcMay _ (Kd.C_below HR.out B0.out)).mono ?_)
    rintro e w1 ⟨rfl, hb1⟩
    have K31 := Aside0.mk (blk_below K3.out hb1)
    have B1 := Aside0.mk (B0.out.trans (hb1.mono B0.out.size))
    clear hb1
    have k7 : w1.cell? ⟨w.heap.size + 1 + 1, 0, none⟩ = some (.int .i64 0) := (blk_cell K31.out 0).trans rfl
    have k8 : w1.cell? ⟨w.heap.size + 1 + 1, 1, none⟩ = some (.slice none 0 0) := (blk_cell K31.out 1).trans rfl
    have k9 := blk_frozen K31.out 0
    have k10 := blk_frozen K31.out 1
    go_wp2
    refine bodyPost_ret (results_ct rfl _ _ (w.heap.size + 1 + 1) 24 #[.int .i64 0, .slice none 0 0] (0, 0) _ rfl ?_ Try.underlying24 rfl (by kernel_rfl)) rfl ?_
    · refine blk_put (cs := #[.int .i64 0, .slice none 0 0]) ?_ 1 _ rfl
      exact blk_put (cs := #[.int .i64 0, .slice none 0 0]) K31.out 0 _ rfl
    · exact ⟨_, rfl, Kd.R_nil _ _ _ _ _, (B1.out.setCell (p := ⟨w.heap.size + 1 + 1, 0, none⟩) hs2 _).setCell (p := ⟨w.heap.size + 1 + 1, 1, none⟩) hs2 _⟩
  | true =>
    cases hm : mayB r with
    | false =>
      rw [hm] at hcm
      clear hn hcs hm
      go_enter Try.func8, Try.ntmps8
      go_wp2_with fail
      rw [← hW0]
      clear hW0
      (with_reducible refine (hcMay _ (Kd.C_below HR.out B0.out)).mono ?_)
      rintro e w1 ⟨rfl, hb1⟩
      have K31 := Aside0.mk (blk_below K3.out hb1)
      have B1 := Aside0.mk (B0.out.trans (hb1.mono B0.out.size))
      have k1 : w1.cell? ⟨w.heap.size + 1, 0, none⟩ = some (.int .i64 r.f0) := (blk_cell (blk_below K2.out hb1) 0).trans rfl
      have k2 : w1.cell? ⟨w.heap.size + 1, 1, none⟩ = some (.int .i64 r.f1) := (blk_cell (blk_below K2.out hb1) 1).trans rfl
      clear hb1
      go_wp2_with fail
      (with_reducible refine (hcm _).mono ?_)
      rintro e w2 ⟨rfl, hb2⟩
      have K32 := Aside0.mk (blk_below K31.out hb2)
      have B2 := Aside0.mk (B1.out.trans (hb2.mono B1.out.size))
      clear hb2 k1 k2
      have k7 : w2.cell? ⟨w.heap.size + 1 + 1, 0, none⟩ = some (.int .i64 0) := (blk_cell K32.out 0).trans rfl
      have k8 : w2.cell? ⟨w.heap.size + 1 + 1, 1, none⟩ = some (.slice none 0 0) := (blk_cell K32.out 1).trans rfl
      have k9 := blk_frozen K32.out 0
      have k10 := blk_frozen K32.out 1
      go_wp2
      refine bodyPost_ret (results_ct rfl _ _ (w.heap.size + 1 + 1) 24 #[.int .i64 0, .slice none 0 0] (0, 0) _ rfl ?_ Try.underlying24 rfl (by kernel_rfl)) rfl ?_
      · refine blk_put (cs := #[.int .i64 0, .slice none 0 0]) ?_ 1 _ rfl
        exact blk_put (cs := #[.int .i64 0, .slice none 0 0]) K32.out 0 _ rfl
      · exact ⟨_, rfl, Kd.R_nil _ _ _ _ _, (B2.out.setCell (p := ⟨w.heap.size + 1 + 1, 0, none⟩) hs2 _).setCell (p := ⟨w.heap.size + 1 + 1, 1, none⟩) hs2 _⟩
    | true =>
      have hsh : shardB tt = false := by
        cases h : shardB tt
        · rfl
        · exact absurd ⟨rfl, hm, h⟩ hn
      rw [hm] at hcm
      rw [hsh] at hcs
      clear hn hm hsh
      go_enter Try.func8, Try.ntmps8
      go_wp2_with fail
      rw [← hW0]
      clear hW0
      (with_reducible refine (hcMay _ (Kd.C_below HR.out B0.out)).mono ?_)
      rintro e w1 ⟨rfl, hb1⟩
      have K31 := Aside0.mk (blk_below K3.out hb1)
      have B1 := Aside0.mk (B0.out.trans (hb1.mono B0.out.size))
      have k1 : w1.cell? ⟨w.heap.size + 1, 0, none⟩ = some (.int .i64 r.f0) := (blk_cell (blk_below K2.out hb1) 0).trans rfl
      have k2 : w1.cell? ⟨w.heap.size + 1, 1, none⟩ = some (.int .i64 r.f1) := (blk_cell (blk_below K2.out hb1) 1).trans rfl
      clear hb1
      go_wp2_with fail
      (with_reducible refine (hcm _).mono ?_)
      rintro e w2 ⟨rfl, hb2⟩
      have K32 := Aside0.mk (blk_below K31.out hb2)
      have B2 := Aside0.mk (B1.out.trans (hb2.mono B1.out.size))
      clear hb2 k1 k2
      go_wp2_with fail
      (with_reducible refine (hcs _).mono ?_)
      rintro e w3' ⟨rfl, nd, rfl⟩
      generalize hw3 : w2.drewN nd = w3
      have K33 := Aside0.mk (show w3.heap[w.heap.size + 1 + 1]? = some (.cells #[.int .i64 0, .slice none 0 0] 24 (0, 0)) by rw [← hw3]; exact K32.out)
      have B3 := Aside0.mk (show Below w.heap.size w w3 by rw [← hw3]; exact pw_below_drewN B2.out nd)
      clear hw3
      have k7 : w3.cell? ⟨w.heap.size + 1 + 1, 0, none⟩ = some (.int .i64 0) := (blk_cell K33.out 0).trans rfl
      have k8 : w3.cell? ⟨w.heap.size + 1 + 1, 1, none⟩ = some (.slice none 0 0) := (blk_cell K33.out 1).trans rfl
      have k9 := blk_frozen K33.out 0
      have k10 := blk_frozen K33.out 1
      go_wp2
      refine bodyPost_ret (results_ct rfl _ _ (w.heap.size + 1 + 1) 24 #[.int .i64 0, .slice none 0 0] (0, 0) _ rfl ?_ Try.underlying24 rfl (by kernel_rfl)) rfl ?_
      · refine blk_put (cs := #[.int .i64 0, .slice none 0 0]) ?_ 1 _ rfl
        exact blk_put (cs := #[.int .i64 0, .slice none 0 0]) K33.out 0 _ rfl
      · exact ⟨_, rfl, Kd.R_nil _ _ _ _ _, (B3.out.setCell (p := ⟨w.heap.size + 1 + 1, 0, none⟩) hs2 _).setCell (p := ⟨w.heap.size + 1 + 1, 1, none⟩) hs2 _⟩

theorem chart_Move.calls (k : Nat) (a0_0 : Int) (A0_1 : Option Addr) (c0_1 : Nat) (l0_1 : List S43) (a1_0 a1_1 a2 : Int) (r1 : Int) (r2 : List S43) (r3 : Int) (w : World) (hr0_1 : Kd.C k43 w A0_1 l0_1.length l0_1) (hc0_1 : l0_1.length ≤ c0_1) (h : chart_Move.f k a0_0 l0_1 a1_0 a1_1 a2 = some (r1, r2, r3)) :
    Calls Try.prog 8 #[.agg #[.int .i64 a0_0, .slice A0_1 l0_1.length c0_1], .agg #[.int .i64 a1_0, .int .i64 a1_1], .int .i64 a2] w fun e w' => ∃ v1_ : Value, e = .returned (.tuple #[.agg #[.int .i64 r1, v1_], .int .i64 r3]) ∧ Kd.R k43 43 w' w.heap.size (fun _ => True) v1_ r2 ∧ Below w.heap.size w w' := by
  unfold chart_Move.f at h
  obtain ⟨t, ht, h⟩ := Option.bind_eq_some_iff.1 h
  by_cases hc : t = true ∧ mayB ⟨a1_0, a1_1⟩ = true ∧ shardB a2 = true
  · rw [if_pos hc] at h
    by_cases hl : l0_1.length ≤ 100000
    · rw [if_pos hl] at h
      obtain ⟨rfl, hm, hs⟩ := hc
      exact move_go k a0_0 A0_1 c0_1 l0_1 ⟨a1_0, a1_1⟩ a2 r1 r2 r3 w hr0_1 hc0_1 ht hm hs hl (Option.some.inj h)
    · rw [if_neg hl] at h; cases h
  · rw [if_neg hc] at h
    obtain ⟨rfl, rfl, rfl⟩ : 0 = r1 ∧ [] = r2 ∧ 2 = r3 := by simpa using h
    exact move_no k a0_0 A0_1 c0_1 l0_1 ⟨a1_0, a1_1⟩ a2 t w hr0_1 hc0_1 ht hc
end Go.Proofs.Yteppmdafdopehaa.P
