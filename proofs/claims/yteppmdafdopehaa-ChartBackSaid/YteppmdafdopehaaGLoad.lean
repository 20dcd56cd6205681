/- chart.Load, by hand, in the print's own form: numbers read one behind the other by an inner function. No conditions. -/
import Derived.Test.YteppmdafdopehaaP6
import Derived.Test.YteppmdafdopehaaP20
import Derived.Deep.LoopGhost
namespace Go.Proofs.Yteppmdafdopehaa.P
open Go.RowKit Go.Proofs.YteppmdafdopehaaW.PrintWords Go.Proofs.YteppmdafdopehaaW.PrintLast Go.Proofs.YteppmdafdopehaaW.PrintMore
set_option linter.unusedVariables false
set_option linter.unusedSimpArgs false

section
variable {P : Program} {ops : Array Oper} {Q : Exit → Act → World → Prop}
/-- A call of a closure that a variable holds, in a drawn region. -/
theorem goesC_ {oi : Oper} {N : Option Tmp} {a : Act} {w : World} {K : Act → World → Prop} {f : FuncId} {fn : Func} {c : Operand} {xs : Array Operand} {ts : Array TypeId} {caps : Array Value} (hf : P.funcs[f]? = some fn) (hname : (fn.name == "runtime.NumGoroutine") = false) (hb : fn.body.isSome = true) (args : Array Value)
    (hw : Region.wanted oi (yielded ops a.tmps) = true) (hN : oi.dst = N) (hop : oi.op = .call { callee := .value c, args := xs, argTypes := ts }) (hc : a.eval c = .func (.func f) #[] caps) (hargs : xs.map a.eval ++ caps = args)
    (h : Calls P f args w fun e w' => ∃ v, e = .returned v ∧ K (a.put N v) w') : if Region.wanted oi (yielded ops a.tmps) = true then Oper.wp P oi a w K Q else K (a.put N undef) w := by
  refine call_ f args hw hN ?_ h
  have he := enters_ hf hname hb args w
  unfold execOp
  simp [hop, resolve, Deferred.ofValue, invoke, hc, hargs, he]
end
def ldNum (k : Nat) (l : List Int) (g : Bool) : Option (Int × List Int × Bool) := (octet_ReadNum.f k l).bind fun t => if 0 ≤ t.2.1 ∧ t.2.1 ≤ (l.length : Int) then some (t.1, l.drop t.2.1.toNat, g && (t.2.2 == 0)) else none
theorem ldNum_mono (k : Nat) (l : List Int) (g : Bool) : LeO (ldNum k l g) (ldNum (k + 1) l g) := LeO.bind (octet_ReadNum.mono _ k) (fun _ => LeO.refl _)
def chart_Load.l0 : Nat → Int → List Int → Bool → List S43 → Option (List Int × Bool × List S43)
  | 0, _, _, _, _ => none
  | k + 1, n, l, g, acc => if n > 0 then (if g = true then (if acc.length ≤ 1000000 ∧ n ≤ 4611686018427387904 then (ldNum k l g).bind fun a => (ldNum k a.2.1 a.2.2).bind fun b => (ldNum k b.2.1 b.2.2).bind fun c => chart_Load.l0 k (n - 1) c.2.1 c.2.2 (acc ++ [⟨⟨a.1, b.1⟩, c.1⟩]) else none) else some (l, g, acc)) else some (l, g, acc)
theorem chart_Load.mono_l : ∀ k n l g acc, LeO (chart_Load.l0 k n l g acc) (chart_Load.l0 (k + 1) n l g acc)
  | 0, _, _, _, _ => fun r h => by simp [chart_Load.l0] at h
  | k + 1, n, l, g, acc => by
    simp only [chart_Load.l0]
    exact LeO.ite (LeO.ite (LeO.ite (LeO.bind (ldNum_mono k _ _) (fun a => LeO.bind (ldNum_mono k _ _) (fun b => LeO.bind (ldNum_mono k _ _) (fun c => chart_Load.mono_l k _ _ _ _)))) (LeO.refl _)) (LeO.refl _)) (LeO.refl _)
def chart_Load.f (k : Nat) (a0 : ByteArray) : Option (Int × List S43 × Int) := if a0.size ≤ 140737488355328 then (ldNum k (bytesOf a0) true).bind fun a => (ldNum k a.2.1 a.2.2).bind fun b => (chart_Load.l0 k b.1 b.2.1 b.2.2 []).bind fun c => if c.2.1 = true ∧ c.1.length = 0 then ((chart_May.f k a.1 c.2.2).bind fun t => if t = true then some (a.1, c.2.2, 0) else some (0, [], 5)) else some (0, [], 5) else none
theorem chart_Load.mono : ∀ a0 k, LeO (chart_Load.f k a0) (chart_Load.f (k + 1) a0) := by
  intro a0 k
  unfold chart_Load.f
  exact LeO.ite (LeO.bind (ldNum_mono k _ _) (fun a => LeO.bind (ldNum_mono k _ _) (fun b => LeO.bind (chart_Load.mono_l k _ _ _ _) (fun c => LeO.ite (LeO.bind (chart_May.mono _ _ k) (fun t => LeO.refl _)) (LeO.refl _))))) (LeO.refl _)

/-- The reader's two variables: what is left to be read (it lies below them), and whether all was good. -/
def Eye (w : World) (Bb Bg : Nat) (l : List Int) (g : Bool) : Prop :=
  ∃ (A : Option Addr) (c : Nat), w.heap[Bb]? = some (.cells #[.slice A l.length c] 61 (0, 0)) ∧ w.heap[Bg]? = some (.cells #[.bool g] 4 (0, 0)) ∧ (∀ W, Kept w W (fun k => Bb ≤ k) → Kd.C (Kd.int .u8) W A l.length l) ∧ l.length ≤ c ∧ Bb < Bg
theorem Eye.kept {w w' : World} {Bb Bg : Nat} {l : List Int} {g : Bool} (h : Eye w Bb Bg l g) (hk : Kept w w' (fun k => Bg < k)) : Eye w' Bb Bg l g := by
  obtain ⟨A, c, h1, h2, h3, h4, h5⟩ := h
  exact ⟨A, c, (hk.2 Bb (blk_lt h1) (by omega)).trans h1, (hk.2 Bg (blk_lt h2) (by omega)).trans h2, fun W hW => h3 W ((hk.mono (fun k hk => by omega)).then_ hW (fun k hk => Or.inl hk)), h4, h5⟩
theorem Eye.below {w w' : World} {Bb Bg : Nat} {l : List Int} {g : Bool} (h : Eye w Bb Bg l g) (hb : Below w.heap.size w w') : Eye w' Bb Bg l g := h.kept (Kept.of_below hb _)
theorem Eye.ne {w : World} {Bb Bg : Nat} {l : List Int} {g : Bool} (h : Eye w Bb Bg l g) : Bb ≠ Bg := by
  obtain ⟨A, c, h1, h2, h3, h4, h5⟩ := h
  omega
theorem Eye.lt {w : World} {Bb Bg : Nat} {l : List Int} {g : Bool} (h : Eye w Bb Bg l g) : Bb < w.heap.size ∧ Bg < w.heap.size := by
  obtain ⟨A, c, h1, h2, _⟩ := h
  exact ⟨blk_lt h1, blk_lt h2⟩

set_option maxHeartbeats 2000000 in
theorem num_calls (k : Nat) (Bb Bg : Nat) (l : List Int) (g : Bool) (n : Int) (l' : List Int) (g' : Bool) (w : World) (he : Eye w Bb Bg l g) (h : ldNum k l g = some (n, l', g')) :
    Calls Try.prog 32 #[.pointer (some ⟨Bb, 0, none⟩), .pointer (some ⟨Bg, 0, none⟩)] w fun e w' => e = .returned (.int .i64 n) ∧ Eye w' Bb Bg l' g' ∧ Kept w w' (fun k => k = Bb ∨ k = Bg) ∧ w'.heap.size = w.heap.size ∧ (∀ B, B ≤ Bb → B ≤ Bg → B ≤ w.heap.size → Below B w w') := by
  have hne := he.ne
  obtain ⟨A, c, h1, h2, hF3, h4, h5⟩ := he
  have h3 := hF3 w (Kept.refl _ _)
  have HF3 := Aside0.mk hF3
  have H1 := Aside0.mk h1
  have H2 := Aside0.mk h2
  have H3 := Aside0.mk h3
  unfold ldNum at h
  obtain ⟨t, ht, h⟩ := Option.bind_eq_some_iff.1 h
  obtain ⟨t1, t2, t3⟩ := t
  by_cases hc : 0 ≤ t2 ∧ t2 ≤ (l.length : Int)
  · rw [if_pos hc] at h
    simp only [Option.some.injEq, Prod.mk.injEq] at h
    obtain ⟨rfl, rfl, rfl⟩ := h
    have hcall := fun W h => octet_ReadNum.calls k A c l t1 t2 t3 W h h4 ht
    obtain ⟨i5, hi5, _, hs5, _⟩ := info_parts info5
    obtain ⟨A', hrun, hrd, hcp⟩ := print_drop_of (P := Try.prog) (Value.int .u8) (0 : Int) 61 5 .i64 Try.underlying61 hi5 hs5 A c l t2 hc.1 hc.2 h4
    have b1 : w.cell? ⟨Bb, 0, none⟩ = some (.slice A l.length c) := (blk_cell h1 0).trans rfl
    have b2 : w.cell? ⟨Bg, 0, none⟩ = some (.bool g) := (blk_cell h2 0).trans rfl
    have b3 := blk_frozen h1 0
    have b4 := blk_frozen h2 0
    have hne' := hne.symm
    have HCP := Aside0.mk hcp
    have HRD := Aside0.mk hrd
    have HC0 := Aside0.mk hc
    clear h1 h2 h3 h4 ht hc hcp hrd hi5 hs5 hF3
    have hfin : ∀ (nd : Nat), Eye (((w.drewN nd).setCell ⟨Bg, 0, none⟩ (.bool (g && (t3 == 0)))).setCell ⟨Bb, 0, none⟩ (.slice A' (l.drop t2.toNat).length (c - t2.toNat))) Bb Bg (l.drop t2.toNat) (g && (t3 == 0)) ∧ Kept w (((w.drewN nd).setCell ⟨Bg, 0, none⟩ (.bool (g && (t3 == 0)))).setCell ⟨Bb, 0, none⟩ (.slice A' (l.drop t2.toNat).length (c - t2.toNat))) (fun k => k = Bb ∨ k = Bg) ∧ (((w.drewN nd).setCell ⟨Bg, 0, none⟩ (.bool (g && (t3 == 0)))).setCell ⟨Bb, 0, none⟩ (.slice A' (l.drop t2.toNat).length (c - t2.toNat))).heap.size = w.heap.size ∧ (∀ B, B ≤ Bb → B ≤ Bg → B ≤ w.heap.size → Below B w (((w.drewN nd).setCell ⟨Bg, 0, none⟩ (.bool (g && (t3 == 0)))).setCell ⟨Bb, 0, none⟩ (.slice A' (l.drop t2.toNat).length (c - t2.toNat)))) := by
      intro nd
      have k1 := blk_drewN H1.out nd
      have k2 := blk_drewN H2.out nd
      have hkp : Kept w (((w.drewN nd).setCell ⟨Bg, 0, none⟩ (.bool (g && (t3 == 0)))).setCell ⟨Bb, 0, none⟩ (.slice A' (l.drop t2.toNat).length (c - t2.toNat))) (fun k => k = Bb ∨ k = Bg) :=
        Kept.setCell (p := ⟨Bb, 0, none⟩) (Kept.setCell (p := ⟨Bg, 0, none⟩) (Kept.drewN (Kept.refl _ _) nd) (Or.inl (Or.inr rfl)) _) (Or.inl (Or.inl rfl)) _
      refine ⟨⟨A', c - t2.toNat, ?_, ?_, fun W hW => Kd.C_of_reads (HRD.out _ (Kd.reads_of_C (d := (0 : Int)) (HF3.out W ((hkp.mono (fun k hk => by omega)).then_ hW (fun k hk => Or.inl hk))))), HCP.out, h5⟩, hkp, by simp, fun B h1 h2 h3 => ?_⟩
      · exact blk_put (cs := #[.slice A l.length c]) (blk_far (p := ⟨Bg, 0, none⟩) k1 hne _) 0 _ rfl
      · exact blk_far (p := ⟨Bb, 0, none⟩) (blk_put (cs := #[.bool g]) k2 0 _ rfl) hne' _
      · exact ((pw_below_drewN (Below.refl B w) nd).setCell (p := ⟨Bg, 0, none⟩) h2 _).setCell (p := ⟨Bb, 0, none⟩) h1 _
    have HF := Aside0.mk hfin
    clear hfin
    have hlen : (l.drop t2.toNat).length = l.length - t2.toNat := List.length_drop
    cases g with
    | true =>
      go_enter Try.func32, Try.ntmps32
      go_wp2_with (go_at_call 33; (with_reducible refine (hcall _ H3.out).mono ?_); rintro e w1 ⟨rfl, nd, rfl⟩)
      go_ret
      exact ⟨rfl, by simpa using HF.out nd⟩
    | false =>
      go_enter Try.func32, Try.ntmps32
      go_wp2_with (go_at_call 33; (with_reducible refine (hcall _ H3.out).mono ?_); rintro e w1 ⟨rfl, nd, rfl⟩)
      go_ret
      exact ⟨rfl, by simpa using HF.out nd⟩
  · rw [if_neg hc] at h; cases h

set_option maxHeartbeats 8000000 in
set_option maxRecDepth 100000 in
theorem chart_Load.calls (k : Nat) (a0 : ByteArray) (r1 : Int) (r2 : List S43) (r3 : Int) (w : World) (h : chart_Load.f k a0 = some (r1, r2, r3)) :
    Calls Try.prog 19 #[.string a0] w fun e w' => ∃ v1_ : Value, e = .returned (.tuple #[.agg #[.int .i64 r1, v1_], .int .i64 r3]) ∧ Kd.R k43 43 w' w.heap.size (fun _ => True) v1_ r2 ∧ Below w.heap.size w w' := by
  unfold chart_Load.f at h
  by_cases hsz : a0.size ≤ 140737488355328
  · rw [if_pos hsz] at h
    obtain ⟨⟨ep, l1, g1⟩, hn1, h⟩ := Option.bind_eq_some_iff.1 h
    obtain ⟨⟨n0, l2, g2⟩, hn2, h⟩ := Option.bind_eq_some_iff.1 h
    obtain ⟨X, hX, h⟩ := Option.bind_eq_some_iff.1 h
    have HN1 := Aside0.mk hn1
    have HN2 := Aside0.mk hn2
    have HX := Aside0.mk hX
    have HE := Aside0.mk h
    have hcv := fun W => print_bytes (P := Try.prog) 9 61 5 Try.underlying9 Try.underlying61 Try.underlying5 a0 W
    obtain ⟨W0, hW0⟩ : ∃ W0, W0 = w.alloc (.cells #[.int .i64 0, .slice none 0 0] 24) := ⟨_, rfl⟩
    have B0 := Aside0.mk (show Below w.heap.size w W0 by rw [hW0]; exact below_alloc (Below.refl _ _) _)
    have K0 := Aside0.mk (show W0.heap[w.heap.size]? = some (.cells #[.int .i64 0, .slice none 0 0] 24 (0, 0)) by rw [hW0]; exact heap_alloc_new w _)
    clear hn1 hn2 hX h
    go_enter Try.func19, Try.ntmps19
    go_wp2_with fail
    rw [← hW0]
    have hs0 : W0.heap.size = w.heap.size + 1 := by rw [hW0]; simp
    clear hW0 hcv
    obtain ⟨WB, hWB⟩ : ∃ WB, WB = Lib.bytesWorld W0 5 a0 := ⟨_, rfl⟩
    have B1 := Aside0.mk (show Below w.heap.size w WB by rw [hWB]; exact bytes_below B0.out B0.out.size 5 a0)
    have K1 := Aside0.mk (show WB.heap[w.heap.size]? = some (.cells #[.int .i64 0, .slice none 0 0] 24 (0, 0)) by rw [hWB]; exact (Lib.bytesWorld_at_old W0 5 a0 w.heap.size (by omega)).trans K0.out)
    have C1 := Aside0.mk (show Kd.C (Kd.int .u8) WB (some ⟨w.heap.size + 1, 0, none⟩) (bytesOf a0).length (bytesOf a0) by rw [hWB, ← hs0, bytesOf_length]; exact Kd.C_of_reads (bytes_reads W0 5 a0 (by omega)))
    rw [← hWB]
    have hcap : a0.size ≤ grownCap W0 a0.size 0 5 := grownCap_ge _ _ _ _
    generalize grownCap W0 a0.size 0 5 = cap at hcap ⊢
    have hsB : WB.heap.size = w.heap.size + 1 + 1 := by rw [hWB, Lib.bytesWorld_size, hs0]
    clear hWB hs0 B0 K0
    obtain ⟨Bb, hBb⟩ : ∃ Bb, Bb = WB.heap.size := ⟨_, rfl⟩
    rw [← hBb]
    obtain ⟨W2, hW2⟩ : ∃ W2, W2 = (WB.alloc (.cells #[.slice (some ⟨w.heap.size + 1, 0, none⟩) a0.size cap] 61)).alloc (.cells #[.bool true] 4) := ⟨_, rfl⟩
    rw [← hW2]
    have hlt1 : w.heap.size + 1 < Bb := by omega
    have hlt0 : w.heap.size < Bb := by rw [hBb]; exact blk_lt K1.out
    have B2 := Aside0.mk (show Below w.heap.size w W2 by rw [hW2]; exact below_alloc (below_alloc B1.out _) _)
    have K2 := Aside0.mk (show W2.heap[w.heap.size]? = some (.cells #[.int .i64 0, .slice none 0 0] 24 (0, 0)) by rw [hW2]; exact blk_alloc (blk_alloc K1.out _) _)
    have E2 := Aside0.mk (show Eye W2 Bb (Bb + 1) (bytesOf a0) true by
      rw [hW2]
      refine ⟨some ⟨w.heap.size + 1, 0, none⟩, cap, ?_, ?_, fun W hW => ?_, by rw [bytesOf_length]; exact hcap, Nat.lt_succ_self _⟩
      · rw [hBb, bytesOf_length]; exact blk_alloc (heap_alloc_new WB _) _
      · rw [hBb]; have := heap_alloc_new (WB.alloc (.cells #[.slice (some ⟨w.heap.size + 1, 0, none⟩) a0.size cap] 61)) (.cells #[.bool true] 4); simpa using this
      · exact Kd.C_foot_neS (S := fun k => Bb ≤ k) (fun hh => hh) (Kd.C_alloc (Kd.C_alloc C1.out _) _) (fun ad hA hl hk => by cases hA; simp at hk; omega) W hW)
    clear hW2 hBb B1 K1 C1 hcap
    (with_reducible refine (num_calls k Bb (Bb + 1) _ _ _ _ _ W2 E2.out HN1.out).mono ?_)
    rintro e w3 ⟨rfl, hE3, hkp3, hz3, hbl3⟩
    have hlt2 := E2.out.lt
    have E3 := Aside0.mk hE3
    have B3 := Aside0.mk (B2.out.trans (hbl3 _ (by omega) (by omega) (by omega)))
    have K3 := Aside0.mk ((hkp3.2 w.heap.size (by omega) (by omega)).trans K2.out)
    have hlt3 := hE3.lt
    clear hE3 hkp3 hz3 hbl3 E2 B2 K2 hlt2
    go_wp2_with fail
    obtain ⟨Bc, hBc⟩ : ∃ Bc, Bc = w3.heap.size := ⟨_, rfl⟩
    obtain ⟨W4, hW4⟩ : ∃ W4, W4 = w3.alloc (.cells #[.int .i64 ep, .slice none 0 0] 24) := ⟨_, rfl⟩
    rw [← hW4, ← hBc]
    have E4 := Aside0.mk (show Eye W4 Bb (Bb + 1) l1 g1 by rw [hW4]; exact E3.out.below (below_alloc (Below.refl _ _) _))
    have B4 := Aside0.mk (show Below w.heap.size w W4 by rw [hW4]; exact below_alloc B3.out _)
    have K4 := Aside0.mk (show W4.heap[w.heap.size]? = some (.cells #[.int .i64 0, .slice none 0 0] 24 (0, 0)) by rw [hW4]; exact blk_alloc K3.out _)
    have C4 := Aside0.mk (show W4.heap[Bc]? = some (.cells #[.int .i64 ep, .slice none 0 0] 24 (0, 0)) by rw [hW4, hBc]; exact heap_alloc_new w3 _)
    rw [← hBc] at hlt3
    clear hW4 hBc E3 B3 K3
    (with_reducible refine (num_calls k Bb (Bb + 1) _ _ _ _ _ W4 E4.out HN2.out).mono ?_)
    rintro e w5 ⟨rfl, hE5, hkp5, hz5, hbl5⟩
    have hlt4 := blk_lt C4.out
    have E5 := Aside0.mk hE5
    have B5 := Aside0.mk (B4.out.trans (hbl5 _ (by omega) (by omega) (by omega)))
    have K5 := Aside0.mk ((hkp5.2 w.heap.size (by omega) (by omega)).trans K4.out)
    have C5 := Aside0.mk ((hkp5.2 Bc hlt4 (by omega)).trans C4.out)
    clear hE5 hkp5 hz5 hbl5 E4 B4 K4 C4
    go_wp2
    go_loopg [8] k (fun kq v8 w' => ∃ (n : Int) (l : List Int) (g : Bool) (acc : List S43) (u : Value), v8 = .int .i64 n ∧ kq ≤ k ∧ Aside0 (chart_Load.l0 kq n l g acc = some X) ∧ Aside0 (Eye w' Bb (Bb + 1) l g) ∧ Aside0 (w'.heap[w.heap.size]? = some (.cells #[.int .i64 0, .slice none 0 0] 24 (0, 0))) ∧ Aside0 (w'.heap[Bc]? = some (.cells #[.int .i64 ep, u] 24 (0, 0))) ∧ Aside0 (Kd.R k43 43 w' Bc (fun k => k ≠ Bc) u acc) ∧ Aside0 (Below w.heap.size w w'))
    case atStart => exact ⟨n0, l2, g2, [], _, rfl, Nat.le_refl _, HX, E5, K5, C5, ⟨Kd.R_nil _ _ _ _ _⟩, B5⟩
    case round =>
      obtain ⟨n, l, g, acc, u, rfl, hkq, HL, HEY, HK, HC, HR, HB⟩ := hrel
      have hz8 := blk_lt HC.out
      cases gk with
      | zero => exact absurd HL.out (by simp [chart_Load.l0])
      | succ k1 =>
        have hl := HL.out
        simp only [chart_Load.l0] at hl
        obtain ⟨Au, cu, rfl⟩ := Kd.R_slice HR.out
        obtain ⟨Ay, cy, hy1, hy2, hy3, hy4, hy5⟩ := HEY.out
        have e1 : wr.cell? ⟨Bb + 1, 0, none⟩ = some (.bool g) := (blk_cell hy2 0).trans rfl
        have e2 : wr.cell? ⟨Bb, 0, none⟩ = some (.slice Ay l.length cy) := (blk_cell hy1 0).trans rfl
        have e3 : wr.cell? ⟨Bc, 0, none⟩ = some (.int .i64 ep) := (blk_cell HC.out 0).trans rfl
        have e4 : wr.cell? ⟨Bc, 1, none⟩ = some (.slice Au acc.length cu) := (blk_cell HC.out 1).trans rfl
        have e5 : wr.cell? ⟨w.heap.size, 0, none⟩ = some (.int .i64 0) := (blk_cell HK.out 0).trans rfl
        have e6 : wr.cell? ⟨w.heap.size, 1, none⟩ = some (.slice none 0 0) := (blk_cell HK.out 1).trans rfl
        have e7 := blk_frozen HK.out 0
        have e8 := blk_frozen HK.out 1
        clear hy1 hy2 hy3 hy4 hy5 HL
        by_cases hn : n > 0
        · rw [if_pos hn] at hl
          have f1 : decide (0 < n) = true := decide_eq_true hn
          cases g with
          | true =>
            simp only [if_true] at hl
            by_cases hac : acc.length ≤ 1000000 ∧ n ≤ 4611686018427387904
            · rw [if_pos hac] at hl
              obtain ⟨⟨a1, la, ga⟩, ha, hl⟩ := Option.bind_eq_some_iff.1 hl
              obtain ⟨⟨b1, lb, gb⟩, hb, hl⟩ := Option.bind_eq_some_iff.1 hl
              obtain ⟨⟨c1, lc, gc⟩, hc, hl⟩ := Option.bind_eq_some_iff.1 hl
              have HA := Aside0.mk ha
              have HBN := Aside0.mk hb
              have HCN := Aside0.mk hc
              have HLN := Aside0.mk hl
              have hn2 := hac.2
              have hacl := hac.1
              clear ha hb hc hl hac
              go_wp2
              clear e1 e2 e3 e4 e5 e6 e7 e8
              have EY9 := Aside0.mk (show Eye wr.drew Bb (Bb + 1) l true from HEY.out)
              have HK9 := Aside0.mk (blk_drew HK.out)
              have HC9 := Aside0.mk (blk_drew HC.out)
              have HR9 := Aside0.mk (Kd.R_drew HR.out)
              have HB9 := Aside0.mk (below_drew HB.out)
              refine start_ (n := 14) (S := fun w' => w'.cell? ⟨Bc, 1, none⟩ = some (.slice Au acc.length cu)) (ds := [13]) #[false, false, false, false, false, false, false, false, false, false, false, false, false, false] (by kernel_rfl) rfl rfl ((blk_cell HC.out 1).trans rfl) (fun hHeld => ?_)
              generalize wr.drew = w9 at EY9 HK9 HC9 HR9 HB9 hHeld ⊢
              have hz9 : Bc < w9.heap.size := blk_lt HC9.out
              clear HEY HK HC HR HB hz8
              refine pure_ (i := 0) (N := some 24) (v := ?_) (a' := ?_) #[true, false, false, false, false, false, false, false, false, false, false, false, false, false] rfl rfl (by kernel_rfl) (fun _ _ _ h => h) (Or.inl ⟨by rfl, ?_⟩) ?_ ?_
              rotate_left
              · intro w'
                go_simp
                with_reducible rfl
              rotate_left
              · simp only [Act.put, List.setIfInBounds_toArray, List.set_cons_zero, List.set_cons_succ, i64_w, i32_w]
                rfl
              refine take_ (i := 1) (N := some 25) (v := ?_) (a' := ?_) #[true, true, false, false, false, false, false, false, false, false, false, false, false, false] rfl rfl (by kernel_rfl) (fun _ _ _ h => h) (Or.inl ⟨by rfl, ?_⟩) hHeld ?_ ?_
              rotate_left
              · intro w' s0
                go_simp
                with_reducible rfl
              rotate_left
              · simp only [Act.put, List.setIfInBounds_toArray, List.set_cons_zero, List.set_cons_succ, i64_w, i32_w]
                rfl
              refine pure_ (i := 2) (N := some 26) (v := ?_) (a' := ?_) #[true, true, true, false, false, false, false, false, false, false, false, false, false, false] rfl rfl (by kernel_rfl) (fun _ _ _ h => h) (Or.inl ⟨by rfl, ?_⟩) ?_ ?_
              rotate_left
              · intro w'
                go_simp
                with_reducible rfl
              rotate_left
              · simp only [Act.put, List.setIfInBounds_toArray, List.set_cons_zero, List.set_cons_succ, i64_w, i32_w]
                rfl
              refine pure_ (i := 4) (N := some 28) (v := ?_) (a' := ?_) #[true, true, true, false, true, false, false, false, false, false, false, false, false, false] rfl rfl (by kernel_rfl) (fun _ _ _ h => h) (Or.inl ⟨by rfl, ?_⟩) ?_ ?_
              rotate_left
              · intro w'
                go_simp
                with_reducible rfl
              rotate_left
              · simp only [Act.put, List.setIfInBounds_toArray, List.set_cons_zero, List.set_cons_succ, i64_w, i32_w]
                rfl
              refine pure_ (i := 7) (N := some 31) (v := ?_) (a' := ?_) #[true, true, true, false, true, false, false, true, false, false, false, false, false, false] rfl rfl (by kernel_rfl) (fun _ _ _ h => h) (Or.inl ⟨by rfl, ?_⟩) ?_ ?_
              rotate_left
              · intro w'
                go_simp
                with_reducible rfl
              rotate_left
              · simp only [Act.put, List.setIfInBounds_toArray, List.set_cons_zero, List.set_cons_succ, i64_w, i32_w]
                rfl
              refine one_ (i := 3) (N := some 27) #[true, true, true, true, true, false, false, true, false, false, false, false, false, false] rfl rfl (by kernel_rfl) (by decide) (fun K hK => ?_)
              refine goesC_ Try.func32 (by kernel_rfl) rfl #[.pointer (some ⟨Bb, 0, none⟩), .pointer (some ⟨Bb + 1, 0, none⟩)] (by rfl) rfl rfl (by rfl) (by simp) ?_
              with_reducible refine (num_calls k1 Bb (Bb + 1) _ _ _ _ _ _ EY9.out HA.out).mono ?_
              rintro e w10 ⟨rfl, hE_, hkp_, hz_, hbl_⟩
              have EY10 := Aside0.mk hE_
              have HB10 := Aside0.mk (HB9.out.trans (hbl_ _ (by omega) (by omega) (by omega)))
              have HK10 := Aside0.mk ((hkp_.2 w.heap.size (by omega) (by omega)).trans HK9.out)
              have HC10 := Aside0.mk ((hkp_.2 Bc hz9 (by omega)).trans HC9.out)
              have HR10 := Aside0.mk (Kd.R_mono (ok' := fun k => k ≠ Bc) (Kd.R_step (Kd.R_bound HR9.out) (fun k hk hlt => hkp_.2 k hlt (by have h1 := hk.2.1; omega))) (fun k hk => hk.1))
              have hz10 : Bc < w10.heap.size := by omega
              clear hE_ hkp_ hz_ hbl_
              refine ⟨_, rfl, ?_⟩
              refine hK.out _ _ ((blk_cell HC10.out 1).trans rfl) (fun hHeld => ?_)
              clear hK K
              refine norm_ (a' := ?_) ?_ ?_
              rotate_left
              · show Act.put _ (some 27) _ = _; simp only [Act.put, List.setIfInBounds_toArray, List.set_cons_zero, List.set_cons_succ, i64_w, i32_w]
                rfl
              refine one_ (i := 5) (N := some 29) #[true, true, true, true, true, true, false, true, false, false, false, false, false, false] rfl rfl (by kernel_rfl) (by decide) (fun K hK => ?_)
              refine goesC_ Try.func32 (by kernel_rfl) rfl #[.pointer (some ⟨Bb, 0, none⟩), .pointer (some ⟨Bb + 1, 0, none⟩)] (by rfl) rfl rfl (by rfl) (by simp) ?_
              with_reducible refine (num_calls k1 Bb (Bb + 1) _ _ _ _ _ _ EY10.out HBN.out).mono ?_
              rintro e w11 ⟨rfl, hE_, hkp_, hz_, hbl_⟩
              have EY11 := Aside0.mk hE_
              have HB11 := Aside0.mk (HB10.out.trans (hbl_ _ (by omega) (by omega) (by omega)))
              have HK11 := Aside0.mk ((hkp_.2 w.heap.size (by omega) (by omega)).trans HK10.out)
              have HC11 := Aside0.mk ((hkp_.2 Bc hz10 (by omega)).trans HC10.out)
              have HR11 := Aside0.mk (Kd.R_mono (ok' := fun k => k ≠ Bc) (Kd.R_step (Kd.R_bound HR10.out) (fun k hk hlt => hkp_.2 k hlt (by have h1 := hk.2.1; omega))) (fun k hk => hk.1))
              have hz11 : Bc < w11.heap.size := by omega
              clear hE_ hkp_ hz_ hbl_
              refine ⟨_, rfl, ?_⟩
              refine hK.out _ _ ((blk_cell HC11.out 1).trans rfl) (fun hHeld => ?_)
              clear hK K
              refine norm_ (a' := ?_) ?_ ?_
              rotate_left
              · show Act.put _ (some 29) _ = _; simp only [Act.put, List.setIfInBounds_toArray, List.set_cons_zero, List.set_cons_succ, i64_w, i32_w]
                rfl
              refine pure_ (i := 6) (N := some 30) (v := ?_) (a' := ?_) #[true, true, true, true, true, true, true, true, false, false, false, false, false, false] rfl rfl (by kernel_rfl) (fun _ _ _ h => h) (Or.inl ⟨by rfl, ?_⟩) ?_ ?_
              rotate_left
              · intro w'
                go_simp
                with_reducible rfl
              rotate_left
              · simp only [Act.put, List.setIfInBounds_toArray, List.set_cons_zero, List.set_cons_succ, i64_w, i32_w]
                rfl
              refine one_ (i := 8) (N := some 32) #[true, true, true, true, true, true, true, true, true, false, false, false, false, false] rfl rfl (by kernel_rfl) (by decide) (fun K hK => ?_)
              refine goesC_ Try.func32 (by kernel_rfl) rfl #[.pointer (some ⟨Bb, 0, none⟩), .pointer (some ⟨Bb + 1, 0, none⟩)] (by rfl) rfl rfl (by rfl) (by simp) ?_
              with_reducible refine (num_calls k1 Bb (Bb + 1) _ _ _ _ _ _ EY11.out HCN.out).mono ?_
              rintro e w13 ⟨rfl, hE_, hkp_, hz_, hbl_⟩
              have EY13 := Aside0.mk hE_
              have HB13 := Aside0.mk (HB11.out.trans (hbl_ _ (by omega) (by omega) (by omega)))
              have HK13 := Aside0.mk ((hkp_.2 w.heap.size (by omega) (by omega)).trans HK11.out)
              have HC13 := Aside0.mk ((hkp_.2 Bc hz11 (by omega)).trans HC11.out)
              have HR13 := Aside0.mk (Kd.R_mono (ok' := fun k => k ≠ Bc) (Kd.R_step (Kd.R_bound HR11.out) (fun k hk hlt => hkp_.2 k hlt (by have h1 := hk.2.1; omega))) (fun k hk => hk.1))
              have hz13 : Bc < w13.heap.size := by omega
              clear hE_ hkp_ hz_ hbl_
              refine ⟨_, rfl, ?_⟩
              refine hK.out _ _ ((blk_cell HC13.out 1).trans rfl) (fun hHeld => ?_)
              clear hK K
              refine norm_ (a' := ?_) ?_ ?_
              rotate_left
              · show Act.put _ (some 32) _ = _; simp only [Act.put, List.setIfInBounds_toArray, List.set_cons_zero, List.set_cons_succ, i64_w, i32_w]
                rfl
              refine pure_ (i := 9) (N := some 33) (v := ?_) (a' := ?_) #[true, true, true, true, true, true, true, true, true, true, false, false, false, false] rfl rfl (by kernel_rfl) (fun _ _ _ h => h) (Or.inl ⟨by rfl, ?_⟩) ?_ ?_
              rotate_left
              · intro w'
                go_simp
                with_reducible rfl
              rotate_left
              · simp only [Act.put, List.setIfInBounds_toArray, List.set_cons_zero, List.set_cons_succ, i64_w, i32_w]
                rfl
              refine one_ (i := 10) (N := some 34) #[true, true, true, true, true, true, true, true, true, true, true, false, false, false] rfl rfl (by kernel_rfl) (by decide) (fun K hK => ?_)
              refine value_ (w1 := ?_) (v := ?_) (by rfl) rfl ?_ ?_
              rotate_left 2
              · go_simp
                constructor
                · rfl
                · rfl
              refine hK.out _ _ ((blk_cell (blk_alloc HC13.out _) 1).trans rfl) (fun hHeld => ?_)
              clear hK K
              refine norm_ (a' := ?_) ?_ ?_
              rotate_left
              · show Act.put _ (some 34) _ = _; simp only [Act.put, List.setIfInBounds_toArray, List.set_cons_zero, List.set_cons_succ, i64_w, i32_w]
                rfl
              refine one_ (i := 11) (N := some 35) #[true, true, true, true, true, true, true, true, true, true, true, true, false, false] rfl rfl (by kernel_rfl) (by decide) (fun K hK => ?_)
              refine Kd.R_append_step k43 (w0 := w13) Bc (by rfl) (.tmp 25) (.tmp 34) 22 43 (.agg #[(.int .i64 0), (.int .i64 0), (.int .i64 0)]) 24 rfl Try.underlying22 info43 rfl (by decide) (by decide) (.slice Au acc.length cu) acc (⟨⟨a1, b1⟩, c1⟩ : S43) [.int .i64 a1, .int .i64 b1, .int .i64 c1] (fun k => k ≠ Bc) (fun _ => False) rfl rfl (k43_mkM _ _ _ (⟨⟨a1, b1⟩, c1⟩ : S43)) (fun _ h => h.elim) (fun k hk => by omega) HR13.out (show Below Bc w13 w13 from Below.refl _ _) (by omega) (by omega) ?_
              intro v12 w12 hO_ hX_ hg_ hat_
              obtain ⟨A12, c12, rfl⟩ := Kd.R_slice hO_
              simp only [List.length_append, List.length_singleton] at hO_
              have hnb : some Bb ≠ (Value.slice Au acc.length cu).ownBlock := fun e => by have h1 := (Kd.R_bound HR13.out).1 Bb e.symm; have h2 := h1.2.1; omega
              have hnb2 : some (Bb + 1) ≠ (Value.slice Au acc.length cu).ownBlock := fun e => by have h1 := (Kd.R_bound HR13.out).1 (Bb + 1) e.symm; have h2 := h1.2.1; omega
              have hnb3 : some w.heap.size ≠ (Value.slice Au acc.length cu).ownBlock := fun e => by have h1 := (Kd.R_bound HR13.out).1 w.heap.size e.symm; have h2 := h1.2.1; omega
              have hnb4 : some Bc ≠ (Value.slice Au acc.length cu).ownBlock := fun e => HR13.out.1 Bc e.symm rfl
              have HC12 := Aside0.mk (blk_grown HC13.out hg_ hnb4)
              have HK12 := Aside0.mk (blk_grown HK13.out hg_ hnb3)
              have HR12 := Aside0.mk hO_
              have EY12 := Aside0.mk (EY13.out.kept (Kept.of_grown hg_ (Kept.refl _ _) (fun b hb => Or.inl (by have h1 := (Kd.R_bound HR13.out).1 b hb; have h2 := h1.2.1; omega))))
              have HB12 := Aside0.mk (HB13.out.grown hg_ HB13.out.size (fun b hb => by have h1 := (Kd.R_bound HR13.out).1 b hb; have h2 := h1.2.1; omega))
              have hz12 : Bb ≠ Bc ∧ Bb + 1 ≠ Bc := by omega
              clear hO_ hX_ hg_ hat_ hnb hnb2 hnb3 hnb4
              refine hK.out _ _ ((blk_cell HC12.out 1).trans rfl) (fun hHeld => ?_)
              clear hK K
              refine norm_ (a' := ?_) ?_ ?_
              rotate_left
              · show Act.put _ (some 35) _ = _; simp only [Act.put, List.setIfInBounds_toArray, List.set_cons_zero, List.set_cons_succ, i64_w, i32_w]
                rfl
              refine pure_ (i := 12) (N := some 36) (v := ?_) (a' := ?_) #[true, true, true, true, true, true, true, true, true, true, true, true, true, false] rfl rfl (by kernel_rfl) (fun _ _ _ h => h) (Or.inl ⟨by rfl, ?_⟩) ?_ ?_
              rotate_left
              · intro w'
                go_simp
                with_reducible rfl
              rotate_left
              · simp only [Act.put, List.setIfInBounds_toArray, List.set_cons_zero, List.set_cons_succ, i64_w, i32_w]
                rfl
              have t1 : w12.cell? ⟨Bc, 1, none⟩ = some (.slice Au acc.length cu) := (blk_cell HC12.out 1).trans rfl
              have t2 := blk_frozen HC12.out 1
              refine last_ (i := 13) (N := none) #[true, true, true, true, true, true, true, true, true, true, true, true, true, true] rfl rfl (by kernel_rfl) (by decide) (fun K hK => ?_)
              refine skip_ (w1 := ?_) (by rfl) rfl ?_ ?_
              rotate_left
              · go_simp
                rfl
              refine hK.out _ _ ?_
              clear hK K
              refine done_ (by kernel_rfl) ?_
              go_wp2
              go_roundg k1
              case measure => omega
              case rel => exact ⟨n - 1, lc, gc, acc ++ [⟨⟨a1, b1⟩, c1⟩], _, by go_num, by omega, HLN, ⟨EY12.out.kept (Kept.setCell (p := ⟨Bc, 1, none⟩) (Kept.refl _ _) (Or.inl (show Bb + 1 < Bc by omega)) _)⟩, ⟨blk_far (p := ⟨Bc, 1, none⟩) HK12.out (show w.heap.size ≠ Bc by omega) _⟩, ⟨blk_put (cs := #[.int .i64 ep, .slice Au acc.length cu]) HC12.out 1 _ rfl⟩, ⟨Kd.R_far (p := ⟨Bc, 1, none⟩) HR12.out (fun _ hk => hk) _⟩, ⟨HB12.out.setCell (p := ⟨Bc, 1, none⟩) (show w.heap.size ≤ Bc by omega) _⟩⟩
            · rw [if_neg hac] at hl; cases hl
          | false =>
            simp only [Bool.false_eq_true, if_false] at hl
            obtain rfl := Option.some.inj hl
            have he := HE.out
            rw [if_neg (by simp)] at he
            obtain ⟨rfl, rfl, rfl⟩ : 0 = r1 ∧ [] = r2 ∧ 5 = r3 := by simpa using he
            go_wp2
            refine bodyPost_ret (results_ct rfl _ _ w.heap.size 24 #[.int .i64 0, .slice none 0 0] (0, 0) _ rfl ?_ Try.underlying24 rfl (by kernel_rfl)) rfl ?_
            · refine blk_put (cs := #[.int .i64 0, .slice none 0 0]) ?_ 1 _ rfl
              exact blk_put (cs := #[.int .i64 0, .slice none 0 0]) HK.out 0 _ rfl
            · exact ⟨_, rfl, Kd.R_nil _ _ _ _ _, (HB.out.setCell (p := ⟨w.heap.size, 0, none⟩) (Nat.le_refl _) _).setCell (p := ⟨w.heap.size, 1, none⟩) (Nat.le_refl _) _⟩
        · rw [if_neg hn] at hl
          obtain rfl := Option.some.inj hl
          have f1 : decide (0 < n) = false := decide_eq_false hn
          cases g with
          | false =>
            have he := HE.out
            rw [if_neg (by simp)] at he
            obtain ⟨rfl, rfl, rfl⟩ : 0 = r1 ∧ [] = r2 ∧ 5 = r3 := by simpa using he
            go_wp2
            refine bodyPost_ret (results_ct rfl _ _ w.heap.size 24 #[.int .i64 0, .slice none 0 0] (0, 0) _ rfl ?_ Try.underlying24 rfl (by kernel_rfl)) rfl ?_
            · refine blk_put (cs := #[.int .i64 0, .slice none 0 0]) ?_ 1 _ rfl
              exact blk_put (cs := #[.int .i64 0, .slice none 0 0]) HK.out 0 _ rfl
            · exact ⟨_, rfl, Kd.R_nil _ _ _ _ _, (HB.out.setCell (p := ⟨w.heap.size, 0, none⟩) (Nat.le_refl _) _).setCell (p := ⟨w.heap.size, 1, none⟩) (Nat.le_refl _) _⟩
          | true =>
            by_cases hl0 : l.length = 0
            · have he := HE.out
              rw [if_pos ⟨rfl, hl0⟩] at he
              obtain ⟨t, ht, he⟩ := Option.bind_eq_some_iff.1 he
              have f2 : decide (0 < l.length) = false := decide_eq_false (by omega)
              have f3 : decide ((0 : Int) < (l.length : Int)) = false := decide_eq_false (by omega)
              have hR2 := Kd.R_reads' HR.out
              have hcM := chart_May.calls k ep Au cu acc t wr hR2.2.2 hR2.2.1 ht
              clear hR2 ht hl0
              cases t with
              | false =>
                simp only [Bool.false_eq_true, if_false] at he
                obtain ⟨rfl, rfl, rfl⟩ : 0 = r1 ∧ [] = r2 ∧ 5 = r3 := by simpa using he
                go_wp2_with fail
                (with_reducible refine hcM.mono ?_)
                rintro e w9 ⟨rfl, hb9⟩
                have HK9 := Aside0.mk (blk_below HK.out hb9)
                have HC9 := Aside0.mk (blk_below HC.out hb9)
                have HB9 := Aside0.mk (HB.out.trans (hb9.mono HB.out.size))
                have HR9 := Aside0.mk (Kd.R_below HR.out hb9)
                have e9 : w9.cell? ⟨w.heap.size, 0, none⟩ = some (.int .i64 0) := (blk_cell HK9.out 0).trans rfl
                have e10 : w9.cell? ⟨w.heap.size, 1, none⟩ = some (.slice none 0 0) := (blk_cell HK9.out 1).trans rfl
                have e11 := blk_frozen HK9.out 0
                have e12 := blk_frozen HK9.out 1
                have e13 : w9.cell? ⟨Bc, 0, none⟩ = some (.int .i64 ep) := (blk_cell HC9.out 0).trans rfl
                have e14 : w9.cell? ⟨Bc, 1, none⟩ = some (.slice Au acc.length cu) := (blk_cell HC9.out 1).trans rfl
                clear hb9
                go_wp2
                refine bodyPost_ret (results_ct rfl _ _ w.heap.size 24 #[.int .i64 0, .slice none 0 0] (0, 0) _ rfl ?_ Try.underlying24 rfl (by kernel_rfl)) rfl ?_
                · refine blk_put (cs := #[.int .i64 0, .slice none 0 0]) ?_ 1 _ rfl
                  exact blk_put (cs := #[.int .i64 0, .slice none 0 0]) HK9.out 0 _ rfl
                · exact ⟨_, rfl, Kd.R_nil _ _ _ _ _, (HB9.out.setCell (p := ⟨w.heap.size, 0, none⟩) (Nat.le_refl _) _).setCell (p := ⟨w.heap.size, 1, none⟩) (Nat.le_refl _) _⟩
              | true =>
                simp only [if_true] at he
                obtain ⟨rfl, rfl, rfl⟩ : ep = r1 ∧ acc = r2 ∧ 0 = r3 := by simpa using he
                go_wp2_with fail
                (with_reducible refine hcM.mono ?_)
                rintro e w9 ⟨rfl, hb9⟩
                have HK9 := Aside0.mk (blk_below HK.out hb9)
                have HC9 := Aside0.mk (blk_below HC.out hb9)
                have HB9 := Aside0.mk (HB.out.trans (hb9.mono HB.out.size))
                have HR9 := Aside0.mk (Kd.R_below HR.out hb9)
                have e9 : w9.cell? ⟨w.heap.size, 0, none⟩ = some (.int .i64 0) := (blk_cell HK9.out 0).trans rfl
                have e10 : w9.cell? ⟨w.heap.size, 1, none⟩ = some (.slice none 0 0) := (blk_cell HK9.out 1).trans rfl
                have e11 := blk_frozen HK9.out 0
                have e12 := blk_frozen HK9.out 1
                have e13 : w9.cell? ⟨Bc, 0, none⟩ = some (.int .i64 ep) := (blk_cell HC9.out 0).trans rfl
                have e14 : w9.cell? ⟨Bc, 1, none⟩ = some (.slice Au acc.length cu) := (blk_cell HC9.out 1).trans rfl
                clear hb9
                have RR := Aside0.mk (show Kd.R k43 43 w9 w.heap.size (fun k => k ≠ w.heap.size) (.slice Au acc.length cu) acc from Kd.R_lower (Kd.R_mono (Kd.R_bound HR9.out) (fun k hk => by have h1 := hk.2.1; omega)) (by omega))
                go_wp2
                refine bodyPost_ret (results_ct rfl _ _ w.heap.size 24 #[.int .i64 ep, .slice Au acc.length cu] (0, 0) _ rfl ?_ Try.underlying24 rfl (by kernel_rfl)) rfl ?_
                · refine blk_put (cs := #[.int .i64 ep, .slice none 0 0]) ?_ 1 _ rfl
                  exact blk_put (cs := #[.int .i64 0, .slice none 0 0]) HK9.out 0 _ rfl
                · exact ⟨_, rfl, Kd.R_mono (Kd.R_far (p := ⟨w.heap.size, 1, none⟩) (Kd.R_far (p := ⟨w.heap.size, 0, none⟩) RR.out (fun _ hk => hk) _) (fun _ hk => hk) _) (fun _ _ => trivial), (HB9.out.setCell (p := ⟨w.heap.size, 0, none⟩) (Nat.le_refl _) _).setCell (p := ⟨w.heap.size, 1, none⟩) (Nat.le_refl _) _⟩
            · have he := HE.out
              rw [if_neg (fun e => hl0 e.2)] at he
              have f2 : decide (0 < l.length) = true := decide_eq_true (by omega)
              have f3 : decide ((0 : Int) < (l.length : Int)) = true := decide_eq_true (by omega)
              obtain ⟨rfl, rfl, rfl⟩ : 0 = r1 ∧ [] = r2 ∧ 5 = r3 := by simpa using he
              go_wp2
              refine bodyPost_ret (results_ct rfl _ _ w.heap.size 24 #[.int .i64 0, .slice none 0 0] (0, 0) _ rfl ?_ Try.underlying24 rfl (by kernel_rfl)) rfl ?_
              · refine blk_put (cs := #[.int .i64 0, .slice none 0 0]) ?_ 1 _ rfl
                exact blk_put (cs := #[.int .i64 0, .slice none 0 0]) HK.out 0 _ rfl
              · exact ⟨_, rfl, Kd.R_nil _ _ _ _ _, (HB.out.setCell (p := ⟨w.heap.size, 0, none⟩) (Nat.le_refl _) _).setCell (p := ⟨w.heap.size, 1, none⟩) (Nat.le_refl _) _⟩
  · rw [if_neg hsz] at h; cases h
end Go.Proofs.Yteppmdafdopehaa.P
