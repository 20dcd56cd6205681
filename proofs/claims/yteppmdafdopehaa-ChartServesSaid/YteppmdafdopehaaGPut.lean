/- chart.Move's inner function: a piece is put behind the others. No conditions. -/
import Derived.Test.YteppmdafdopehaaP3
namespace Go.Proofs.Yteppmdafdopehaa.P
open Go.RowKit Go.Proofs.YteppmdafdopehaaW.PrintWords Go.Proofs.YteppmdafdopehaaW.PrintLast Go.Proofs.YteppmdafdopehaaW.PrintMore
set_option linter.unusedVariables false
set_option linter.unusedSimpArgs false

def mayB (x : S26) : Bool := decide (0 ≤ x.f0) && (decide (x.f0 < x.f1) && decide (x.f1 ≤ 65536))
theorem may_f (x : S26) : place_May.f x.f0 x.f1 = some (mayB x) := by
  unfold place_May.f mayB
  by_cases h1 : x.f0 ≥ 0 <;> by_cases h2 : x.f0 < x.f1 <;> simp [h1, h2] <;> omega
def lastP (o : List S43) : S43 := o.getD (o.length - 1) z43
def putC (o : List S43) (x : S26) (n : Int) : List S43 :=
  if mayB x = true then (if 0 < o.length ∧ (lastP o).f1 = n then o.set (o.length - 1) ⟨⟨(lastP o).f0.f0, x.f1⟩, (lastP o).f1⟩ else o ++ [⟨x, n⟩]) else o
theorem putC_len (o : List S43) (x : S26) (n : Int) : (putC o x n).length ≤ o.length + 1 := by
  unfold putC; split
  · split <;> simp
  · omega
theorem setCells_one (w : World) (g i : Nat) (v : Value) : w.setCells g i [v] = w.setCell ⟨g, i, none⟩ v := by
  rfl

/-- What the piece's putting leaves. -/
def PutPost (base B : Nat) (ep : Int) (ok : Nat → Prop) (r : List S43) (w : World) (e : Ending) (w' : World) : Prop :=
  ∃ v' : Value, e = .returned (.tuple #[]) ∧ w'.heap[B]? = some (.cells #[.int .i64 ep, v'] 24 (0, 0)) ∧ Kd.R k43 43 w' base ok v' r ∧ Kept w w' (fun k => k = B ∨ ok k) ∧ Below base w w'

set_option maxHeartbeats 2000000 in
theorem put_no (B : Nat) (ep : Int) (x : S26) (n : Int) (o : List S43) (v : Value) (base : Nat) (ok : Nat → Prop) (w : World) (hB : w.heap[B]? = some (.cells #[.int .i64 ep, v] 24 (0, 0))) (hbase : base ≤ w.heap.size)
    (ho : Kd.R k43 43 w base ok v o) (hm : mayB x = false) :
    Calls Try.prog 23 #[.agg #[.int .i64 x.f0, .int .i64 x.f1], .int .i64 n, .pointer (some ⟨B, 0, none⟩)] w (PutPost base B ep ok (putC o x n) w) := by
  have hr : putC o x n = o := by unfold putC; rw [hm]; rfl
  rw [hr]
  have HB := Aside0.mk hB
  have HO := Aside0.mk ho
  have hcall := fun W => place_May.calls x.f0 x.f1 false W (by rw [may_f, hm])
  clear hB ho hm hr
  go_enter Try.func23, Try.ntmps23
  go_wp2_with (go_at_call 14; (with_reducible refine (hcall _).mono ?_); rintro e w' ⟨rfl, hb⟩)
  go_end0
  refine ⟨v, rfl, blk_below (blk_alloc HB.out _) hb, Kd.R_below (Kd.R_alloc HO.out _) hb, Kept.below (Kept.alloc (Kept.refl _ _) _) hb, ?_⟩
  exact ((Below.refl base w).alloc hbase _).trans (hb.mono (by simp; omega))

set_option maxHeartbeats 2000000 in
theorem put_new (B : Nat) (ep : Int) (x : S26) (n : Int) (o : List S43) (v : Value) (base : Nat) (ok : Nat → Prop) (w : World) (hB : w.heap[B]? = some (.cells #[.int .i64 ep, v] 24 (0, 0))) (hbase : base ≤ w.heap.size) (hBb : base ≤ B)
    (ho : Kd.R k43 43 w base ok v o) (hok : ∀ k, w.heap.size ≤ k → ok k) (hokB : ∀ k, ok k → k ≠ B) (hm : mayB x = true) (hl : o.length ≤ 1000000) (hc : ¬ (0 < o.length ∧ (lastP o).f1 = n)) :
    Calls Try.prog 23 #[.agg #[.int .i64 x.f0, .int .i64 x.f1], .int .i64 n, .pointer (some ⟨B, 0, none⟩)] w (PutPost base B ep ok (putC o x n) w) := by
  have hr : putC o x n = o ++ [⟨x, n⟩] := by unfold putC; rw [if_pos hm, if_neg hc]
  rw [hr]
  have HB := Aside0.mk hB
  have HO := Aside0.mk ho
  have HOK := Aside0.mk hok
  have HOKB := Aside0.mk hokB
  have hcall := fun W => place_May.calls x.f0 x.f1 true W (by rw [may_f, hm])
  obtain ⟨A, c, rfl, hlc, hC⟩ := Kd.R_reads ho
  have HC := Aside0.mk hC
  have HCC := Aside0.mk hc
  have hlt := blk_lt hB
  clear hB ho hm hr hok hokB hC hc
  have hAPP : ∀ (W : World), True := fun _ => trivial
  by_cases h0 : 0 < o.length
  · have hne : ¬ (lastP o).f1 = n := fun e => HCC.out ⟨h0, e⟩
    have f0 : decide (0 < o.length) = true := decide_eq_true h0
    have f1 : decide ((0 : Int) < (o.length : Int)) = true := decide_eq_true (by omega)
    have p1 : (0 : Int) ≤ (o.length : Int) - 1 := by omega
    have q1 : (o.length : Int) - 1 < (o.length : Int) := by omega
    have f2 : ((lastP o).f1 == n) = false := beq_eq_false_iff_ne.2 hne
    obtain ⟨ad, rfl, hx0, hx1, hx2⟩ := at_T43 HC.out ((o.length : Int) - 1) p1 q1
    have hq : ((o.length : Int) - 1).toNat = o.length - 1 := by omega
    unfold rd_T43 at hx2
    rw [hq] at hx2
    have HX2 := Aside0.mk (show w.cell? ⟨(ad.add ((o.length - 1) * 3)).block, (ad.add ((o.length - 1) * 3)).off + 2, none⟩ = some (.int .i64 (lastP o).f1) from hx2)
    clear hx0 hx1 hx2 hq
    go_enter Try.func23, Try.ntmps23
    go_wp2_with (first
      | (go_at_call 14; (with_reducible refine (hcall _).mono ?_); rintro e w' ⟨rfl, hb⟩; have HBB := Aside0.mk hb; have hv0 : w'.cell? ⟨B, 1, none⟩ = some (.slice (some ad) o.length c) := (blk_cell (blk_below (blk_alloc HB.out _) hb) 1).trans rfl; have hx2 := pw_cell_below (below_step (below_alloc (Below.refl _ _) _) hb) HX2.out; have hf0 := blk_frozen (blk_below (blk_alloc HB.out _) hb) 1; have hg0 : w'.cell? ⟨w.heap.size, 0, none⟩ = some (.int .i64 x.f0) := (blk_cell (blk_below (heap_alloc_new w _) hb) 0).trans rfl; have hg1 : w'.cell? ⟨w.heap.size, 1, none⟩ = some (.int .i64 x.f1) := (blk_cell (blk_below (heap_alloc_new w _) hb) 1).trans rfl; have hz : w.heap.size < w'.heap.size := (by have := hb.size; simp at this; omega); clear hb)
      | (at_builtin; refine Kd.R_append k43 (w0 := w) base rfl _ _ 22 43 (.agg #[(.int .i64 0), (.int .i64 0), (.int .i64 0)]) 24 rfl Try.underlying22 info43 rfl (by decide) (by omega) (.slice (some ad) o.length c) o (⟨x, n⟩ : S43) [.int .i64 x.f0, .int .i64 x.f1, .int .i64 n] ok (fun _ => False) rfl rfl (k43_mkM _ _ _ (⟨x, n⟩ : S43)) (fun _ h => h.elim) (fun k hk => HOK.out k (by omega)) (Kd.R_below (Kd.R_alloc HO.out _) HBB.out) (((Below.refl base w).alloc hbase _).trans (HBB.out.mono (by simp; omega))) (by omega) (by omega) ?_; intro v5 w5 hO5 hX5 hg5 hat5; obtain ⟨A5, c5, rfl⟩ := Kd.R_slice hO5; simp only [List.length_append, List.length_singleton] at hO5; have hB5 := blk_grown (blk_below (blk_alloc HB.out _) HBB.out) hg5 (fun e => HOKB.out B (HO.out.1 B e.symm) rfl); have HB5 := Aside0.mk hB5; have hf5 := blk_frozen hB5 1; have hc5 : w5.cell? ⟨B, 1, none⟩ = some (.slice (some ad) o.length c) := (blk_cell hB5 1).trans rfl; have HO5 := Aside0.mk hO5; have HX5 := Aside0.mk hX5; have HG5 := Aside0.mk hg5; clear hB5 hO5 hX5 hg5 hat5))
    go_end0
    refine ⟨_, rfl, blk_put (cs := #[.int .i64 ep, .slice (some ad) o.length c]) HB5.out 1 _ rfl, ?_, ?_, ?_⟩
    · exact Kd.R_far (p := ⟨B, 1, none⟩) HO5.out (fun k hk => HOKB.out k hk) _
    · have HK0 : Kept w w5 (fun k => k = B ∨ ok k) := Kept.of_grown HG5.out (Kept.below (Kept.alloc (Kept.refl _ _) _) HBB.out) (fun k hk => Or.inl (Or.inr (HO.out.1 k hk)))
      exact HK0.setCell (p := ⟨B, 1, none⟩) (Or.inl (Or.inl rfl)) _
    · exact HX5.out.setCell hBb _
  · have hl0 : o.length = 0 := by omega
    have f0 : decide (0 < o.length) = false := decide_eq_false h0
    have f1 : decide ((0 : Int) < (o.length : Int)) = false := decide_eq_false (by omega)
    have HL0 := Aside0.mk hl0
    clear hl0 h0
    go_enter Try.func23, Try.ntmps23
    go_wp2_with (first
      | (go_at_call 14; (with_reducible refine (hcall _).mono ?_); rintro e w' ⟨rfl, hb⟩; have HBB := Aside0.mk hb; have hv0 : w'.cell? ⟨B, 1, none⟩ = some (.slice A o.length c) := (blk_cell (blk_below (blk_alloc HB.out _) hb) 1).trans rfl; have hf0 := blk_frozen (blk_below (blk_alloc HB.out _) hb) 1; have hg0 : w'.cell? ⟨w.heap.size, 0, none⟩ = some (.int .i64 x.f0) := (blk_cell (blk_below (heap_alloc_new w _) hb) 0).trans rfl; have hg1 : w'.cell? ⟨w.heap.size, 1, none⟩ = some (.int .i64 x.f1) := (blk_cell (blk_below (heap_alloc_new w _) hb) 1).trans rfl; have hz : w.heap.size < w'.heap.size := (by have := hb.size; simp at this; omega); clear hb)
      | (at_builtin; refine Kd.R_append k43 (w0 := w) base rfl _ _ 22 43 (.agg #[(.int .i64 0), (.int .i64 0), (.int .i64 0)]) 24 rfl Try.underlying22 info43 rfl (by decide) (by omega) (.slice A o.length c) o (⟨x, n⟩ : S43) [.int .i64 x.f0, .int .i64 x.f1, .int .i64 n] ok (fun _ => False) rfl rfl (k43_mkM _ _ _ (⟨x, n⟩ : S43)) (fun _ h => h.elim) (fun k hk => HOK.out k (by omega)) (Kd.R_below (Kd.R_alloc HO.out _) HBB.out) (((Below.refl base w).alloc hbase _).trans (HBB.out.mono (by simp; omega))) (by omega) (by omega) ?_; intro v5 w5 hO5 hX5 hg5 hat5; obtain ⟨A5, c5, rfl⟩ := Kd.R_slice hO5; simp only [List.length_append, List.length_singleton] at hO5; have hB5 := blk_grown (blk_below (blk_alloc HB.out _) HBB.out) hg5 (fun e => HOKB.out B (HO.out.1 B e.symm) rfl); have HB5 := Aside0.mk hB5; have hf5 := blk_frozen hB5 1; have hc5 : w5.cell? ⟨B, 1, none⟩ = some (.slice A o.length c) := (blk_cell hB5 1).trans rfl; have HO5 := Aside0.mk hO5; have HX5 := Aside0.mk hX5; have HG5 := Aside0.mk hg5; clear hB5 hO5 hX5 hg5 hat5))
    go_end0
    refine ⟨_, rfl, blk_put (cs := #[.int .i64 ep, .slice A o.length c]) HB5.out 1 _ rfl, ?_, ?_, ?_⟩
    · exact Kd.R_far (p := ⟨B, 1, none⟩) HO5.out (fun k hk => HOKB.out k hk) _
    · have HK0 : Kept w w5 (fun k => k = B ∨ ok k) := Kept.of_grown HG5.out (Kept.below (Kept.alloc (Kept.refl _ _) _) HBB.out) (fun k hk => Or.inl (Or.inr (HO.out.1 k hk)))
      exact HK0.setCell (p := ⟨B, 1, none⟩) (Or.inl (Or.inl rfl)) _
    · exact HX5.out.setCell hBb _

set_option maxHeartbeats 2000000 in
theorem put_old (B : Nat) (ep : Int) (x : S26) (n : Int) (o : List S43) (v : Value) (base : Nat) (ok : Nat → Prop) (w : World) (hB : w.heap[B]? = some (.cells #[.int .i64 ep, v] 24 (0, 0))) (hbase : base ≤ w.heap.size) (hBb : base ≤ B)
    (ho : Kd.R k43 43 w base ok v o) (hokB : ∀ k, ok k → k ≠ B) (hm : mayB x = true) (hl : o.length ≤ 1000000) (h0 : 0 < o.length) (hc : (lastP o).f1 = n) :
    Calls Try.prog 23 #[.agg #[.int .i64 x.f0, .int .i64 x.f1], .int .i64 n, .pointer (some ⟨B, 0, none⟩)] w (PutPost base B ep ok (putC o x n) w) := by
  have hr : putC o x n = o.set (o.length - 1) ⟨⟨(lastP o).f0.f0, x.f1⟩, (lastP o).f1⟩ := by unfold putC; rw [if_pos hm, if_pos ⟨h0, hc⟩]
  rw [hr]
  have HB := Aside0.mk hB
  have hcall := fun W => place_May.calls x.f0 x.f1 true W (by rw [may_f, hm])
  obtain ⟨g, c, rfl, hbg, hgl, _⟩ := Kd.R_form ho h0
  have HO := Aside0.mk ho
  have hgB : g ≠ B := hokB g (ho.1 g rfl)
  have hBg : B ≠ g := fun e => hgB e.symm
  have hlt := blk_lt hB
  clear hB hr hokB
  have f0 : decide (0 < o.length) = true := decide_eq_true h0
  have f1 : decide ((0 : Int) < (o.length : Int)) = true := decide_eq_true (by omega)
  have p1 : (0 : Int) ≤ (o.length : Int) - 1 := by omega
  have q1 : (o.length : Int) - 1 < (o.length : Int) := by omega
  have f2 : ((lastP o).f1 == n) = true := beq_iff_eq.2 hc
  have hq : ((o.length : Int) - 1).toNat = o.length - 1 := by omega
  have hadd : (⟨g, 0, none⟩ : Addr).add ((o.length - 1) * 3) = ⟨g, (o.length - 1) * 3, none⟩ := add_plain _ _
  have HEL := Aside0.mk (fun (W : World) (hR : Kd.R k43 43 W base ok (.slice (some ⟨g, 0, none⟩) o.length c) o) => Kd.R_elem hR z43 ((o.length : Int) - 1) p1 q1)
  rw [hq] at HEL
  clear hc ho
  go_enter Try.func23, Try.ntmps23
  go_wp2_with (first
      | (go_at_call 14; (with_reducible refine (hcall _).mono ?_); rintro e w' ⟨rfl, hb⟩; have HBB := Aside0.mk hb; have hv0 : w'.cell? ⟨B, 1, none⟩ = some (.slice (some ⟨g, 0, none⟩) o.length c) := (blk_cell (blk_below (blk_alloc HB.out _) hb) 1).trans rfl; have HO2 := Aside0.mk (Kd.R_below (Kd.R_alloc HO.out _) hb); obtain ⟨cs, hcl, hM, hcc, hfr⟩ := HEL.out w' HO2.out; obtain rfl := k43_openM hM; have hx2 : w'.cell? ⟨g, (o.length - 1) * 3 + 2, none⟩ = some (.int .i64 (lastP o).f1) := hcc 2 _ rfl; have hx1 : w'.cell? ⟨g, (o.length - 1) * 3 + 1, none⟩ = some (.int .i64 (lastP o).f0.f1) := hcc 1 _ rfl; have hfx : w'.frozen? ⟨g, (o.length - 1) * 3 + 1, none⟩ = false := hfr 1; have hf0 := blk_frozen (blk_below (blk_alloc HB.out _) hb) 1; have hg0 : w'.cell? ⟨w.heap.size, 0, none⟩ = some (.int .i64 x.f0) := (blk_cell (blk_below (heap_alloc_new w _) hb) 0).trans rfl; have hg1 : w'.cell? ⟨w.heap.size, 1, none⟩ = some (.int .i64 x.f1) := (blk_cell (blk_below (heap_alloc_new w _) hb) 1).trans rfl; have hz : w.heap.size < w'.heap.size := (by have := hb.size; simp at this; omega); have HCL := Aside0.mk hcl; have HCC := Aside0.mk hcc; clear hb hcl hM hcc hfr))
  go_end0
  have hS := Kd.R_seg (okp := fun k => ok k ∧ k ≠ g) HO2.out ((o.length : Int) - 1) p1 q1 (c := [.int .i64 (lastP o).f0.f0, .int .i64 (lastP o).f0.f1, .int .i64 (lastP o).f1]) (seg := [.int .i64 x.f1]) (j := 1) HCL.out (by rw [hq]; exact HCC.out) (show 2 ≤ 3 from by decide) (x' := ⟨⟨(lastP o).f0.f0, x.f1⟩, (lastP o).f1⟩) (k43_mkM _ _ _ (⟨⟨(lastP o).f0.f0, x.f1⟩, (lastP o).f1⟩ : S43)) (fun _ hk => hk)
  rw [hq, setCells_one] at hS
  refine ⟨_, rfl, blk_far (p := ⟨g, (o.length - 1) * 3 + 1, none⟩) (blk_below (blk_alloc HB.out _) HBB.out) hBg _, ?_, ?_, ?_⟩
  · exact hS.1
  · have HK0 : Kept w w' (fun k => k = B ∨ ok k) := Kept.below (Kept.alloc (Kept.refl _ _) _) HBB.out
    exact HK0.setCell (p := ⟨g, (o.length - 1) * 3 + 1, none⟩) (Or.inl (Or.inr (HO.out.1 g rfl))) _
  · have hX : Below base w w' := ((Below.refl base w).alloc hbase _).trans (HBB.out.mono (by simp; omega))
    exact hX.setCell (p := ⟨g, (o.length - 1) * 3 + 1, none⟩) hbg _

theorem put_calls (B : Nat) (ep : Int) (x : S26) (n : Int) (o : List S43) (v : Value) (base : Nat) (ok : Nat → Prop) (w : World) (hB : w.heap[B]? = some (.cells #[.int .i64 ep, v] 24 (0, 0))) (hbase : base ≤ w.heap.size) (hBb : base ≤ B)
    (ho : Kd.R k43 43 w base ok v o) (hok : ∀ k, w.heap.size ≤ k → ok k) (hokB : ∀ k, ok k → k ≠ B) (hl : o.length ≤ 1000000) :
    Calls Try.prog 23 #[.agg #[.int .i64 x.f0, .int .i64 x.f1], .int .i64 n, .pointer (some ⟨B, 0, none⟩)] w (PutPost base B ep ok (putC o x n) w) := by
  cases hm : mayB x with
  | false => exact put_no B ep x n o v base ok w hB hbase ho hm
  | true =>
    by_cases hc : 0 < o.length ∧ (lastP o).f1 = n
    · exact put_old B ep x n o v base ok w hB hbase hBb ho hokB hm hl hc.1 hc.2
    · exact put_new B ep x n o v base ok w hB hbase hBb ho hok hokB hm hl hc
end Go.Proofs.Yteppmdafdopehaa.P
