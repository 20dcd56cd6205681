/- A session's replies with their rows, by hand: what a table holds; own. No conditions. -/
import Derived.Test.YthelhieeplfffaaGClone
import Derived.Test.YthelhieeplfffaaHTab
namespace Go.Proofs.Ythelhieeplfffaa.P
open Go.RowKit Go.Maps Go.Proofs.YthelhieeplfffaaW.PrintWords Go.Proofs.YthelhieeplfffaaW.PrintLast Go.Proofs.YthelhieeplfffaaW.PrintMore
set_option linter.unusedVariables false
set_option linter.unusedSimpArgs false

/-- A reply. -/
structure Rp where
  e : Int
  s : Int
  n : Int
  got : List S56
  data : List ByteArray
  about : List S76
/-- v is a row of xs, and stays one whatever is written in blocks of S or made anew. -/
def RowAt {α : Type} (S : Nat → Prop) (w : World) (d : Kd α) (v : Value) (xs : List α) : Prop :=
  ∃ (A : Option Addr) (c : Nat), v = .slice A xs.length c ∧ xs.length ≤ c ∧ ∀ W, Kept w W S → d.C W A xs.length xs
theorem RowAt.kept {α : Type} {S : Nat → Prop} {w w' : World} {d : Kd α} {v : Value} {xs : List α} (h : RowAt S w d v xs) (hk : Kept w w' S) : RowAt S w' d v xs := by
  obtain ⟨A, c, h1, h2, h3⟩ := h
  exact ⟨A, c, h1, h2, fun W hW => h3 W (hk.then_ hW (fun _ h => .inl h))⟩
theorem RowAt.of_R {α : Type} {S : Nat → Prop} {e base : Nat} {ok : Nat → Prop} {w : World} {d : Kd α} {v : Value} {xs : List α} (h : d.R e w base ok v xs) (hS : ∀ k, S k → k < base) : RowAt S w d v xs := by
  have hb := Kd.R_bound h
  obtain ⟨A, c, rfl, hl, _⟩ := Kd.R_reads h
  exact ⟨A, c, rfl, hl, Kd.C_kept_own hb (fun k hk hs => by have h1 := hk.2.1; have h2 := hS k hs; omega)⟩
theorem RowAt.now {α : Type} {S : Nat → Prop} {w : World} {d : Kd α} {v : Value} {xs : List α} (h : RowAt S w d v xs) : ∃ A c, v = .slice A xs.length c ∧ xs.length ≤ c ∧ d.C w A xs.length xs := by
  obtain ⟨A, c, h1, h2, h3⟩ := h
  exact ⟨A, c, h1, h2, h3 w (Kept.refl _ _)⟩
theorem RowAt.mono {α : Type} {S S' : Nat → Prop} {w : World} {d : Kd α} {v : Value} {xs : List α} (h : RowAt S w d v xs) (hs : ∀ k, S' k → S k) : RowAt S' w d v xs := by
  obtain ⟨A, c, h1, h2, h3⟩ := h
  exact ⟨A, c, h1, h2, fun W hW => h3 W (hW.mono hs)⟩
/-- The six cells of a reply. -/
def RepAt (S : Nat → Prop) (w : World) (r : Rp) (g d a : Value) : Prop := RowAt S w k56 g r.got ∧ RowAt S w Kd.string d r.data ∧ RowAt S w k76 a r.about
theorem RepAt.kept {S : Nat → Prop} {w w' : World} {r : Rp} {g d a : Value} (h : RepAt S w r g d a) (hk : Kept w w' S) : RepAt S w' r g d a := ⟨h.1.kept hk, h.2.1.kept hk, h.2.2.kept hk⟩
def Rp.few (r : Rp) : Prop := r.got.length ≤ 12 ∧ r.data.length ≤ 5 ∧ r.about.length ≤ 10
def repV (r : Rp) (g d a : Value) : Value := .agg #[.int .i64 r.e, .int .i64 r.s, .int .i64 r.n, g, d, a]
theorem RowAt.nil {α : Type} (S : Nat → Prop) (w : World) (d : Kd α) : RowAt S w d (.slice none 0 0) [] := ⟨none, 0, rfl, Nat.le_refl _, fun W _ => Kd.C_nil d W⟩

set_option maxHeartbeats 8000000 in
set_option maxRecDepth 100000 in
theorem ownR (w : World) (r : Rp) (hf : r.few) (A1 A2 A3 : Option Addr) (c1 c2 c3 : Nat) (hc1 : r.got.length ≤ c1) (hc2 : r.data.length ≤ c2) (hc3 : r.about.length ≤ c3) (hr1 : Kd.C k56 w A1 r.got.length r.got) (hr2 : Kd.C Kd.string w A2 r.data.length r.data) (hr3 : Kd.C k76 w A3 r.about.length r.about) :
    Calls Try.prog 20 #[repV r (.slice A1 r.got.length c1) (.slice A2 r.data.length c2) (.slice A3 r.about.length c3)] w fun e' w' => ∃ g d a, e' = .returned (repV r g d a) ∧ (∀ S : Nat → Prop, (∀ k, S k → k < w.heap.size) → RepAt S w' r g d a) ∧ Below w.heap.size w w' := by
  obtain ⟨e, s, n, got, data, about⟩ := r
  unfold Rp.few at hf
  simp only at hf hc1 hc2 hc3 hr1 hr2 hr3
  unfold repV
  simp only
  obtain ⟨W, hW⟩ : ∃ W, W = (w.alloc (.cells #[.int .i64 e, .int .i64 s, .int .i64 n, .slice A1 got.length c1, .slice A2 data.length c2, .slice A3 about.length c3] 32)).alloc (.cells #[.int .i64 0, .int .i64 0, .int .i64 0, .slice none 0 0, .slice none 0 0, .slice none 0 0] 32) := ⟨_, rfl⟩
  have HB0 := Aside0.mk (show Below w.heap.size w W by rw [hW]; exact below_alloc (below_alloc (Below.refl _ _) _) _)
  have HZ := Aside0.mk (show W.heap.size = w.heap.size + 2 by rw [hW]; simp)
  have K1 := Aside0.mk (show W.heap[w.heap.size]? = some (.cells #[.int .i64 e, .int .i64 s, .int .i64 n, .slice A1 got.length c1, .slice A2 data.length c2, .slice A3 about.length c3] 32 (0, 0)) by rw [hW]; exact blk_alloc (heap_alloc_new w _) _)
  have K2 := Aside0.mk (show W.heap[w.heap.size + 1]? = some (.cells #[.int .i64 0, .int .i64 0, .int .i64 0, .slice none 0 0, .slice none 0 0, .slice none 0 0] 32 (0, 0)) by
    rw [hW]
    have := heap_alloc_new (w.alloc (.cells #[.int .i64 e, .int .i64 s, .int .i64 n, .slice A1 got.length c1, .slice A2 data.length c2, .slice A3 about.length c3] 32)) (.cells #[.int .i64 0, .int .i64 0, .int .i64 0, .slice none 0 0, .slice none 0 0, .slice none 0 0] 32)
    simpa using this)
  have HR1 := Aside0.mk (Kd.C_below hr1 HB0.out)
  have HR2 := Aside0.mk (Kd.C_below hr2 HB0.out)
  have HR3 := Aside0.mk (Kd.C_below hr3 HB0.out)
  have HF := Aside0.mk hf
  have HC := Aside0.mk (And.intro hc1 (And.intro hc2 hc3))
  clear hr1 hr2 hr3 hf hc1 hc2 hc3
  go_enter Try.func20, Try.ntmps20
  go_wp2
  rw [← hW]
  clear hW
  refine start_ (n := 15) (S := fun w' => w'.cell? ⟨w.heap.size, 3, none⟩ = some (.slice A1 got.length c1) ∧ w'.cell? ⟨w.heap.size, 4, none⟩ = some (.slice A2 data.length c2) ∧ w'.cell? ⟨w.heap.size, 5, none⟩ = some (.slice A3 about.length c3)) (ds := [10, 12, 14]) #[false, false, false, false, false, false, false, false, false, false, false, false, false, false, false] (by kernel_rfl) rfl rfl ⟨(blk_cell K1.out 3).trans rfl, (blk_cell K1.out 4).trans rfl, (blk_cell K1.out 5).trans rfl⟩ (fun hHeld => ?_)
  have K1D := Aside0.mk (blk_drew K1.out)
  have K2D := Aside0.mk (blk_drew K2.out)
  have B0D := Aside0.mk (below_drew HB0.out)
  have R1D := Aside0.mk (Kd.C_drew HR1.out)
  have R2D := Aside0.mk (Kd.C_drew HR2.out)
  have R3D := Aside0.mk (Kd.C_drew HR3.out)
  have ZD := Aside0.mk (show W.drew.heap.size = w.heap.size + 2 from HZ.out)
  generalize W.drew = W0 at K1D K2D B0D R1D R2D R3D ZD hHeld ⊢
  clear K1 K2 HB0 HR1 HR2 HR3 HZ
  refine pure_ (i := 0) (N := some 3) (v := ?_) (a' := ?_) #[true, false, false, false, false, false, false, false, false, false, false, false, false, false, false] rfl rfl (by kernel_rfl) (fun _ _ _ h => h) (Or.inl ⟨by rfl, ?_⟩) ?_ ?_
  rotate_left
  · intro w'
    go_simp
    with_reducible rfl
  rotate_left
  · simp only [Act.put, List.setIfInBounds_toArray, List.set_cons_zero, List.set_cons_succ, i64_w, i32_w]
    rfl
  refine take_ (i := 1) (N := some 4) (v := ?_) (a' := ?_) #[true, true, false, false, false, false, false, false, false, false, false, false, false, false, false] rfl rfl (by kernel_rfl) (fun _ _ _ h => h) (Or.inl ⟨by rfl, ?_⟩) hHeld ?_ ?_
  rotate_left
  · rintro w' ⟨s0, s1, s2⟩
    go_simp
    with_reducible rfl
  rotate_left
  · simp only [Act.put, List.setIfInBounds_toArray, List.set_cons_zero, List.set_cons_succ, i64_w, i32_w]
    rfl
  refine pure_ (i := 3) (N := some 6) (v := ?_) (a' := ?_) #[true, true, false, true, false, false, false, false, false, false, false, false, false, false, false] rfl rfl (by kernel_rfl) (fun _ _ _ h => h) (Or.inl ⟨by rfl, ?_⟩) ?_ ?_
  rotate_left
  · intro w'
    go_simp
    with_reducible rfl
  rotate_left
  · simp only [Act.put, List.setIfInBounds_toArray, List.set_cons_zero, List.set_cons_succ, i64_w, i32_w]
    rfl
  refine take_ (i := 4) (N := some 7) (v := ?_) (a' := ?_) #[true, true, false, true, true, false, false, false, false, false, false, false, false, false, false] rfl rfl (by kernel_rfl) (fun _ _ _ h => h) (Or.inl ⟨by rfl, ?_⟩) hHeld ?_ ?_
  rotate_left
  · rintro w' ⟨s0, s1, s2⟩
    go_simp
    with_reducible rfl
  rotate_left
  · simp only [Act.put, List.setIfInBounds_toArray, List.set_cons_zero, List.set_cons_succ, i64_w, i32_w]
    rfl
  refine pure_ (i := 6) (N := some 9) (v := ?_) (a' := ?_) #[true, true, false, true, true, false, true, false, false, false, false, false, false, false, false] rfl rfl (by kernel_rfl) (fun _ _ _ h => h) (Or.inl ⟨by rfl, ?_⟩) ?_ ?_
  rotate_left
  · intro w'
    go_simp
    with_reducible rfl
  rotate_left
  · simp only [Act.put, List.setIfInBounds_toArray, List.set_cons_zero, List.set_cons_succ, i64_w, i32_w]
    rfl
  refine take_ (i := 7) (N := some 10) (v := ?_) (a' := ?_) #[true, true, false, true, true, false, true, true, false, false, false, false, false, false, false] rfl rfl (by kernel_rfl) (fun _ _ _ h => h) (Or.inl ⟨by rfl, ?_⟩) hHeld ?_ ?_
  rotate_left
  · rintro w' ⟨s0, s1, s2⟩
    go_simp
    with_reducible rfl
  rotate_left
  · simp only [Act.put, List.setIfInBounds_toArray, List.set_cons_zero, List.set_cons_succ, i64_w, i32_w]
    rfl
  refine one_ (i := 2) (N := some 5) #[true, true, true, true, true, false, true, true, false, false, false, false, false, false, false] rfl rfl (by kernel_rfl) (by decide) (fun K hK => ?_)
  refine goes_ Try.func30 (by kernel_rfl) rfl #[.slice A1 got.length c1] (by rfl) rfl rfl (by (try simp only [List.map_toArray, List.map_cons, List.map_nil]); first | done | rfl) ?_
  with_reducible refine (slices_Clone_Got.calls A1 c1 got got _ R1D.out (by have := HC.out; omega) (by unfold slices_Clone_Got.f; rw [if_pos (by have := HF.out; omega)])).mono ?_
  rintro e1 W1 ⟨v1, rfl, hO1, hb1_⟩
  have hb1 : Below W0.heap.size W0 W1 := ⟨hb1_.os, hb1_.tape, hb1_.output, hb1_.size, hb1_.block⟩
  have K1a := Aside0.mk (blk_below K1D.out hb1)
  have O1 := Aside0.mk hO1
  have X1 := Aside0.mk hb1
  clear hO1 hb1 hb1_
  refine ⟨_, rfl, ?_⟩
  refine hK.out _ _ ⟨(blk_cell K1a.out 3).trans rfl, (blk_cell K1a.out 4).trans rfl, (blk_cell K1a.out 5).trans rfl⟩ (fun hHeld => ?_)
  clear hK K
  refine norm_ (a' := ?_) ?_ ?_
  rotate_left
  · show Act.put _ (some 5) _ = _; simp only [Act.put, List.setIfInBounds_toArray, List.set_cons_zero, List.set_cons_succ, i64_w, i32_w]
    rfl
  refine pure_ (i := 9) (N := some 12) (v := ?_) (a' := ?_) #[true, true, true, true, true, false, true, true, false, true, false, false, false, false, false] rfl rfl (by kernel_rfl) (fun _ _ _ h => h) (Or.inl ⟨by rfl, ?_⟩) ?_ ?_
  rotate_left
  · intro w'
    go_simp
    with_reducible rfl
  rotate_left
  · simp only [Act.put, List.setIfInBounds_toArray, List.set_cons_zero, List.set_cons_succ, i64_w, i32_w]
    rfl
  have R2a := Aside0.mk (Kd.C_below R2D.out X1.out)
  have R3a := Aside0.mk (Kd.C_below R3D.out X1.out)
  refine one_ (i := 5) (N := some 8) #[true, true, true, true, true, true, true, true, false, true, false, false, false, false, false] rfl rfl (by kernel_rfl) (by decide) (fun K hK => ?_)
  refine goes_ Try.func31 (by kernel_rfl) rfl #[.slice A2 data.length c2] (by rfl) rfl rfl (by (try simp only [List.map_toArray, List.map_cons, List.map_nil]); first | done | rfl) ?_
  with_reducible refine (slices_Clone_str.calls A2 c2 data data _ R2a.out (by have := HC.out; omega) (by unfold slices_Clone_str.f; rw [if_pos (by have := HF.out; omega)])).mono ?_
  rintro e2 W2 ⟨v2, rfl, hO2, hb2_⟩
  have hb2 : Below W1.heap.size W1 W2 := ⟨hb2_.os, hb2_.tape, hb2_.output, hb2_.size, hb2_.block⟩
  have K1b := Aside0.mk (blk_below K1a.out hb2)
  have O2 := Aside0.mk hO2
  have X2 := Aside0.mk hb2
  clear hO2 hb2 hb2_
  refine ⟨_, rfl, ?_⟩
  refine hK.out _ _ ⟨(blk_cell K1b.out 3).trans rfl, (blk_cell K1b.out 4).trans rfl, (blk_cell K1b.out 5).trans rfl⟩ (fun hHeld => ?_)
  clear hK K
  refine norm_ (a' := ?_) ?_ ?_
  rotate_left
  · show Act.put _ (some 8) _ = _; simp only [Act.put, List.setIfInBounds_toArray, List.set_cons_zero, List.set_cons_succ, i64_w, i32_w]
    rfl
  have R3b := Aside0.mk (Kd.C_below R3a.out X2.out)
  refine one_ (i := 8) (N := some 11) #[true, true, true, true, true, true, true, true, true, true, false, false, false, false, false] rfl rfl (by kernel_rfl) (by decide) (fun K hK => ?_)
  refine goes_ Try.func32 (by kernel_rfl) rfl #[.slice A3 about.length c3] (by rfl) rfl rfl (by (try simp only [List.map_toArray, List.map_cons, List.map_nil]); first | done | rfl) ?_
  with_reducible refine (slices_Clone_Range.calls A3 c3 about about _ R3b.out (by have := HC.out; omega) (by unfold slices_Clone_Range.f; rw [if_pos (by have := HF.out; omega)])).mono ?_
  rintro e3 W3 ⟨v3, rfl, hO3, hb3_⟩
  have hb3 : Below W2.heap.size W2 W3 := ⟨hb3_.os, hb3_.tape, hb3_.output, hb3_.size, hb3_.block⟩
  have K1c := Aside0.mk (blk_below K1b.out hb3)
  have O3 := Aside0.mk hO3
  have X3 := Aside0.mk hb3
  clear hO3 hb3 hb3_
  refine ⟨_, rfl, ?_⟩
  refine hK.out _ _ ⟨(blk_cell K1c.out 3).trans rfl, (blk_cell K1c.out 4).trans rfl, (blk_cell K1c.out 5).trans rfl⟩ (fun hHeld => ?_)
  clear hK K
  refine norm_ (a' := ?_) ?_ ?_
  rotate_left
  · show Act.put _ (some 11) _ = _; simp only [Act.put, List.setIfInBounds_toArray, List.set_cons_zero, List.set_cons_succ, i64_w, i32_w]
    rfl
  obtain ⟨A4, c4, hv1⟩ := Kd.R_slice O1.out
  obtain ⟨A5, c5, hv2⟩ := Kd.R_slice O2.out
  obtain ⟨A6, c6, hv3⟩ := Kd.R_slice O3.out
  subst hv1 hv2 hv3
  have f3 : W3.frozen? ⟨w.heap.size, 3, none⟩ = false := blk_frozen K1c.out 3
  have f4 : W3.frozen? ⟨w.heap.size, 4, none⟩ = false := blk_frozen K1c.out 4
  have f5 : W3.frozen? ⟨w.heap.size, 5, none⟩ = false := blk_frozen K1c.out 5
  have g3 : W3.cell? ⟨w.heap.size, 3, none⟩ = some (.slice A1 got.length c1) := hHeld.1
  have g4 : W3.cell? ⟨w.heap.size, 4, none⟩ = some (.slice A2 data.length c2) := hHeld.2.1
  have g5 : W3.cell? ⟨w.heap.size, 5, none⟩ = some (.slice A3 about.length c3) := hHeld.2.2
  refine last_ (i := 10) (N := none) #[true, true, true, true, true, true, true, true, true, true, true, false, false, false, false] rfl rfl (by kernel_rfl) (by decide) (fun K hK => ?_)
  refine skip_ (w1 := ?_) (by rfl) rfl ?_ ?_
  rotate_left
  · go_simp
    rfl
  refine hK.out _ _ ?_
  clear hK K
  refine pure_ (i := 11) (N := some 13) (v := ?_) (a' := ?_) #[true, true, true, true, true, true, true, true, true, true, true, true, false, false, false] rfl rfl (by kernel_rfl) (fun _ _ _ h => h) (Or.inl ⟨by rfl, ?_⟩) ?_ ?_
  rotate_left
  · intro w'
    go_simp
    with_reducible rfl
  rotate_left
  · simp only [Act.put, List.setIfInBounds_toArray, List.set_cons_zero, List.set_cons_succ, i64_w, i32_w]
    rfl
  refine last_ (i := 12) (N := none) #[true, true, true, true, true, true, true, true, true, true, true, true, true, false, false] rfl rfl (by kernel_rfl) (by decide) (fun K hK => ?_)
  refine skip_ (w1 := ?_) (by rfl) rfl ?_ ?_
  rotate_left
  · go_simp
    rfl
  refine hK.out _ _ ?_
  clear hK K
  refine pure_ (i := 13) (N := some 14) (v := ?_) (a' := ?_) #[true, true, true, true, true, true, true, true, true, true, true, true, true, true, false] rfl rfl (by kernel_rfl) (fun _ _ _ h => h) (Or.inl ⟨by rfl, ?_⟩) ?_ ?_
  rotate_left
  · intro w'
    go_simp
    with_reducible rfl
  rotate_left
  · simp only [Act.put, List.setIfInBounds_toArray, List.set_cons_zero, List.set_cons_succ, i64_w, i32_w]
    rfl
  refine last_ (i := 14) (N := none) #[true, true, true, true, true, true, true, true, true, true, true, true, true, true, true] rfl rfl (by kernel_rfl) (by decide) (fun K hK => ?_)
  refine skip_ (w1 := ?_) (by rfl) rfl ?_ ?_
  rotate_left
  · go_simp
    rfl
  refine hK.out _ _ ?_
  clear hK K
  refine done_ (by kernel_rfl) ?_
  obtain ⟨W6, hW6⟩ : ∃ W6, W6 = ((W3.setCell ⟨w.heap.size, 3, none⟩ (.slice A4 got.length c4)).setCell ⟨w.heap.size, 4, none⟩ (.slice A5 data.length c5)).setCell ⟨w.heap.size, 5, none⟩ (.slice A6 about.length c6) := ⟨_, rfl⟩
  rw [← hW6]
  have KF := Aside0.mk (show W6.heap[w.heap.size]? = some (.cells #[.int .i64 e, .int .i64 s, .int .i64 n, .slice A4 got.length c4, .slice A5 data.length c5, .slice A6 about.length c6] 32 (0, 0)) by
    rw [hW6]
    refine blk_put (cs := #[(.int .i64 e), (.int .i64 s), (.int .i64 n), .slice A4 got.length c4, .slice A5 data.length c5, .slice A3 about.length c3]) ?_ 5 _ rfl
    refine blk_put (cs := #[(.int .i64 e), (.int .i64 s), (.int .i64 n), .slice A4 got.length c4, .slice A2 data.length c2, .slice A3 about.length c3]) ?_ 4 _ rfl
    exact blk_put (cs := #[(.int .i64 e), (.int .i64 s), (.int .i64 n), .slice A1 got.length c1, .slice A2 data.length c2, .slice A3 about.length c3]) K1c.out 3 _ rfl)
  have K23 := blk_below (blk_below (blk_below K2D.out X1.out) X2.out) X3.out
  have K2F := Aside0.mk (show W6.heap[w.heap.size + 1]? = some (.cells #[(.int .i64 0), (.int .i64 0), (.int .i64 0), (.slice none 0 0), (.slice none 0 0), (.slice none 0 0)] 32 (0, 0)) by
    rw [hW6]
    exact blk_far (blk_far (blk_far K23 (p := ⟨w.heap.size, 3, none⟩) (show w.heap.size + 1 ≠ w.heap.size by omega) _) (p := ⟨w.heap.size, 4, none⟩) (show w.heap.size + 1 ≠ w.heap.size by omega) _) (p := ⟨w.heap.size, 5, none⟩) (show w.heap.size + 1 ≠ w.heap.size by omega) _)
  have b3 : Below w.heap.size w W3 := below_then (below_then (below_then B0D.out (by have := ZD.out; omega) X1.out) (by have := ZD.out; have := X1.out.size; omega) X2.out) (by have := ZD.out; have := X1.out.size; have := X2.out.size; omega) X3.out
  have B6 := Aside0.mk (show Below w.heap.size w W6 by rw [hW6]; exact below_set (below_set (below_set b3 (Nat.le_refl _)) (Nat.le_refl _)) (Nat.le_refl _))
  have kw : ∀ S : Nat → Prop, Kept W3 W6 (fun k => S k ∨ k = w.heap.size ∨ k = w.heap.size + 1) := fun S => by rw [hW6]; exact Kept.setCell (Kept.setCell (Kept.setCell (Kept.refl _ _) (p := ⟨w.heap.size, 3, none⟩) (Or.inl (Or.inr (Or.inl rfl))) _) (p := ⟨w.heap.size, 4, none⟩) (Or.inl (Or.inr (Or.inl rfl))) _) (p := ⟨w.heap.size, 5, none⟩) (Or.inl (Or.inr (Or.inl rfl))) _
  have z1 := X1.out.size
  have z2 := X2.out.size
  have z0 := ZD.out
  have QF := Aside0.mk (show ∀ S : Nat → Prop, (∀ k, S k → k < w.heap.size) → RepAt (fun k => S k ∨ k = w.heap.size ∨ k = w.heap.size + 1) W6 ⟨e, s, n, got, data, about⟩ (.slice A4 got.length c4) (.slice A5 data.length c5) (.slice A6 about.length c6) from fun S hS =>
    ⟨(((RowAt.of_R O1.out (fun k hk => by rcases hk with h | h | h <;> (try have := hS k h) <;> omega)).kept (Kept.of_below X2.out _)).kept (Kept.of_below X3.out _)).kept (kw S), ((RowAt.of_R O2.out (fun k hk => by rcases hk with h | h | h <;> (try have := hS k h) <;> omega)).kept (Kept.of_below X3.out _)).kept (kw S), (RowAt.of_R O3.out (fun k hk => by rcases hk with h | h | h <;> (try have := hS k h) <;> omega)).kept (kw S)⟩)
  clear hW6 K1a K1b K1c O1 O2 O3 K23 b3 kw z1 z2 z0 f3 f4 f5 g3 g4 g5 hHeld R1D R2D R3D R2a R3a R3b X1 X2 X3 K1D K2D B0D ZD
  have l0 : W6.cell? ⟨w.heap.size, 0, none⟩ = some (.int .i64 e) := (blk_cell KF.out 0).trans rfl
  have l1 : W6.cell? ⟨w.heap.size, 1, none⟩ = some (.int .i64 s) := (blk_cell KF.out 1).trans rfl
  have l2 : W6.cell? ⟨w.heap.size, 2, none⟩ = some (.int .i64 n) := (blk_cell KF.out 2).trans rfl
  have l3 : W6.cell? ⟨w.heap.size, 3, none⟩ = some (.slice A4 got.length c4) := (blk_cell KF.out 3).trans rfl
  have l4 : W6.cell? ⟨w.heap.size, 4, none⟩ = some (.slice A5 data.length c5) := (blk_cell KF.out 4).trans rfl
  have l5 : W6.cell? ⟨w.heap.size, 5, none⟩ = some (.slice A6 about.length c6) := (blk_cell KF.out 5).trans rfl
  have r0 : W6.cell? ⟨w.heap.size + 1, 0, none⟩ = some (.int .i64 0) := (blk_cell K2F.out 0).trans rfl
  have q0 : W6.frozen? ⟨w.heap.size + 1, 0, none⟩ = false := blk_frozen K2F.out 0
  have r1 : W6.cell? ⟨w.heap.size + 1, 1, none⟩ = some (.int .i64 0) := (blk_cell K2F.out 1).trans rfl
  have q1 : W6.frozen? ⟨w.heap.size + 1, 1, none⟩ = false := blk_frozen K2F.out 1
  have r2 : W6.cell? ⟨w.heap.size + 1, 2, none⟩ = some (.int .i64 0) := (blk_cell K2F.out 2).trans rfl
  have q2 : W6.frozen? ⟨w.heap.size + 1, 2, none⟩ = false := blk_frozen K2F.out 2
  have r3 : W6.cell? ⟨w.heap.size + 1, 3, none⟩ = some (.slice none 0 0) := (blk_cell K2F.out 3).trans rfl
  have q3 : W6.frozen? ⟨w.heap.size + 1, 3, none⟩ = false := blk_frozen K2F.out 3
  have r4 : W6.cell? ⟨w.heap.size + 1, 4, none⟩ = some (.slice none 0 0) := (blk_cell K2F.out 4).trans rfl
  have q4 : W6.frozen? ⟨w.heap.size + 1, 4, none⟩ = false := blk_frozen K2F.out 4
  have r5 : W6.cell? ⟨w.heap.size + 1, 5, none⟩ = some (.slice none 0 0) := (blk_cell K2F.out 5).trans rfl
  have q5 : W6.frozen? ⟨w.heap.size + 1, 5, none⟩ = false := blk_frozen K2F.out 5
  go_wp2
  refine bodyPost_ret (results_cell_row rfl _ _ (w.heap.size + 1) 32 #[.int .i64 e, .int .i64 s, .int .i64 n, .slice A4 got.length c4, .slice A5 data.length c5, .slice A6 about.length c6] (0, 0) _ rfl ?_ Try.underlying32 rfl (by kernel_rfl)) rfl ?_
  · refine blk_put (cs := #[(.int .i64 e), (.int .i64 s), (.int .i64 n), .slice A4 got.length c4, .slice A5 data.length c5, (.slice none 0 0)]) ?_ 5 _ rfl
    refine blk_put (cs := #[(.int .i64 e), (.int .i64 s), (.int .i64 n), .slice A4 got.length c4, (.slice none 0 0), (.slice none 0 0)]) ?_ 4 _ rfl
    refine blk_put (cs := #[(.int .i64 e), (.int .i64 s), (.int .i64 n), (.slice none 0 0), (.slice none 0 0), (.slice none 0 0)]) ?_ 3 _ rfl
    refine blk_put (cs := #[(.int .i64 e), (.int .i64 s), (.int .i64 0), (.slice none 0 0), (.slice none 0 0), (.slice none 0 0)]) ?_ 2 _ rfl
    refine blk_put (cs := #[(.int .i64 e), (.int .i64 0), (.int .i64 0), (.slice none 0 0), (.slice none 0 0), (.slice none 0 0)]) ?_ 1 _ rfl
    refine blk_put (cs := #[(.int .i64 0), (.int .i64 0), (.int .i64 0), (.slice none 0 0), (.slice none 0 0), (.slice none 0 0)]) ?_ 0 _ rfl
    exact K2F.out
  · refine ⟨_, _, _, rfl, fun S hS => ?_, ?_⟩
    · have h := (QF.out S hS).kept (w' := (((((W6.setCell ⟨w.heap.size + 1, 0, none⟩ (.int .i64 e)).setCell ⟨w.heap.size + 1, 1, none⟩ (.int .i64 s)).setCell ⟨w.heap.size + 1, 2, none⟩ (.int .i64 n)).setCell ⟨w.heap.size + 1, 3, none⟩ (.slice A4 got.length c4)).setCell ⟨w.heap.size + 1, 4, none⟩ (.slice A5 data.length c5)).setCell ⟨w.heap.size + 1, 5, none⟩ (.slice A6 about.length c6)) (by repeat (first | exact Kept.refl _ _ | refine Kept.setCell ?_ (Or.inl (Or.inr (Or.inr rfl))) _))
      exact ⟨h.1.mono (fun k hk => .inl hk), h.2.1.mono (fun k hk => .inl hk), h.2.2.mono (fun k hk => .inl hk)⟩
    · repeat (with_reducible first | exact B6.out | refine below_set ?_ (Nat.le_succ _) | refine pw_below_drewN ?_ _)
end Go.Proofs.Ythelhieeplfffaa.P
