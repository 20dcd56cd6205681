/- session.Look over a table whose replies have rows, by hand. No conditions. -/
import Derived.Test.YthelhieeplfffaaHNote
namespace Go.Proofs.Ythelhieeplfffaa.P
open Go.RowKit Go.Maps Go.Proofs.YthelhieeplfffaaW.PrintWords Go.Proofs.YthelhieeplfffaaW.PrintLast Go.Proofs.YthelhieeplfffaaW.PrintMore
set_option linter.unusedVariables false
set_option linter.unusedSimpArgs false

theorem RowAt.set {α : Type} {S : Nat → Prop} {w : World} {d : Kd α} {v : Value} {xs : List α} (h : RowAt S w d v xs) (g j : Nat) (u : Value) (hg : S g) : RowAt S (w.setCell ⟨g, j, none⟩ u) d v xs :=
  h.kept (Kept.setCell (Kept.refl _ _) (p := ⟨g, j, none⟩) (.inl hg) u)
theorem RepAt.set {S : Nat → Prop} {w : World} {r : Rp} {g d a : Value} (h : RepAt S w r g d a) (b j : Nat) (u : Value) (hb : S b) : RepAt S (w.setCell ⟨b, j, none⟩ u) r g d a := ⟨h.1.set b j u hb, h.2.1.set b j u hb, h.2.2.set b j u hb⟩
set_option maxHeartbeats 4000000 in
set_option maxRecDepth 100000 in
theorem lookHitR (S : Nat → Prop) (w : World) (B b q : Nat) (M : List (Int × (Int × Rp))) (h : TabR S w B b q M) (c num : Int) (hc : 1 ≤ c ∧ c ≤ 1099511627776) (hn : 1 ≤ num ∧ num ≤ 1099511627776) (y : Int × Rp) (hin : (c, y) ∈ M) (hy : y.1 = num) :
    Calls Try.prog 9 #[.pointer (some ⟨B, 0, none⟩), .int .i64 c, .int .i64 num] w fun e' w' => ∃ g d a, e' = .returned (.tuple #[.agg #[.int .i64 y.2.e, .int .i64 y.2.s, .int .i64 y.2.n, g, d, a], .bool true, .int .i64 0]) ∧ (∀ S' : Nat → Prop, (∀ k, S' k → k < w.heap.size) → RepAt S' w' y.2 g d a) ∧ Below w.heap.size w w' := by
  have HT := Aside0.mk h
  obtain ⟨hb, D, hown, hrel⟩ := h
  have HO := Aside0.mk hown
  have HB := Aside0.mk hb
  have HK := Aside0.mk (keyOf_int_mk (P := Try.prog) (k := 3) Try.underlying3 (show (Lit.int .i64 c).wf = true by simp [Lit.wf]; simp [IntKind.min, IntKind.bits]; omega))
  have HC := Aside0.mk hc
  have HN := Aside0.mk hn
  have hcell : w.cell? ⟨B, 0, none⟩ = some (.map (some b)) := (blk_cell hb 0).trans rfl
  have hlt := blk_lt hb
  have hne := Nat.ne_of_lt hlt
  have hne1 : B ≠ w.heap.size + 1 := by omega
  have hne2 : B ≠ w.heap.size + 1 + 1 := by omega
  have hlt1 : B < w.heap.size + 1 := by omega
  have hlt2 : B < w.heap.size + 1 + 1 := by omega
  obtain ⟨vy, hvy, gy0, dy0, ay0, rfl, ⟨⟨gA, gc, rfl, gl, gk⟩, ⟨dA, dc, rfl, dl, dk⟩, ⟨aA, ac, rfl, al, ak⟩⟩, hyf⟩ := hrel.vals _ hin
  unfold lasV at hvy
  have HAT := Aside0.mk hvy
  have HYF := Aside0.mk hyf
  have HCC := Aside0.mk (And.intro gl (And.intro dl al))
  have HR := Aside0.mk (And.intro (gk w (Kept.refl _ _)) (And.intro (dk w (Kept.refl _ _)) (ak w (Kept.refl _ _))))
  clear hvy hyf gl gk dl dk al ak
  have f0 : decide (num < y.1) = false := decide_eq_false (by omega)
  have f1 : (num == y.1) = true := beq_iff_eq.2 hy.symm
  clear hb hown hrel hin hc hn hy
  go_enter Try.func9, Try.ntmps9
  go_wp2_with (first
    | (go_at_call 18; (with_reducible refine (noneC _ B b (by repeat (first | exact HB.out | refine blk_alloc ?_ _))).mono ?_); rintro e1 w1 ⟨rfl, rfl⟩)
    | (go_at_call 19; (with_reducible refine (numberC _ _ c num (by refine blk_at ?_; simp) HC.out HN.out).mono ?_); rintro e1 w1 ⟨rfl, rfl⟩)
    | (at_lookup; refine look_held _ rfl _ _ 46 rfl 3 59 law3 Try.underlying46 zeroV (zero59 _) b q D rfl (by repeat (first | exact HO.out | refine World.ownsMap.alloc ?_ _)) _ (.int .i64 c) rfl HK.out (.agg #[.int .i64 y.1, .int .i64 y.2.e, .int .i64 y.2.s, .int .i64 y.2.n, .slice gA y.2.got.length gc, .slice dA y.2.data.length dc, .slice aA y.2.about.length ac]) HAT.out ?_)
    | (go_at_call 20; (with_reducible refine (ownR2 _ y.2.e y.2.s y.2.n y.2.got y.2.data y.2.about HYF.out gA dA aA gc dc ac HCC.out (by (repeat (first | exact HR.out.1 | apply Kd.C_alloc | apply Kd.C_drew | apply Kd.C_drewN))) (by (repeat (first | exact HR.out.2.1 | apply Kd.C_alloc | apply Kd.C_drew | apply Kd.C_drewN))) (by (repeat (first | exact HR.out.2.2 | apply Kd.C_alloc | apply Kd.C_drew | apply Kd.C_drewN)))).mono ?_); rintro e1 w5 ⟨g5, d5, a5, rfl, hrep5, hb5⟩; have HP := Aside0.mk hrep5; obtain ⟨⟨A4, c4, rfl, _, _⟩, ⟨A5, c5, rfl, _, _⟩, ⟨A6, c6, rfl, _, _⟩⟩ := hrep5 (fun _ => False) (fun _ h => h.elim); clear hrep5; have HB5 := Aside0.mk hb5; have KZ := Aside0.mk (blk_below (g := w.heap.size) (o := .cells #[.int .i64 0, .int .i64 0, .int .i64 0, .slice none 0 0, .slice none 0 0, .slice none 0 0] 32 (0, 0)) (blk_alloc (blk_alloc (heap_alloc_new w _) _) _) hb5); have z0 : w5.cell? ⟨w.heap.size, 0, none⟩ = some (.int .i64 0) := (blk_cell KZ.out 0).trans rfl; have z1 : w5.cell? ⟨w.heap.size, 1, none⟩ = some (.int .i64 0) := (blk_cell KZ.out 1).trans rfl; have z2 : w5.cell? ⟨w.heap.size, 2, none⟩ = some (.int .i64 0) := (blk_cell KZ.out 2).trans rfl; have z3 : w5.cell? ⟨w.heap.size, 3, none⟩ = some (.slice none 0 0) := (blk_cell KZ.out 3).trans rfl; have z4 : w5.cell? ⟨w.heap.size, 4, none⟩ = some (.slice none 0 0) := (blk_cell KZ.out 4).trans rfl; have z5 : w5.cell? ⟨w.heap.size, 5, none⟩ = some (.slice none 0 0) := (blk_cell KZ.out 5).trans rfl; have q0 := blk_frozen KZ.out 0; have q1 := blk_frozen KZ.out 1; have q2 := blk_frozen KZ.out 2; have q3 := blk_frozen KZ.out 3; have q4 := blk_frozen KZ.out 4; have q5 := blk_frozen KZ.out 5; clear hb5))
  refine bodyPost_ret (results_list (rs := [.cell 6 32, .tmp 7, .tmp 8]) rfl (by simp) (.cell w.heap.size 32 #[.int .i64 y.2.e, .int .i64 y.2.s, .int .i64 y.2.n, .slice A4 y.2.got.length c4, .slice A5 y.2.data.length c5, .slice A6 y.2.about.length c6] (0, 0) _ rfl ?_ Try.underlying32 rfl (by kernel_rfl) (.tmp (.tmp .nil)))) rfl ?_
  · refine blk_put (cs := #[.int .i64 y.2.e, .int .i64 y.2.s, .int .i64 y.2.n, .slice A4 y.2.got.length c4, .slice A5 y.2.data.length c5, .slice none 0 0]) ?_ 5 _ rfl
    refine blk_put (cs := #[.int .i64 y.2.e, .int .i64 y.2.s, .int .i64 y.2.n, .slice A4 y.2.got.length c4, .slice none 0 0, .slice none 0 0]) ?_ 4 _ rfl
    refine blk_put (cs := #[.int .i64 y.2.e, .int .i64 y.2.s, .int .i64 y.2.n, .slice none 0 0, .slice none 0 0, .slice none 0 0]) ?_ 3 _ rfl
    refine blk_put (cs := #[.int .i64 y.2.e, .int .i64 y.2.s, .int .i64 0, .slice none 0 0, .slice none 0 0, .slice none 0 0]) ?_ 2 _ rfl
    refine blk_put (cs := #[.int .i64 y.2.e, .int .i64 0, .int .i64 0, .slice none 0 0, .slice none 0 0, .slice none 0 0]) ?_ 1 _ rfl
    refine blk_put (cs := #[.int .i64 0, .int .i64 0, .int .i64 0, .slice none 0 0, .slice none 0 0, .slice none 0 0]) ?_ 0 _ rfl
    exact KZ.out
  · refine ⟨_, _, _, rfl, fun S' hS' => ?_, ?_⟩
    · have h0 := HP.out (fun k => S' k ∨ k = w.heap.size) (fun k hk => by
        have hz : k < w.heap.size + 3 := by
          rcases hk with h | h
          · have := hS' k h; omega
          · omega
        simpa using hz)
      have h := (RepAt.set (RepAt.set (RepAt.set (RepAt.set (RepAt.set (RepAt.set h0 w.heap.size 0 (.int .i64 y.2.e) (Or.inr rfl)) w.heap.size 1 (.int .i64 y.2.s) (Or.inr rfl)) w.heap.size 2 (.int .i64 y.2.n) (Or.inr rfl)) w.heap.size 3 (.slice A4 y.2.got.length c4) (Or.inr rfl)) w.heap.size 4 (.slice A5 y.2.data.length c5) (Or.inr rfl)) w.heap.size 5 (.slice A6 y.2.about.length c6) (Or.inr rfl))
      exact ⟨h.1.mono (fun k hk => .inl hk), h.2.1.mono (fun k hk => .inl hk), h.2.2.mono (fun k hk => .inl hk)⟩
    · have hb : Below w.heap.size w w5 := below_step (below_alloc (below_alloc (below_alloc (Below.refl _ _) _) _) _) HB5.out
      repeat (with_reducible first | exact hb | refine below_set ?_ (Nat.le_refl _))

set_option maxHeartbeats 4000000 in
set_option maxRecDepth 100000 in
theorem lookLessR (S : Nat → Prop) (w : World) (B b q : Nat) (M : List (Int × (Int × Rp))) (h : TabR S w B b q M) (c num : Int) (hc : 1 ≤ c ∧ c ≤ 1099511627776) (hn : 1 ≤ num ∧ num ≤ 1099511627776) (y : Int × Rp) (hin : (c, y) ∈ M) (hy : num < y.1) :
    Calls Try.prog 9 #[.pointer (some ⟨B, 0, none⟩), .int .i64 c, .int .i64 num] w fun e' w' => e' = .returned (.tuple #[.agg #[.int .i64 0, .int .i64 0, .int .i64 0, .slice none 0 0, .slice none 0 0, .slice none 0 0], .bool false, .int .i64 16]) ∧ Below w.heap.size w w' := by
  have HT := Aside0.mk h
  obtain ⟨hb, D, hown, hrel⟩ := h
  have HO := Aside0.mk hown
  have HB := Aside0.mk hb
  have HK := Aside0.mk (keyOf_int_mk (P := Try.prog) (k := 3) Try.underlying3 (show (Lit.int .i64 c).wf = true by simp [Lit.wf]; simp [IntKind.min, IntKind.bits]; omega))
  have HC := Aside0.mk hc
  have HN := Aside0.mk hn
  have hcell : w.cell? ⟨B, 0, none⟩ = some (.map (some b)) := (blk_cell hb 0).trans rfl
  have hlt := blk_lt hb
  have hne := Nat.ne_of_lt hlt
  have hne1 : B ≠ w.heap.size + 1 := by omega
  have hne2 : B ≠ w.heap.size + 1 + 1 := by omega
  have hlt1 : B < w.heap.size + 1 := by omega
  have hlt2 : B < w.heap.size + 1 + 1 := by omega
  obtain ⟨vy, hvy, gy0, dy0, ay0, rfl, ⟨⟨gA, gc, rfl, gl, gk⟩, ⟨dA, dc, rfl, dl, dk⟩, ⟨aA, ac, rfl, al, ak⟩⟩, hyf⟩ := hrel.vals _ hin
  unfold lasV at hvy
  have HAT := Aside0.mk hvy
  have HYF := Aside0.mk hyf
  have HCC := Aside0.mk (And.intro gl (And.intro dl al))
  have HR := Aside0.mk (And.intro (gk w (Kept.refl _ _)) (And.intro (dk w (Kept.refl _ _)) (ak w (Kept.refl _ _))))
  clear hvy hyf gl gk dl dk al ak
  have f0 : decide (num < y.1) = true := decide_eq_true hy
  clear hb hown hrel hin hc hn hy
  go_enter Try.func9, Try.ntmps9
  go_wp2_with (first
    | (go_at_call 18; (with_reducible refine (noneC _ B b (by repeat (first | exact HB.out | refine blk_alloc ?_ _))).mono ?_); rintro e1 w1 ⟨rfl, rfl⟩)
    | (go_at_call 19; (with_reducible refine (numberC _ _ c num (by refine blk_at ?_; simp) HC.out HN.out).mono ?_); rintro e1 w1 ⟨rfl, rfl⟩)
    | (at_lookup; refine look_held _ rfl _ _ 46 rfl 3 59 law3 Try.underlying46 zeroV (zero59 _) b q D rfl (by repeat (first | exact HO.out | refine World.ownsMap.alloc ?_ _)) _ (.int .i64 c) rfl HK.out (.agg #[.int .i64 y.1, .int .i64 y.2.e, .int .i64 y.2.s, .int .i64 y.2.n, .slice gA y.2.got.length gc, .slice dA y.2.data.length dc, .slice aA y.2.about.length ac]) HAT.out ?_)
    | (go_at_call 20; (with_reducible refine (ownR2 _ y.2.e y.2.s y.2.n y.2.got y.2.data y.2.about HYF.out gA dA aA gc dc ac HCC.out (by (repeat (first | exact HR.out.1 | apply Kd.C_alloc | apply Kd.C_drew | apply Kd.C_drewN))) (by (repeat (first | exact HR.out.2.1 | apply Kd.C_alloc | apply Kd.C_drew | apply Kd.C_drewN))) (by (repeat (first | exact HR.out.2.2 | apply Kd.C_alloc | apply Kd.C_drew | apply Kd.C_drewN)))).mono ?_); rintro e1 w5 ⟨g5, d5, a5, rfl, hrep5, hb5⟩; have HP := Aside0.mk hrep5; obtain ⟨⟨A4, c4, rfl, _, _⟩, ⟨A5, c5, rfl, _, _⟩, ⟨A6, c6, rfl, _, _⟩⟩ := hrep5 (fun _ => False) (fun _ h => h.elim); clear hrep5; have HB5 := Aside0.mk hb5; have KZ := Aside0.mk (blk_below (g := w.heap.size) (o := .cells #[.int .i64 0, .int .i64 0, .int .i64 0, .slice none 0 0, .slice none 0 0, .slice none 0 0] 32 (0, 0)) (blk_alloc (blk_alloc (heap_alloc_new w _) _) _) hb5); have z0 : w5.cell? ⟨w.heap.size, 0, none⟩ = some (.int .i64 0) := (blk_cell KZ.out 0).trans rfl; have z1 : w5.cell? ⟨w.heap.size, 1, none⟩ = some (.int .i64 0) := (blk_cell KZ.out 1).trans rfl; have z2 : w5.cell? ⟨w.heap.size, 2, none⟩ = some (.int .i64 0) := (blk_cell KZ.out 2).trans rfl; have z3 : w5.cell? ⟨w.heap.size, 3, none⟩ = some (.slice none 0 0) := (blk_cell KZ.out 3).trans rfl; have z4 : w5.cell? ⟨w.heap.size, 4, none⟩ = some (.slice none 0 0) := (blk_cell KZ.out 4).trans rfl; have z5 : w5.cell? ⟨w.heap.size, 5, none⟩ = some (.slice none 0 0) := (blk_cell KZ.out 5).trans rfl; have q0 := blk_frozen KZ.out 0; have q1 := blk_frozen KZ.out 1; have q2 := blk_frozen KZ.out 2; have q3 := blk_frozen KZ.out 3; have q4 := blk_frozen KZ.out 4; have q5 := blk_frozen KZ.out 5; clear hb5))
  refine bodyPost_ret (results_list (rs := [.cell 6 32, .tmp 7, .tmp 8]) rfl (by simp) (.cell w.heap.size 32 #[.int .i64 0, .int .i64 0, .int .i64 0, .slice none 0 0, .slice none 0 0, .slice none 0 0] (0, 0) _ rfl ?_ Try.underlying32 rfl (by kernel_rfl) (.tmp (.tmp .nil)))) rfl ?_
  · exact blk_alloc (blk_alloc (heap_alloc_new w _) _) _
  · refine ⟨rfl, ?_⟩
    repeat (with_reducible first | exact Below.refl _ _ | refine below_alloc ?_ _)

set_option maxHeartbeats 4000000 in
set_option maxRecDepth 100000 in
theorem lookMoreR (S : Nat → Prop) (w : World) (B b q : Nat) (M : List (Int × (Int × Rp))) (h : TabR S w B b q M) (c num : Int) (hc : 1 ≤ c ∧ c ≤ 1099511627776) (hn : 1 ≤ num ∧ num ≤ 1099511627776) (y : Int × Rp) (hin : (c, y) ∈ M) (hy : y.1 < num) :
    Calls Try.prog 9 #[.pointer (some ⟨B, 0, none⟩), .int .i64 c, .int .i64 num] w fun e' w' => e' = .returned (.tuple #[.agg #[.int .i64 0, .int .i64 0, .int .i64 0, .slice none 0 0, .slice none 0 0, .slice none 0 0], .bool false, .int .i64 0]) ∧ Below w.heap.size w w' := by
  have HT := Aside0.mk h
  obtain ⟨hb, D, hown, hrel⟩ := h
  have HO := Aside0.mk hown
  have HB := Aside0.mk hb
  have HK := Aside0.mk (keyOf_int_mk (P := Try.prog) (k := 3) Try.underlying3 (show (Lit.int .i64 c).wf = true by simp [Lit.wf]; simp [IntKind.min, IntKind.bits]; omega))
  have HC := Aside0.mk hc
  have HN := Aside0.mk hn
  have hcell : w.cell? ⟨B, 0, none⟩ = some (.map (some b)) := (blk_cell hb 0).trans rfl
  have hlt := blk_lt hb
  have hne := Nat.ne_of_lt hlt
  have hne1 : B ≠ w.heap.size + 1 := by omega
  have hne2 : B ≠ w.heap.size + 1 + 1 := by omega
  have hlt1 : B < w.heap.size + 1 := by omega
  have hlt2 : B < w.heap.size + 1 + 1 := by omega
  obtain ⟨vy, hvy, gy0, dy0, ay0, rfl, ⟨⟨gA, gc, rfl, gl, gk⟩, ⟨dA, dc, rfl, dl, dk⟩, ⟨aA, ac, rfl, al, ak⟩⟩, hyf⟩ := hrel.vals _ hin
  unfold lasV at hvy
  have HAT := Aside0.mk hvy
  have HYF := Aside0.mk hyf
  have HCC := Aside0.mk (And.intro gl (And.intro dl al))
  have HR := Aside0.mk (And.intro (gk w (Kept.refl _ _)) (And.intro (dk w (Kept.refl _ _)) (ak w (Kept.refl _ _))))
  clear hvy hyf gl gk dl dk al ak
  have f0 : decide (num < y.1) = false := decide_eq_false (by omega)
  have f1 : (num == y.1) = false := beq_eq_false_iff_ne.2 (by omega)
  clear hb hown hrel hin hc hn hy
  go_enter Try.func9, Try.ntmps9
  go_wp2_with (first
    | (go_at_call 18; (with_reducible refine (noneC _ B b (by repeat (first | exact HB.out | refine blk_alloc ?_ _))).mono ?_); rintro e1 w1 ⟨rfl, rfl⟩)
    | (go_at_call 19; (with_reducible refine (numberC _ _ c num (by refine blk_at ?_; simp) HC.out HN.out).mono ?_); rintro e1 w1 ⟨rfl, rfl⟩)
    | (at_lookup; refine look_held _ rfl _ _ 46 rfl 3 59 law3 Try.underlying46 zeroV (zero59 _) b q D rfl (by repeat (first | exact HO.out | refine World.ownsMap.alloc ?_ _)) _ (.int .i64 c) rfl HK.out (.agg #[.int .i64 y.1, .int .i64 y.2.e, .int .i64 y.2.s, .int .i64 y.2.n, .slice gA y.2.got.length gc, .slice dA y.2.data.length dc, .slice aA y.2.about.length ac]) HAT.out ?_)
    | (go_at_call 20; (with_reducible refine (ownR2 _ y.2.e y.2.s y.2.n y.2.got y.2.data y.2.about HYF.out gA dA aA gc dc ac HCC.out (by (repeat (first | exact HR.out.1 | apply Kd.C_alloc | apply Kd.C_drew | apply Kd.C_drewN))) (by (repeat (first | exact HR.out.2.1 | apply Kd.C_alloc | apply Kd.C_drew | apply Kd.C_drewN))) (by (repeat (first | exact HR.out.2.2 | apply Kd.C_alloc | apply Kd.C_drew | apply Kd.C_drewN)))).mono ?_); rintro e1 w5 ⟨g5, d5, a5, rfl, hrep5, hb5⟩; have HP := Aside0.mk hrep5; obtain ⟨⟨A4, c4, rfl, _, _⟩, ⟨A5, c5, rfl, _, _⟩, ⟨A6, c6, rfl, _, _⟩⟩ := hrep5 (fun _ => False) (fun _ h => h.elim); clear hrep5; have HB5 := Aside0.mk hb5; have KZ := Aside0.mk (blk_below (g := w.heap.size) (o := .cells #[.int .i64 0, .int .i64 0, .int .i64 0, .slice none 0 0, .slice none 0 0, .slice none 0 0] 32 (0, 0)) (blk_alloc (blk_alloc (heap_alloc_new w _) _) _) hb5); have z0 : w5.cell? ⟨w.heap.size, 0, none⟩ = some (.int .i64 0) := (blk_cell KZ.out 0).trans rfl; have z1 : w5.cell? ⟨w.heap.size, 1, none⟩ = some (.int .i64 0) := (blk_cell KZ.out 1).trans rfl; have z2 : w5.cell? ⟨w.heap.size, 2, none⟩ = some (.int .i64 0) := (blk_cell KZ.out 2).trans rfl; have z3 : w5.cell? ⟨w.heap.size, 3, none⟩ = some (.slice none 0 0) := (blk_cell KZ.out 3).trans rfl; have z4 : w5.cell? ⟨w.heap.size, 4, none⟩ = some (.slice none 0 0) := (blk_cell KZ.out 4).trans rfl; have z5 : w5.cell? ⟨w.heap.size, 5, none⟩ = some (.slice none 0 0) := (blk_cell KZ.out 5).trans rfl; have q0 := blk_frozen KZ.out 0; have q1 := blk_frozen KZ.out 1; have q2 := blk_frozen KZ.out 2; have q3 := blk_frozen KZ.out 3; have q4 := blk_frozen KZ.out 4; have q5 := blk_frozen KZ.out 5; clear hb5))
  refine bodyPost_ret (results_list (rs := [.cell 6 32, .tmp 7, .tmp 8]) rfl (by simp) (.cell w.heap.size 32 #[.int .i64 0, .int .i64 0, .int .i64 0, .slice none 0 0, .slice none 0 0, .slice none 0 0] (0, 0) _ rfl ?_ Try.underlying32 rfl (by kernel_rfl) (.tmp (.tmp .nil)))) rfl ?_
  · exact blk_alloc (blk_alloc (heap_alloc_new w _) _) _
  · refine ⟨rfl, ?_⟩
    repeat (with_reducible first | exact Below.refl _ _ | refine below_alloc ?_ _)

end Go.Proofs.Ythelhieeplfffaa.P
