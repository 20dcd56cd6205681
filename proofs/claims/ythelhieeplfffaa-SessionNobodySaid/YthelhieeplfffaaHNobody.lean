/- The law SessionNobody, walked by hand: it returns true. No conditions. -/
import Derived.Test.YthelhieeplfffaaHFull
namespace Go.Proofs.Ythelhieeplfffaa.P
open Go.RowKit Go.Maps Go.Proofs.YthelhieeplfffaaW.PrintWords Go.Proofs.YthelhieeplfffaaW.PrintLast Go.Proofs.YthelhieeplfffaaW.PrintMore
set_option linter.unusedVariables false
set_option linter.unusedSimpArgs false

/-- A table that New did not make. -/
def NoneAt (w : World) (p : Value) : Prop := p = .pointer none ∨ ∃ B, p = .pointer (some ⟨B, 0, none⟩) ∧ w.heap[B]? = some (.cells #[.map none] 48 (0, 0))
theorem NoneAt.below {w w' : World} {p : Value} (h : NoneAt w p) (hb : Below w.heap.size w w') : NoneAt w' p := by
  rcases h with rfl | ⟨B, rfl, h⟩
  · exact .inl rfl
  · exact .inr ⟨B, rfl, blk_below h hb⟩
theorem NoneAt.nil (w : World) : NoneAt w (.pointer none) := .inl rfl
theorem NoneAt.tab {w : World} {B : Nat} (h : w.heap[B]? = some (.cells #[.map none] 48 (0, 0))) : NoneAt w (.pointer (some ⟨B, 0, none⟩)) := .inr ⟨B, rfl, h⟩
theorem NoneAt.alloc {w : World} {p : Value} (h : NoneAt w p) (o : Obj) : NoneAt (w.alloc o) p := h.below (below_alloc (Below.refl _ _) _)
set_option maxHeartbeats 1000000 in
theorem noneT (w : World) (p : Value) (h : NoneAt w p) : Calls Try.prog 18 #[p] w fun e w' => e = .returned (.bool true) ∧ w' = w := by
  have hq := fun (W : World) (r : Option Nat) => run_eql_map_nil (P := Try.prog) W 46 3 59 r Try.underlying46
  rcases h with rfl | ⟨B, rfl, hb⟩
  · go_enter Try.func18, Try.ntmps18
    go_wp2
    go_ret
    exact ⟨rfl, rfl⟩
  · have hc : w.cell? ⟨B, 0, none⟩ = some (.map none) := (blk_cell hb 0).trans rfl
    clear hb
    go_enter Try.func18, Try.ntmps18
    go_wp2
    go_ret
    exact ⟨rfl, rfl⟩
set_option maxHeartbeats 2000000 in
theorem lookNone (w : World) (p : Value) (c n : Value) (h : NoneAt w p) : Calls Try.prog 9 #[p, c, n] w fun e w' => e = .returned (.tuple #[.agg #[.int .i64 0, .int .i64 0, .int .i64 0, .slice none 0 0, .slice none 0 0, .slice none 0 0], .bool false, .int .i64 1]) ∧ Below w.heap.size w w' := by
  have HN := Aside0.mk h
  clear h
  go_enter Try.func9, Try.ntmps9
  go_wp2_with (first
    | (go_at_call 18; (with_reducible refine (noneT _ p (by repeat (first | exact HN.out | refine NoneAt.alloc ?_ _))).mono ?_); rintro e1 w1 ⟨rfl, rfl⟩))
  refine bodyPost_ret (results_list (rs := [.cell 6 32, .tmp 7, .tmp 8]) rfl (by simp) (.cell w.heap.size 32 #[.int .i64 0, .int .i64 0, .int .i64 0, .slice none 0 0, .slice none 0 0, .slice none 0 0] (0, 0) _ rfl ?_ Try.underlying32 rfl (by kernel_rfl) (.tmp (.tmp .nil)))) rfl ?_
  · exact heap_alloc_new w _
  · refine ⟨rfl, ?_⟩
    repeat (with_reducible first | exact Below.refl _ _ | refine below_alloc ?_ _)
set_option maxHeartbeats 2000000 in
theorem noteNone (w : World) (p : Value) (c n r0 r1 r2 r3 r4 r5 : Value) (h : NoneAt w p) : Calls Try.prog 8 #[p, c, n, .agg #[r0, r1, r2, r3, r4, r5]] w fun e w' => e = .returned (.int .i64 1) ∧ Below w.heap.size w w' := by
  have HN := Aside0.mk h
  clear h
  go_enter Try.func8, Try.ntmps8
  go_wp2_with (first
    | (go_at_call 18; (with_reducible refine (noneT _ p (by repeat (first | exact HN.out | refine NoneAt.alloc ?_ _))).mono ?_); rintro e1 w1 ⟨rfl, rfl⟩))
  go_ret
  exact ⟨rfl, by repeat (with_reducible first | exact Below.refl _ _ | refine below_alloc ?_ _)⟩
set_option maxHeartbeats 2000000 in
theorem mergeNone (w : World) (p : Value) (l : Value) (h : NoneAt w p) : Calls Try.prog 14 #[p, l] w fun e w' => e = .returned (.int .i64 1) ∧ Below w.heap.size w w' := by
  have HN := Aside0.mk h
  clear h
  go_enter Try.func14, Try.ntmps14
  go_wp2_with (first
    | (go_at_call 18; (with_reducible refine (noneT _ p (by repeat (first | exact HN.out | refine NoneAt.alloc ?_ _))).mono ?_); rintro e1 w1 ⟨rfl, rfl⟩))
  go_ret
  exact ⟨rfl, by repeat (with_reducible first | exact Below.refl _ _ | refine below_alloc ?_ _)⟩
set_option maxHeartbeats 2000000 in
theorem clientsNone (w : World) (p : Value) (h : NoneAt w p) : Calls Try.prog 13 #[p] w fun e w' => e = .returned (.slice none 0 0) ∧ Below w.heap.size w w' := by
  have HN := Aside0.mk h
  clear h
  go_enter Try.func13, Try.ntmps13
  go_wp2_with (first
    | (go_at_call 18; (with_reducible refine (noneT _ p (by repeat (first | exact HN.out | refine NoneAt.alloc ?_ _))).mono ?_); rintro e1 w1 ⟨rfl, rfl⟩))
  go_ret
  exact ⟨rfl, by repeat (with_reducible first | exact Below.refl _ _ | refine below_alloc ?_ _)⟩
set_option maxHeartbeats 2000000 in
theorem lastNone (w : World) (p : Value) (c : Value) (h : NoneAt w p) : Calls Try.prog 11 #[p, c] w fun e w' => e = .returned (.int .i64 0) ∧ Below w.heap.size w w' := by
  have HN := Aside0.mk h
  clear h
  go_enter Try.func11, Try.ntmps11
  go_wp2_with (first
    | (go_at_call 18; (with_reducible refine (noneT _ p (by repeat (first | exact HN.out | refine NoneAt.alloc ?_ _))).mono ?_); rintro e1 w1 ⟨rfl, rfl⟩))
  go_ret
  exact ⟨rfl, by repeat (with_reducible first | exact Below.refl _ _ | refine below_alloc ?_ _)⟩
set_option maxHeartbeats 2000000 in
theorem copyNone (w : World) (p : Value) (h : NoneAt w p) : Calls Try.prog 17 #[p] w fun e w' => e = .returned (.pointer none) ∧ Below w.heap.size w w' := by
  have HN := Aside0.mk h
  clear h
  go_enter Try.func17, Try.ntmps17
  go_wp2_with (first
    | (go_at_call 18; (with_reducible refine (noneT _ p (by repeat (first | exact HN.out | refine NoneAt.alloc ?_ _))).mono ?_); rintro e1 w1 ⟨rfl, rfl⟩))
  go_ret
  exact ⟨rfl, by repeat (with_reducible first | exact Below.refl _ _ | refine below_alloc ?_ _)⟩
set_option maxHeartbeats 2000000 in
theorem textsNone (w : World) (p f : Value) (h : NoneAt w p) : Calls Try.prog 27 #[p, f] w fun e w' => e = .returned (.slice none 0 0) ∧ Below w.heap.size w w' := by
  have HN := Aside0.mk h
  clear h
  go_enter Try.func27, Try.ntmps27
  go_wp2_with (first
    | (go_at_call 13; (with_reducible refine (clientsNone _ p (by repeat (first | exact HN.out | refine NoneAt.alloc ?_ _))).mono ?_); rintro e1 w1 ⟨rfl, hb⟩))
  go_loopg [5, 16] 0 (fun kq v5 v16 w' => v5 = .slice none 0 0 ∧ v16 = .int .i64 0 ∧ w' = w1)
  case atStart => exact ⟨rfl, rfl, rfl⟩
  case round =>
    obtain ⟨rfl, rfl, rfl⟩ := hrel
    go_wp2
    go_ret
    exact ⟨rfl, hb⟩
set_option maxHeartbeats 2000000 in
theorem dumpNone (w : World) (p : Value) (h : NoneAt w p) : Calls Try.prog 15 #[p] w fun e w' => e = .returned (.slice none 0 0) ∧ Below w.heap.size w w' := by
  have HN := Aside0.mk h
  clear h
  go_enter Try.func15, Try.ntmps15
  go_wp2_with (first
    | (go_at_call 27; (with_reducible refine (textsNone _ p _ (by repeat (first | exact HN.out | refine NoneAt.alloc ?_ _))).mono ?_); rintro e1 w1 ⟨rfl, hb⟩))
  go_ret
  exact ⟨rfl, hb⟩
set_option maxHeartbeats 2000000 in
theorem allNone (w : World) (p : Value) (h : NoneAt w p) : Calls Try.prog 16 #[p] w fun e w' => e = .returned (.slice none 0 0) ∧ Below w.heap.size w w' := by
  have HN := Aside0.mk h
  clear h
  go_enter Try.func16, Try.ntmps16
  go_wp2_with (first
    | (go_at_call 27; (with_reducible refine (textsNone _ p _ (by repeat (first | exact HN.out | refine NoneAt.alloc ?_ _))).mono ?_); rintro e1 w1 ⟨rfl, hb⟩))
  go_ret
  exact ⟨rfl, hb⟩
set_option maxHeartbeats 2000000 in
theorem textsZero (w : World) : Calls Try.prog 21 #[.slice none 0 0, .slice none 0 0] w fun e w' => e = .returned (.bool true) ∧ w' = w := by
  go_enter Try.func21, Try.ntmps21
  go_wp2
  go_loopg [5] 0 (fun kq v5 w' => v5 = .int .i64 0 ∧ w' = w)
  case atStart => exact ⟨rfl, rfl⟩
  case round =>
    obtain ⟨rfl, rfl⟩ := hrel
    go_wp2
    go_ret
    exact ⟨rfl, rfl⟩
set_option maxHeartbeats 2000000 in
theorem sameZero (w : World) : Calls Try.prog 22 #[.slice none 0 0, .slice none 0 0] w fun e w' => e = .returned (.bool true) ∧ w' = w := by
  go_enter Try.func22, Try.ntmps22
  go_wp2
  go_loopg [5] 0 (fun kq v5 w' => v5 = .int .i64 0 ∧ w' = w)
  case atStart => exact ⟨rfl, rfl⟩
  case round =>
    obtain ⟨rfl, rfl⟩ := hrel
    go_wp2
    go_ret
    exact ⟨rfl, rfl⟩
set_option maxHeartbeats 4000000 in
theorem replyZero (w : World) : Calls Try.prog 10 #[.agg #[.int .i64 0, .int .i64 0, .int .i64 0, .slice none 0 0, .slice none 0 0, .slice none 0 0], .agg #[.int .i64 0, .int .i64 0, .int .i64 0, .slice none 0 0, .slice none 0 0, .slice none 0 0]] w fun e w' => e = .returned (.bool true) ∧ Below w.heap.size w w' := by
  go_enter Try.func10, Try.ntmps10
  go_wp2_with (first
    | (go_at_call 21; (with_reducible refine (textsZero _).mono ?_); rintro e1 w1 ⟨rfl, rfl⟩)
    | (go_at_call 22; (with_reducible refine (sameZero _).mono ?_); rintro e1 w1 ⟨rfl, rfl⟩))
  obtain ⟨W, hW⟩ : ∃ W, W = (w.alloc (.cells #[.int .i64 0, .int .i64 0, .int .i64 0, .slice none 0 0, .slice none 0 0, .slice none 0 0] 32)).alloc (.cells #[.int .i64 0, .int .i64 0, .int .i64 0, .slice none 0 0, .slice none 0 0, .slice none 0 0] 32) := ⟨_, rfl⟩
  rw [← hW]
  have HB := Aside0.mk (show Below w.heap.size w W by rw [hW]; exact below_alloc (below_alloc (Below.refl _ _) _) _)
  have hk : W.cell? ⟨w.heap.size, 3, none⟩ = some (.slice none 0 0) := by rw [hW]; exact (blk_cell (blk_alloc (heap_alloc_new w _) _) 3).trans rfl
  clear hW
  go_loopg [5] 0 (fun kq v5 w' => v5 = .int .i64 0 ∧ w' = W)
  case atStart => exact ⟨rfl, rfl⟩
  case round =>
    obtain ⟨rfl, rfl⟩ := hrel
    go_wp2
    go_ret
    exact ⟨rfl, HB.out⟩
theorem arr10 {cs : Array Value} (h : cs.size = 10) : ∃ x0 x1 x2 x3 x4 x5 x6 x7 x8 x9 : Value, cs = #[x0, x1, x2, x3, x4, x5, x6, x7, x8, x9] := by
  obtain ⟨l⟩ := cs
  match l, h with
  | [a, b, c, d, e, f, g, i, j, k], _ => exact ⟨a, b, c, d, e, f, g, i, j, k, rfl⟩
theorem cells10 {w : World} {g : Nat} {x0 x1 x2 x3 x4 x5 x6 x7 x8 x9 : Value} (h : w.heap[g]? = some (.cells #[x0, x1, x2, x3, x4, x5, x6, x7, x8, x9] 34 (0, 0))) : w.cell? ⟨g, 0, none⟩ = some x0 ∧ w.cell? ⟨g, 1, none⟩ = some x1 ∧ w.cell? ⟨g, 2, none⟩ = some x2 ∧ w.cell? ⟨g, 3, none⟩ = some x3 ∧ w.cell? ⟨g, 4, none⟩ = some x4 ∧ w.cell? ⟨g, 5, none⟩ = some x5 ∧ w.cell? ⟨g, 6, none⟩ = some x6 ∧ w.cell? ⟨g, 7, none⟩ = some x7 ∧ w.cell? ⟨g, 8, none⟩ = some x8 ∧ w.cell? ⟨g, 9, none⟩ = some x9 := ⟨(blk_cell h 0).trans rfl, (blk_cell h 1).trans rfl, (blk_cell h 2).trans rfl, (blk_cell h 3).trans rfl, (blk_cell h 4).trans rfl, (blk_cell h 5).trans rfl, (blk_cell h 6).trans rfl, (blk_cell h 7).trans rfl, (blk_cell h 8).trans rfl, (blk_cell h 9).trans rfl⟩
set_option maxHeartbeats 8000000 in
set_option maxRecDepth 100000 in
theorem nobody.calls (x0 x1 x2 x3 x4 x5 x6 x7 x8 x9 : Value) (w : World) : Calls Try.prog 5 #[.agg #[x0, x1, x2, x3, x4, x5, x6, x7, x8, x9]] w fun e w' => e = .returned (.bool true) ∧ Below w.heap.size w w' := by
  go_enter Try.func5, Try.ntmps5
  go_wp2
  have KA := Aside0.mk (show (((w.alloc (.cells #[x0, x1, x2, x3, x4, x5, x6, x7, x8, x9] 34)).alloc (.cells #[.map none] 48)).alloc (.cells #[.pointer none, .pointer (some ⟨w.heap.size + 1, 0, none⟩)] 23)).heap[w.heap.size]? = some (.cells #[x0, x1, x2, x3, x4, x5, x6, x7, x8, x9] 34 (0, 0)) from blk_alloc (blk_alloc (heap_alloc_new w _) _) _)
  have KB := Aside0.mk (show (((w.alloc (.cells #[x0, x1, x2, x3, x4, x5, x6, x7, x8, x9] 34)).alloc (.cells #[.map none] 48)).alloc (.cells #[.pointer none, .pointer (some ⟨w.heap.size + 1, 0, none⟩)] 23)).heap[w.heap.size + 1]? = some (.cells #[.map none] 48 (0, 0)) from blk_alloc (blk_at (by simp)) _)
  have KC := Aside0.mk (show (((w.alloc (.cells #[x0, x1, x2, x3, x4, x5, x6, x7, x8, x9] 34)).alloc (.cells #[.map none] 48)).alloc (.cells #[.pointer none, .pointer (some ⟨w.heap.size + 1, 0, none⟩)] 23)).heap[w.heap.size + 1 + 1]? = some (.cells #[.pointer none, .pointer (some ⟨w.heap.size + 1, 0, none⟩)] 23 (0, 0)) from blk_at (by simp))
  have HB := Aside0.mk (show Below w.heap.size w (((w.alloc (.cells #[x0, x1, x2, x3, x4, x5, x6, x7, x8, x9] 34)).alloc (.cells #[.map none] 48)).alloc (.cells #[.pointer none, .pointer (some ⟨w.heap.size + 1, 0, none⟩)] 23)) from below_alloc (below_alloc (below_alloc (Below.refl _ _) _) _) _)
  go_loopg [12] 2 (fun kq v12 w' => ∃ i : Nat, v12 = .int .i64 i ∧ i ≤ 2 ∧ 2 - i ≤ kq ∧ Aside0 (w'.heap[w.heap.size]? = some (.cells #[x0, x1, x2, x3, x4, x5, x6, x7, x8, x9] 34 (0, 0))) ∧ Aside0 (w'.heap[w.heap.size + 1]? = some (.cells #[.map none] 48 (0, 0))) ∧ Aside0 (w'.heap[w.heap.size + 1 + 1]? = some (.cells #[.pointer none, .pointer (some ⟨w.heap.size + 1, 0, none⟩)] 23 (0, 0))) ∧ Aside0 (Below w.heap.size w w'))
  case atStart => exact ⟨0, rfl, by omega, by omega, KA, KB, KC, HB⟩
  case round =>
  clear KA KB KC HB
  obtain ⟨i, rfl, hi, hg, KA, KB, KC, HB⟩ := hrel
  have c0 : wr.cell? ⟨w.heap.size + 1 + 1, 0, none⟩ = some (.pointer none) := (blk_cell KC.out 0).trans rfl
  have c1 : wr.cell? ⟨w.heap.size + 1 + 1, 1, none⟩ = some (.pointer (some ⟨w.heap.size + 1, 0, none⟩)) := (blk_cell KC.out 1).trans rfl
  obtain ⟨a0_, a1_, a2_, a3_, a4_, a5_, a6_, a7_, a8_, a9_⟩ := cells10 KA.out; have l_ := blk_lt KA.out; have n_ := Nat.ne_of_lt l_
  obtain rfl | rfl | rfl : i = 0 ∨ i = 1 ∨ i = 2 := by omega
  · go_wp2_with (first
      | (go_at_call 9; (with_reducible refine (lookNone _ _ _ _ (NoneAt.nil _)).mono ?_); rintro e1 y1 ⟨rfl, hb⟩; have KA1 := Aside0.mk (blk_below (g := w.heap.size) (o := .cells #[x0, x1, x2, x3, x4, x5, x6, x7, x8, x9] 34 (0, 0)) (by repeat (first | exact KA.out | refine blk_alloc ?_ _)) hb); have KB1 := Aside0.mk (blk_below (g := w.heap.size + 1) (o := .cells #[.map none] 48 (0, 0)) (by repeat (first | exact KB.out | refine blk_alloc ?_ _)) hb); have KC1 := Aside0.mk (blk_below (g := w.heap.size + 1 + 1) (o := .cells #[.pointer none, .pointer (some ⟨w.heap.size + 1, 0, none⟩)] 23 (0, 0)) (by repeat (first | exact KC.out | refine blk_alloc ?_ _)) hb); have HB1 := Aside0.mk (show Below w.heap.size w y1 from below_step (by repeat (with_reducible first | exact HB.out | refine below_alloc ?_ _)) hb); clear hb; obtain ⟨a0_1, a1_1, a2_1, a3_1, a4_1, a5_1, a6_1, a7_1, a8_1, a9_1⟩ := cells10 KA1.out; have l_1 := blk_lt KA1.out; have n_1 := Nat.ne_of_lt l_1)
      | (go_at_call 10; (with_reducible refine (replyZero _).mono ?_); rintro e1 y2 ⟨rfl, hb⟩; have KA2 := Aside0.mk (blk_below (g := w.heap.size) (o := .cells #[x0, x1, x2, x3, x4, x5, x6, x7, x8, x9] 34 (0, 0)) (by repeat (first | exact KA1.out | refine blk_alloc ?_ _)) hb); have KB2 := Aside0.mk (blk_below (g := w.heap.size + 1) (o := .cells #[.map none] 48 (0, 0)) (by repeat (first | exact KB1.out | refine blk_alloc ?_ _)) hb); have KC2 := Aside0.mk (blk_below (g := w.heap.size + 1 + 1) (o := .cells #[.pointer none, .pointer (some ⟨w.heap.size + 1, 0, none⟩)] 23 (0, 0)) (by repeat (first | exact KC1.out | refine blk_alloc ?_ _)) hb); have HB2 := Aside0.mk (show Below w.heap.size w y2 from below_step (by repeat (with_reducible first | exact HB1.out | refine below_alloc ?_ _)) hb); clear hb; obtain ⟨a0_2, a1_2, a2_2, a3_2, a4_2, a5_2, a6_2, a7_2, a8_2, a9_2⟩ := cells10 KA2.out; have l_2 := blk_lt KA2.out; have n_2 := Nat.ne_of_lt l_2)
      | (go_at_call 8; (with_reducible refine (noteNone _ _ _ _ _ _ _ _ _ _ (NoneAt.nil _)).mono ?_); rintro e1 y3 ⟨rfl, hb⟩; have KA3 := Aside0.mk (blk_below (g := w.heap.size) (o := .cells #[x0, x1, x2, x3, x4, x5, x6, x7, x8, x9] 34 (0, 0)) (by repeat (first | exact KA2.out | refine blk_alloc ?_ _)) hb); have KB3 := Aside0.mk (blk_below (g := w.heap.size + 1) (o := .cells #[.map none] 48 (0, 0)) (by repeat (first | exact KB2.out | refine blk_alloc ?_ _)) hb); have KC3 := Aside0.mk (blk_below (g := w.heap.size + 1 + 1) (o := .cells #[.pointer none, .pointer (some ⟨w.heap.size + 1, 0, none⟩)] 23 (0, 0)) (by repeat (first | exact KC2.out | refine blk_alloc ?_ _)) hb); have HB3 := Aside0.mk (show Below w.heap.size w y3 from below_step (by repeat (with_reducible first | exact HB2.out | refine below_alloc ?_ _)) hb); clear hb; obtain ⟨a0_3, a1_3, a2_3, a3_3, a4_3, a5_3, a6_3, a7_3, a8_3, a9_3⟩ := cells10 KA3.out; have l_3 := blk_lt KA3.out; have n_3 := Nat.ne_of_lt l_3)
      | (go_at_call 14; (with_reducible refine (mergeNone _ _ _ (NoneAt.nil _)).mono ?_); rintro e1 y4 ⟨rfl, hb⟩; have KA4 := Aside0.mk (blk_below (g := w.heap.size) (o := .cells #[x0, x1, x2, x3, x4, x5, x6, x7, x8, x9] 34 (0, 0)) (by repeat (first | exact KA3.out | refine blk_alloc ?_ _)) hb); have KB4 := Aside0.mk (blk_below (g := w.heap.size + 1) (o := .cells #[.map none] 48 (0, 0)) (by repeat (first | exact KB3.out | refine blk_alloc ?_ _)) hb); have KC4 := Aside0.mk (blk_below (g := w.heap.size + 1 + 1) (o := .cells #[.pointer none, .pointer (some ⟨w.heap.size + 1, 0, none⟩)] 23 (0, 0)) (by repeat (first | exact KC3.out | refine blk_alloc ?_ _)) hb); have HB4 := Aside0.mk (show Below w.heap.size w y4 from below_step (by repeat (with_reducible first | exact HB3.out | refine below_alloc ?_ _)) hb); clear hb; obtain ⟨a0_4, a1_4, a2_4, a3_4, a4_4, a5_4, a6_4, a7_4, a8_4, a9_4⟩ := cells10 KA4.out; have l_4 := blk_lt KA4.out; have n_4 := Nat.ne_of_lt l_4)
      | (go_at_call 13; (with_reducible refine (clientsNone _ _ (NoneAt.nil _)).mono ?_); rintro e1 y5 ⟨rfl, hb⟩; have KA5 := Aside0.mk (blk_below (g := w.heap.size) (o := .cells #[x0, x1, x2, x3, x4, x5, x6, x7, x8, x9] 34 (0, 0)) (by repeat (first | exact KA4.out | refine blk_alloc ?_ _)) hb); have KB5 := Aside0.mk (blk_below (g := w.heap.size + 1) (o := .cells #[.map none] 48 (0, 0)) (by repeat (first | exact KB4.out | refine blk_alloc ?_ _)) hb); have KC5 := Aside0.mk (blk_below (g := w.heap.size + 1 + 1) (o := .cells #[.pointer none, .pointer (some ⟨w.heap.size + 1, 0, none⟩)] 23 (0, 0)) (by repeat (first | exact KC4.out | refine blk_alloc ?_ _)) hb); have HB5 := Aside0.mk (show Below w.heap.size w y5 from below_step (by repeat (with_reducible first | exact HB4.out | refine below_alloc ?_ _)) hb); clear hb; obtain ⟨a0_5, a1_5, a2_5, a3_5, a4_5, a5_5, a6_5, a7_5, a8_5, a9_5⟩ := cells10 KA5.out; have l_5 := blk_lt KA5.out; have n_5 := Nat.ne_of_lt l_5)
      | (go_at_call 11; (with_reducible refine (lastNone _ _ _ (NoneAt.nil _)).mono ?_); rintro e1 y6 ⟨rfl, hb⟩; have KA6 := Aside0.mk (blk_below (g := w.heap.size) (o := .cells #[x0, x1, x2, x3, x4, x5, x6, x7, x8, x9] 34 (0, 0)) (by repeat (first | exact KA5.out | refine blk_alloc ?_ _)) hb); have KB6 := Aside0.mk (blk_below (g := w.heap.size + 1) (o := .cells #[.map none] 48 (0, 0)) (by repeat (first | exact KB5.out | refine blk_alloc ?_ _)) hb); have KC6 := Aside0.mk (blk_below (g := w.heap.size + 1 + 1) (o := .cells #[.pointer none, .pointer (some ⟨w.heap.size + 1, 0, none⟩)] 23 (0, 0)) (by repeat (first | exact KC5.out | refine blk_alloc ?_ _)) hb); have HB6 := Aside0.mk (show Below w.heap.size w y6 from below_step (by repeat (with_reducible first | exact HB5.out | refine below_alloc ?_ _)) hb); clear hb; obtain ⟨a0_6, a1_6, a2_6, a3_6, a4_6, a5_6, a6_6, a7_6, a8_6, a9_6⟩ := cells10 KA6.out; have l_6 := blk_lt KA6.out; have n_6 := Nat.ne_of_lt l_6)
      | (go_at_call 15; (with_reducible refine (dumpNone _ _ (NoneAt.nil _)).mono ?_); rintro e1 y7 ⟨rfl, hb⟩; have KA7 := Aside0.mk (blk_below (g := w.heap.size) (o := .cells #[x0, x1, x2, x3, x4, x5, x6, x7, x8, x9] 34 (0, 0)) (by repeat (first | exact KA6.out | refine blk_alloc ?_ _)) hb); have KB7 := Aside0.mk (blk_below (g := w.heap.size + 1) (o := .cells #[.map none] 48 (0, 0)) (by repeat (first | exact KB6.out | refine blk_alloc ?_ _)) hb); have KC7 := Aside0.mk (blk_below (g := w.heap.size + 1 + 1) (o := .cells #[.pointer none, .pointer (some ⟨w.heap.size + 1, 0, none⟩)] 23 (0, 0)) (by repeat (first | exact KC6.out | refine blk_alloc ?_ _)) hb); have HB7 := Aside0.mk (show Below w.heap.size w y7 from below_step (by repeat (with_reducible first | exact HB6.out | refine below_alloc ?_ _)) hb); clear hb; obtain ⟨a0_7, a1_7, a2_7, a3_7, a4_7, a5_7, a6_7, a7_7, a8_7, a9_7⟩ := cells10 KA7.out; have l_7 := blk_lt KA7.out; have n_7 := Nat.ne_of_lt l_7)
      | (go_at_call 16; (with_reducible refine (allNone _ _ (NoneAt.nil _)).mono ?_); rintro e1 y8 ⟨rfl, hb⟩; have KA8 := Aside0.mk (blk_below (g := w.heap.size) (o := .cells #[x0, x1, x2, x3, x4, x5, x6, x7, x8, x9] 34 (0, 0)) (by repeat (first | exact KA7.out | refine blk_alloc ?_ _)) hb); have KB8 := Aside0.mk (blk_below (g := w.heap.size + 1) (o := .cells #[.map none] 48 (0, 0)) (by repeat (first | exact KB7.out | refine blk_alloc ?_ _)) hb); have KC8 := Aside0.mk (blk_below (g := w.heap.size + 1 + 1) (o := .cells #[.pointer none, .pointer (some ⟨w.heap.size + 1, 0, none⟩)] 23 (0, 0)) (by repeat (first | exact KC7.out | refine blk_alloc ?_ _)) hb); have HB8 := Aside0.mk (show Below w.heap.size w y8 from below_step (by repeat (with_reducible first | exact HB7.out | refine below_alloc ?_ _)) hb); clear hb; obtain ⟨a0_8, a1_8, a2_8, a3_8, a4_8, a5_8, a6_8, a7_8, a8_8, a9_8⟩ := cells10 KA8.out; have l_8 := blk_lt KA8.out; have n_8 := Nat.ne_of_lt l_8)
      | (go_at_call 17; (with_reducible refine (copyNone _ _ (NoneAt.nil _)).mono ?_); rintro e1 y9 ⟨rfl, hb⟩; have KA9 := Aside0.mk (blk_below (g := w.heap.size) (o := .cells #[x0, x1, x2, x3, x4, x5, x6, x7, x8, x9] 34 (0, 0)) (by repeat (first | exact KA8.out | refine blk_alloc ?_ _)) hb); have KB9 := Aside0.mk (blk_below (g := w.heap.size + 1) (o := .cells #[.map none] 48 (0, 0)) (by repeat (first | exact KB8.out | refine blk_alloc ?_ _)) hb); have KC9 := Aside0.mk (blk_below (g := w.heap.size + 1 + 1) (o := .cells #[.pointer none, .pointer (some ⟨w.heap.size + 1, 0, none⟩)] 23 (0, 0)) (by repeat (first | exact KC8.out | refine blk_alloc ?_ _)) hb); have HB9 := Aside0.mk (show Below w.heap.size w y9 from below_step (by repeat (with_reducible first | exact HB8.out | refine below_alloc ?_ _)) hb); clear hb; obtain ⟨a0_9, a1_9, a2_9, a3_9, a4_9, a5_9, a6_9, a7_9, a8_9, a9_9⟩ := cells10 KA9.out; have l_9 := blk_lt KA9.out; have n_9 := Nat.ne_of_lt l_9))
    go_roundg (2 - 1)
    case measure => omega
    case rel => exact ⟨1, rfl, by omega, by omega, ⟨by repeat (with_reducible first | exact KA9.out | refine blk_alloc ?_ _)⟩, ⟨by repeat (with_reducible first | exact KB9.out | refine blk_alloc ?_ _)⟩, ⟨by repeat (with_reducible first | exact KC9.out | refine blk_alloc ?_ _)⟩, ⟨by repeat (with_reducible first | exact HB9.out | refine below_alloc ?_ _)⟩⟩
  · go_wp2_with (first
      | (go_at_call 9; (with_reducible refine (lookNone _ _ _ _ (NoneAt.tab (by repeat (first | exact KB.out | refine blk_alloc ?_ _)))).mono ?_); rintro e1 y1 ⟨rfl, hb⟩; have KA1 := Aside0.mk (blk_below (g := w.heap.size) (o := .cells #[x0, x1, x2, x3, x4, x5, x6, x7, x8, x9] 34 (0, 0)) (by repeat (first | exact KA.out | refine blk_alloc ?_ _)) hb); have KB1 := Aside0.mk (blk_below (g := w.heap.size + 1) (o := .cells #[.map none] 48 (0, 0)) (by repeat (first | exact KB.out | refine blk_alloc ?_ _)) hb); have KC1 := Aside0.mk (blk_below (g := w.heap.size + 1 + 1) (o := .cells #[.pointer none, .pointer (some ⟨w.heap.size + 1, 0, none⟩)] 23 (0, 0)) (by repeat (first | exact KC.out | refine blk_alloc ?_ _)) hb); have HB1 := Aside0.mk (show Below w.heap.size w y1 from below_step (by repeat (with_reducible first | exact HB.out | refine below_alloc ?_ _)) hb); clear hb; obtain ⟨a0_1, a1_1, a2_1, a3_1, a4_1, a5_1, a6_1, a7_1, a8_1, a9_1⟩ := cells10 KA1.out; have l_1 := blk_lt KA1.out; have n_1 := Nat.ne_of_lt l_1)
      | (go_at_call 10; (with_reducible refine (replyZero _).mono ?_); rintro e1 y2 ⟨rfl, hb⟩; have KA2 := Aside0.mk (blk_below (g := w.heap.size) (o := .cells #[x0, x1, x2, x3, x4, x5, x6, x7, x8, x9] 34 (0, 0)) (by repeat (first | exact KA1.out | refine blk_alloc ?_ _)) hb); have KB2 := Aside0.mk (blk_below (g := w.heap.size + 1) (o := .cells #[.map none] 48 (0, 0)) (by repeat (first | exact KB1.out | refine blk_alloc ?_ _)) hb); have KC2 := Aside0.mk (blk_below (g := w.heap.size + 1 + 1) (o := .cells #[.pointer none, .pointer (some ⟨w.heap.size + 1, 0, none⟩)] 23 (0, 0)) (by repeat (first | exact KC1.out | refine blk_alloc ?_ _)) hb); have HB2 := Aside0.mk (show Below w.heap.size w y2 from below_step (by repeat (with_reducible first | exact HB1.out | refine below_alloc ?_ _)) hb); clear hb; obtain ⟨a0_2, a1_2, a2_2, a3_2, a4_2, a5_2, a6_2, a7_2, a8_2, a9_2⟩ := cells10 KA2.out; have l_2 := blk_lt KA2.out; have n_2 := Nat.ne_of_lt l_2)
      | (go_at_call 8; (with_reducible refine (noteNone _ _ _ _ _ _ _ _ _ _ (NoneAt.tab (by repeat (first | exact KB2.out | refine blk_alloc ?_ _)))).mono ?_); rintro e1 y3 ⟨rfl, hb⟩; have KA3 := Aside0.mk (blk_below (g := w.heap.size) (o := .cells #[x0, x1, x2, x3, x4, x5, x6, x7, x8, x9] 34 (0, 0)) (by repeat (first | exact KA2.out | refine blk_alloc ?_ _)) hb); have KB3 := Aside0.mk (blk_below (g := w.heap.size + 1) (o := .cells #[.map none] 48 (0, 0)) (by repeat (first | exact KB2.out | refine blk_alloc ?_ _)) hb); have KC3 := Aside0.mk (blk_below (g := w.heap.size + 1 + 1) (o := .cells #[.pointer none, .pointer (some ⟨w.heap.size + 1, 0, none⟩)] 23 (0, 0)) (by repeat (first | exact KC2.out | refine blk_alloc ?_ _)) hb); have HB3 := Aside0.mk (show Below w.heap.size w y3 from below_step (by repeat (with_reducible first | exact HB2.out | refine below_alloc ?_ _)) hb); clear hb; obtain ⟨a0_3, a1_3, a2_3, a3_3, a4_3, a5_3, a6_3, a7_3, a8_3, a9_3⟩ := cells10 KA3.out; have l_3 := blk_lt KA3.out; have n_3 := Nat.ne_of_lt l_3)
      | (go_at_call 14; (with_reducible refine (mergeNone _ _ _ (NoneAt.tab (by repeat (first | exact KB3.out | refine blk_alloc ?_ _)))).mono ?_); rintro e1 y4 ⟨rfl, hb⟩; have KA4 := Aside0.mk (blk_below (g := w.heap.size) (o := .cells #[x0, x1, x2, x3, x4, x5, x6, x7, x8, x9] 34 (0, 0)) (by repeat (first | exact KA3.out | refine blk_alloc ?_ _)) hb); have KB4 := Aside0.mk (blk_below (g := w.heap.size + 1) (o := .cells #[.map none] 48 (0, 0)) (by repeat (first | exact KB3.out | refine blk_alloc ?_ _)) hb); have KC4 := Aside0.mk (blk_below (g := w.heap.size + 1 + 1) (o := .cells #[.pointer none, .pointer (some ⟨w.heap.size + 1, 0, none⟩)] 23 (0, 0)) (by repeat (first | exact KC3.out | refine blk_alloc ?_ _)) hb); have HB4 := Aside0.mk (show Below w.heap.size w y4 from below_step (by repeat (with_reducible first | exact HB3.out | refine below_alloc ?_ _)) hb); clear hb; obtain ⟨a0_4, a1_4, a2_4, a3_4, a4_4, a5_4, a6_4, a7_4, a8_4, a9_4⟩ := cells10 KA4.out; have l_4 := blk_lt KA4.out; have n_4 := Nat.ne_of_lt l_4)
      | (go_at_call 13; (with_reducible refine (clientsNone _ _ (NoneAt.tab (by repeat (first | exact KB4.out | refine blk_alloc ?_ _)))).mono ?_); rintro e1 y5 ⟨rfl, hb⟩; have KA5 := Aside0.mk (blk_below (g := w.heap.size) (o := .cells #[x0, x1, x2, x3, x4, x5, x6, x7, x8, x9] 34 (0, 0)) (by repeat (first | exact KA4.out | refine blk_alloc ?_ _)) hb); have KB5 := Aside0.mk (blk_below (g := w.heap.size + 1) (o := .cells #[.map none] 48 (0, 0)) (by repeat (first | exact KB4.out | refine blk_alloc ?_ _)) hb); have KC5 := Aside0.mk (blk_below (g := w.heap.size + 1 + 1) (o := .cells #[.pointer none, .pointer (some ⟨w.heap.size + 1, 0, none⟩)] 23 (0, 0)) (by repeat (first | exact KC4.out | refine blk_alloc ?_ _)) hb); have HB5 := Aside0.mk (show Below w.heap.size w y5 from below_step (by repeat (with_reducible first | exact HB4.out | refine below_alloc ?_ _)) hb); clear hb; obtain ⟨a0_5, a1_5, a2_5, a3_5, a4_5, a5_5, a6_5, a7_5, a8_5, a9_5⟩ := cells10 KA5.out; have l_5 := blk_lt KA5.out; have n_5 := Nat.ne_of_lt l_5)
      | (go_at_call 11; (with_reducible refine (lastNone _ _ _ (NoneAt.tab (by repeat (first | exact KB5.out | refine blk_alloc ?_ _)))).mono ?_); rintro e1 y6 ⟨rfl, hb⟩; have KA6 := Aside0.mk (blk_below (g := w.heap.size) (o := .cells #[x0, x1, x2, x3, x4, x5, x6, x7, x8, x9] 34 (0, 0)) (by repeat (first | exact KA5.out | refine blk_alloc ?_ _)) hb); have KB6 := Aside0.mk (blk_below (g := w.heap.size + 1) (o := .cells #[.map none] 48 (0, 0)) (by repeat (first | exact KB5.out | refine blk_alloc ?_ _)) hb); have KC6 := Aside0.mk (blk_below (g := w.heap.size + 1 + 1) (o := .cells #[.pointer none, .pointer (some ⟨w.heap.size + 1, 0, none⟩)] 23 (0, 0)) (by repeat (first | exact KC5.out | refine blk_alloc ?_ _)) hb); have HB6 := Aside0.mk (show Below w.heap.size w y6 from below_step (by repeat (with_reducible first | exact HB5.out | refine below_alloc ?_ _)) hb); clear hb; obtain ⟨a0_6, a1_6, a2_6, a3_6, a4_6, a5_6, a6_6, a7_6, a8_6, a9_6⟩ := cells10 KA6.out; have l_6 := blk_lt KA6.out; have n_6 := Nat.ne_of_lt l_6)
      | (go_at_call 15; (with_reducible refine (dumpNone _ _ (NoneAt.tab (by repeat (first | exact KB6.out | refine blk_alloc ?_ _)))).mono ?_); rintro e1 y7 ⟨rfl, hb⟩; have KA7 := Aside0.mk (blk_below (g := w.heap.size) (o := .cells #[x0, x1, x2, x3, x4, x5, x6, x7, x8, x9] 34 (0, 0)) (by repeat (first | exact KA6.out | refine blk_alloc ?_ _)) hb); have KB7 := Aside0.mk (blk_below (g := w.heap.size + 1) (o := .cells #[.map none] 48 (0, 0)) (by repeat (first | exact KB6.out | refine blk_alloc ?_ _)) hb); have KC7 := Aside0.mk (blk_below (g := w.heap.size + 1 + 1) (o := .cells #[.pointer none, .pointer (some ⟨w.heap.size + 1, 0, none⟩)] 23 (0, 0)) (by repeat (first | exact KC6.out | refine blk_alloc ?_ _)) hb); have HB7 := Aside0.mk (show Below w.heap.size w y7 from below_step (by repeat (with_reducible first | exact HB6.out | refine below_alloc ?_ _)) hb); clear hb; obtain ⟨a0_7, a1_7, a2_7, a3_7, a4_7, a5_7, a6_7, a7_7, a8_7, a9_7⟩ := cells10 KA7.out; have l_7 := blk_lt KA7.out; have n_7 := Nat.ne_of_lt l_7)
      | (go_at_call 16; (with_reducible refine (allNone _ _ (NoneAt.tab (by repeat (first | exact KB7.out | refine blk_alloc ?_ _)))).mono ?_); rintro e1 y8 ⟨rfl, hb⟩; have KA8 := Aside0.mk (blk_below (g := w.heap.size) (o := .cells #[x0, x1, x2, x3, x4, x5, x6, x7, x8, x9] 34 (0, 0)) (by repeat (first | exact KA7.out | refine blk_alloc ?_ _)) hb); have KB8 := Aside0.mk (blk_below (g := w.heap.size + 1) (o := .cells #[.map none] 48 (0, 0)) (by repeat (first | exact KB7.out | refine blk_alloc ?_ _)) hb); have KC8 := Aside0.mk (blk_below (g := w.heap.size + 1 + 1) (o := .cells #[.pointer none, .pointer (some ⟨w.heap.size + 1, 0, none⟩)] 23 (0, 0)) (by repeat (first | exact KC7.out | refine blk_alloc ?_ _)) hb); have HB8 := Aside0.mk (show Below w.heap.size w y8 from below_step (by repeat (with_reducible first | exact HB7.out | refine below_alloc ?_ _)) hb); clear hb; obtain ⟨a0_8, a1_8, a2_8, a3_8, a4_8, a5_8, a6_8, a7_8, a8_8, a9_8⟩ := cells10 KA8.out; have l_8 := blk_lt KA8.out; have n_8 := Nat.ne_of_lt l_8)
      | (go_at_call 17; (with_reducible refine (copyNone _ _ (NoneAt.tab (by repeat (first | exact KB8.out | refine blk_alloc ?_ _)))).mono ?_); rintro e1 y9 ⟨rfl, hb⟩; have KA9 := Aside0.mk (blk_below (g := w.heap.size) (o := .cells #[x0, x1, x2, x3, x4, x5, x6, x7, x8, x9] 34 (0, 0)) (by repeat (first | exact KA8.out | refine blk_alloc ?_ _)) hb); have KB9 := Aside0.mk (blk_below (g := w.heap.size + 1) (o := .cells #[.map none] 48 (0, 0)) (by repeat (first | exact KB8.out | refine blk_alloc ?_ _)) hb); have KC9 := Aside0.mk (blk_below (g := w.heap.size + 1 + 1) (o := .cells #[.pointer none, .pointer (some ⟨w.heap.size + 1, 0, none⟩)] 23 (0, 0)) (by repeat (first | exact KC8.out | refine blk_alloc ?_ _)) hb); have HB9 := Aside0.mk (show Below w.heap.size w y9 from below_step (by repeat (with_reducible first | exact HB8.out | refine below_alloc ?_ _)) hb); clear hb; obtain ⟨a0_9, a1_9, a2_9, a3_9, a4_9, a5_9, a6_9, a7_9, a8_9, a9_9⟩ := cells10 KA9.out; have l_9 := blk_lt KA9.out; have n_9 := Nat.ne_of_lt l_9))
    go_roundg (2 - 2)
    case measure => omega
    case rel => exact ⟨2, rfl, by omega, by omega, ⟨by repeat (with_reducible first | exact KA9.out | refine blk_alloc ?_ _)⟩, ⟨by repeat (with_reducible first | exact KB9.out | refine blk_alloc ?_ _)⟩, ⟨by repeat (with_reducible first | exact KC9.out | refine blk_alloc ?_ _)⟩, ⟨by repeat (with_reducible first | exact HB9.out | refine below_alloc ?_ _)⟩⟩
  · go_wp2_with (go_at_call 12; (with_reducible refine (worksC _).mono ?_); rintro e1 w6 ⟨rfl, hb⟩)
    go_ret
    exact ⟨rfl, below_step HB.out hb⟩
end Go.Proofs.Ythelhieeplfffaa.P
