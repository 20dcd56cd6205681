/- session.Table, by hand: Note of a client that is known, or one too many; Look; Clients. No conditions. -/
import Derived.Test.YthelhieeplfffaaHTab
namespace Go.Proofs.Ythelhieeplfffaa.P
open Go.RowKit Go.Maps Go.Sort Go.Shelf Go.Proofs.YthelhieeplfffaaW.PrintWords Go.Proofs.YthelhieeplfffaaW.PrintLast Go.Proofs.YthelhieeplfffaaW.PrintMore
set_option linter.unusedVariables false
set_option linter.unusedSimpArgs false


set_option maxHeartbeats 4000000 in
set_option maxRecDepth 100000 in
theorem noteFull (w : World) (B b q : Nat) (M : List (Int × La)) (h : TabAt w B b q M) (c num e s n : Int) (hc : 1 ≤ c ∧ c ≤ 1099511627776) (hn : 1 ≤ num ∧ num ≤ 1099511627776) (hno : ∀ x ∈ M, x.1 ≠ c) (hl : M.length = 64) :
    Calls Try.prog 8 #[.pointer (some ⟨B, 0, none⟩), .int .i64 c, .int .i64 num, .agg #[.int .i64 e, .int .i64 s, .int .i64 n, .slice none 0 0, .slice none 0 0, .slice none 0 0]] w fun e' w' => e' = .returned (.int .i64 7) ∧ Below w.heap.size w w' := by
  have HT := Aside0.mk h
  obtain ⟨hb, D, hown, hrel⟩ := h
  have HO := Aside0.mk hown
  have HB := Aside0.mk hb
  have HK := Aside0.mk (keyOf_int_mk (P := Try.prog) (k := 3) Try.underlying3 (show (Lit.int .i64 c).wf = true by simp [Lit.wf]; simp [IntKind.min, IntKind.bits]; omega))
  have HC := Aside0.mk hc
  have HN := Aside0.mk hn
  have hcell : w.cell? ⟨B, 0, none⟩ = some (.map (some b)) := (blk_cell hb 0).trans rfl
  have hlt := blk_lt hb
  have hne := Nat.ne_of_lt hlt
  have hne1 : B ≠ w.heap.size + 1 := by omega
  have hne2 : B ≠ w.heap.size + 1 + 1 := by omega
  have hlt1 : B < w.heap.size + 1 := by omega
  have hlt2 : B < w.heap.size + 1 + 1 := by omega
  have HNO := Aside0.mk (hrel.no hno)
  have HAT := Aside0.mk (show D.atKey (.int .i64 c) (.held zeroV) = .held zeroV from atKey_of_not_has (hrel.no hno) _)
  have HSZ := Aside0.mk (show Maps.size D = 64 by rw [hrel.size, hl])
  have hc3 := fun (o1 o2 o3 : Obj) => (show (((w.alloc o1).alloc o2).alloc o3).cell? ⟨B, 0, none⟩ = some (.map (some b)) from (blk_cell (blk_alloc (blk_alloc (blk_alloc HB.out o1) o2) o3) 0).trans rfl)
  have hlen := fun (o1 o2 o3 : Obj) => (((HO.out.alloc o1).alloc o2).alloc o3).len Try.underlying46 3
  simp only [HSZ.out] at hlen
  have f1 : decide (num ≤ 0) = false := decide_eq_false (by omega)
  clear hb hown hrel hno hc hn hl
  go_enter Try.func8, Try.ntmps8
  go_wp2_with (first
    | (go_at_call 18; (with_reducible refine (noneC _ B b (by repeat (first | exact HB.out | refine blk_alloc ?_ _))).mono ?_); rintro e1 w1 ⟨rfl, rfl⟩)
    | (go_at_call 19; (with_reducible refine (numberC _ _ c num (by refine blk_at ?_; simp) HC.out HN.out).mono ?_); rintro e1 w1 ⟨rfl, rfl⟩)
    | (at_lookup; refine look_ok_held _ rfl _ _ 46 rfl 3 59 law3 Try.underlying46 zeroV (zero59 _) b q D rfl (by repeat (first | exact HO.out | refine World.ownsMap.alloc ?_ _)) _ (.int .i64 c) rfl HK.out zeroV HAT.out false HNO.out ?_; unfold zeroV))
  go_ret
  refine ⟨rfl, ?_⟩
  repeat (first | exact Below.refl _ _ | refine below_alloc ?_ _)

set_option maxHeartbeats 4000000 in
set_option maxRecDepth 100000 in
theorem noteMore (w : World) (B b q : Nat) (M : List (Int × La)) (h : TabAt w B b q M) (c num e s n : Int) (hc : 1 ≤ c ∧ c ≤ 1099511627776) (hn : 1 ≤ num ∧ num ≤ 1099511627776) (y : La) (hin : (c, y) ∈ M) (hy : y.num < num) (hq : q < 1000) :
    Calls Try.prog 8 #[.pointer (some ⟨B, 0, none⟩), .int .i64 c, .int .i64 num, .agg #[.int .i64 e, .int .i64 s, .int .i64 n, .slice none 0 0, .slice none 0 0, .slice none 0 0]] w fun e' w' => e' = .returned (.int .i64 0) ∧ TabAt w' B b (q + 1) (setT c ⟨num, e, s, n⟩ M) ∧ w.grownBy w' (some b) := by
  have HT := Aside0.mk h
  obtain ⟨hb, D, hown, hrel⟩ := h
  have HO := Aside0.mk hown
  have HB := Aside0.mk hb
  have HK := Aside0.mk (keyOf_int_mk (P := Try.prog) (k := 3) Try.underlying3 (show (Lit.int .i64 c).wf = true by simp [Lit.wf]; simp [IntKind.min, IntKind.bits]; omega))
  have HC := Aside0.mk hc
  have HN := Aside0.mk hn
  have hcell : w.cell? ⟨B, 0, none⟩ = some (.map (some b)) := (blk_cell hb 0).trans rfl
  have hlt := blk_lt hb
  have hne := Nat.ne_of_lt hlt
  have hne1 : B ≠ w.heap.size + 1 := by omega
  have hne2 : B ≠ w.heap.size + 1 + 1 := by omega
  have hlt1 : B < w.heap.size + 1 := by omega
  have hlt2 : B < w.heap.size + 1 + 1 := by omega
  have HHAS := Aside0.mk (show Maps.has D (.int .i64 c) = true from (hrel.keys c).2 ⟨_, hin, rfl⟩)
  have HAT := Aside0.mk (show D.atKey (.int .i64 c) (.held zeroV) = .held (.agg #[.int .i64 y.num, .int .i64 y.e, .int .i64 y.s, .int .i64 y.n, .slice none 0 0, .slice none 0 0, .slice none 0 0]) from hrel.vals _ hin)
  have HNEW := Aside0.mk (hrel.old (hown.tidy law3) hin ⟨num, e, s, n⟩)
  have HQ := Aside0.mk (show q < maxLen by unfold maxLen; omega)
  have f1 : decide (num ≤ y.num) = false := decide_eq_false (by omega)
  clear hb hown hrel hin hc hn hy hq
  go_enter Try.func8, Try.ntmps8
  go_wp2_with (first
    | (go_at_call 18; (with_reducible refine (noneC _ B b (by repeat (first | exact HB.out | refine blk_alloc ?_ _))).mono ?_); rintro e1 w1 ⟨rfl, rfl⟩)
    | (go_at_call 19; (with_reducible refine (numberC _ _ c num (by refine blk_at ?_; simp) HC.out HN.out).mono ?_); rintro e1 w1 ⟨rfl, rfl⟩)
    | (at_lookup; refine look_ok_held _ rfl _ _ 46 rfl 3 59 law3 Try.underlying46 zeroV (zero59 _) b q D rfl (by repeat (first | exact HO.out | refine World.ownsMap.alloc ?_ _)) _ (.int .i64 c) rfl HK.out (.agg #[.int .i64 y.num, .int .i64 y.e, .int .i64 y.s, .int .i64 y.n, .slice none 0 0, .slice none 0 0, .slice none 0 0]) HAT.out true HHAS.out ?_))
  obtain ⟨W, hW⟩ : ∃ W, W = ((w.alloc (.cells #[.int .i64 e, .int .i64 s, .int .i64 n, .slice none 0 0, .slice none 0 0, .slice none 0 0] 32)).alloc (.cells #[.int .i64 c, .int .i64 num] 3)).alloc (.cells #[.int .i64 y.num, .int .i64 y.e, .int .i64 y.s, .int .i64 y.n, .slice none 0 0, .slice none 0 0, .slice none 0 0] 59) := ⟨_, rfl⟩
  rw [← hW]
  have KB := Aside0.mk (show W.heap[B]? = some (.cells #[.map (some b)] 48 (0, 0)) by rw [hW]; exact blk_alloc (blk_alloc (blk_alloc HB.out _) _) _)
  have KR := Aside0.mk (show W.heap[w.heap.size]? = some (.cells #[.int .i64 e, .int .i64 s, .int .i64 n, .slice none 0 0, .slice none 0 0, .slice none 0 0] 32 (0, 0)) by rw [hW]; exact blk_alloc (blk_alloc (heap_alloc_new w _) _) _)
  have KO := Aside0.mk (show W.ownsMap Try.prog 3 RH b q D by rw [hW]; exact ((HO.out.alloc _).alloc _).alloc _)
  have KW := Aside0.mk (show w.grownBy W (some b) by rw [hW]; exact ((World.grownBy_alloc w _ _).trans (World.grownBy_alloc _ _ _)).trans (World.grownBy_alloc _ _ _))
  clear hW hcell hlt hne hne1 hne2 hlt1 hlt2
  refine start_ (n := 10) (S := fun w' => w'.cell? ⟨B, 0, none⟩ = some (.map (some b)) ∧ w'.cell? ⟨w.heap.size, 0, none⟩ = some (.int .i64 e) ∧ w'.cell? ⟨w.heap.size, 1, none⟩ = some (.int .i64 s) ∧ w'.cell? ⟨w.heap.size, 2, none⟩ = some (.int .i64 n) ∧ w'.cell? ⟨w.heap.size, 3, none⟩ = some (.slice none 0 0) ∧ w'.cell? ⟨w.heap.size, 4, none⟩ = some (.slice none 0 0) ∧ w'.cell? ⟨w.heap.size, 5, none⟩ = some (.slice none 0 0)) (ds := [9]) #[false, false, false, false, false, false, false, false, false, false] (by kernel_rfl) rfl rfl ⟨(blk_cell KB.out 0).trans rfl, (blk_cell KR.out 0).trans rfl, (blk_cell KR.out 1).trans rfl, (blk_cell KR.out 2).trans rfl, (blk_cell KR.out 3).trans rfl, (blk_cell KR.out 4).trans rfl, (blk_cell KR.out 5).trans rfl⟩ (fun hHeld => ?_)
  refine take_ (i := 0) (N := some 45) (v := ?_) (a' := ?_) #[true, false, false, false, false, false, false, false, false, false] rfl rfl (by kernel_rfl) (fun _ _ _ h => h) (Or.inl ⟨by rfl, ?_⟩) hHeld ?_ ?_
  rotate_left
  · rintro w' ⟨s0, s1, s2, s3, s4, s5, s6⟩
    go_simp
    with_reducible rfl
  rotate_left
  · simp only [Act.put, List.setIfInBounds_toArray, List.set_cons_zero, List.set_cons_succ, i64_w, i32_w]
    rfl
  refine take_ (i := 1) (N := some 46) (v := ?_) (a' := ?_) #[true, true, false, false, false, false, false, false, false, false] rfl rfl (by kernel_rfl) (fun _ _ _ h => h) (Or.inl ⟨by rfl, ?_⟩) hHeld ?_ ?_
  rotate_left
  · rintro w' ⟨s0, s1, s2, s3, s4, s5, s6⟩
    go_simp
    with_reducible rfl
  rotate_left
  · simp only [Act.put, List.setIfInBounds_toArray, List.set_cons_zero, List.set_cons_succ, i64_w, i32_w]
    rfl
  refine take_ (i := 2) (N := some 47) (v := ?_) (a' := ?_) #[true, true, true, false, false, false, false, false, false, false] rfl rfl (by kernel_rfl) (fun _ _ _ h => h) (Or.inl ⟨by rfl, ?_⟩) hHeld ?_ ?_
  rotate_left
  · rintro w' ⟨s0, s1, s2, s3, s4, s5, s6⟩
    go_simp
    with_reducible rfl
  rotate_left
  · simp only [Act.put, List.setIfInBounds_toArray, List.set_cons_zero, List.set_cons_succ, i64_w, i32_w]
    rfl
  refine take_ (i := 3) (N := some 48) (v := ?_) (a' := ?_) #[true, true, true, true, false, false, false, false, false, false] rfl rfl (by kernel_rfl) (fun _ _ _ h => h) (Or.inl ⟨by rfl, ?_⟩) hHeld ?_ ?_
  rotate_left
  · rintro w' ⟨s0, s1, s2, s3, s4, s5, s6⟩
    go_simp
    with_reducible rfl
  rotate_left
  · simp only [Act.put, List.setIfInBounds_toArray, List.set_cons_zero, List.set_cons_succ, i64_w, i32_w]
    rfl
  refine take_ (i := 4) (N := some 49) (v := ?_) (a' := ?_) #[true, true, true, true, true, false, false, false, false, false] rfl rfl (by kernel_rfl) (fun _ _ _ h => h) (Or.inl ⟨by rfl, ?_⟩) hHeld ?_ ?_
  rotate_left
  · rintro w' ⟨s0, s1, s2, s3, s4, s5, s6⟩
    go_simp
    with_reducible rfl
  rotate_left
  · simp only [Act.put, List.setIfInBounds_toArray, List.set_cons_zero, List.set_cons_succ, i64_w, i32_w]
    rfl
  refine take_ (i := 5) (N := some 50) (v := ?_) (a' := ?_) #[true, true, true, true, true, true, false, false, false, false] rfl rfl (by kernel_rfl) (fun _ _ _ h => h) (Or.inl ⟨by rfl, ?_⟩) hHeld ?_ ?_
  rotate_left
  · rintro w' ⟨s0, s1, s2, s3, s4, s5, s6⟩
    go_simp
    with_reducible rfl
  rotate_left
  · simp only [Act.put, List.setIfInBounds_toArray, List.set_cons_zero, List.set_cons_succ, i64_w, i32_w]
    rfl
  refine take_ (i := 6) (N := some 51) (v := ?_) (a' := ?_) #[true, true, true, true, true, true, true, false, false, false] rfl rfl (by kernel_rfl) (fun _ _ _ h => h) (Or.inl ⟨by rfl, ?_⟩) hHeld ?_ ?_
  rotate_left
  · rintro w' ⟨s0, s1, s2, s3, s4, s5, s6⟩
    go_simp
    with_reducible rfl
  rotate_left
  · simp only [Act.put, List.setIfInBounds_toArray, List.set_cons_zero, List.set_cons_succ, i64_w, i32_w]
    rfl
  refine one_ (i := 7) (N := some 52) #[true, true, true, true, true, true, true, true, false, false] rfl rfl (by kernel_rfl) (by decide) (fun K hK => ?_)
  refine goes_ Try.func20 (by kernel_rfl) rfl #[.agg #[.int .i64 e, .int .i64 s, .int .i64 n, .slice none 0 0, .slice none 0 0, .slice none 0 0]] (by rfl) rfl rfl (by (try simp only [List.map_toArray, List.map_cons, List.map_nil]); first | done | rfl) ?_
  with_reducible refine (ownC e s n _).mono ?_
  rintro e1 w5 ⟨rfl, hb5_⟩
  have hb5 : Below W.heap.size W w5 := ⟨hb5_.os, hb5_.tape, hb5_.output, hb5_.size, hb5_.block⟩
  clear hb5_
  refine ⟨_, rfl, ?_⟩
  have KB5 := Aside0.mk (blk_below KB.out hb5)
  have KR5 := Aside0.mk (blk_below KR.out hb5)
  have KO5 := Aside0.mk (owns_below KO.out hb5)
  have HB5 := Aside0.mk hb5
  refine hK.out _ _ ⟨(blk_cell KB5.out 0).trans rfl, (blk_cell KR5.out 0).trans rfl, (blk_cell KR5.out 1).trans rfl, (blk_cell KR5.out 2).trans rfl, (blk_cell KR5.out 3).trans rfl, (blk_cell KR5.out 4).trans rfl, (blk_cell KR5.out 5).trans rfl⟩ ?_
  intro hHeld
  clear hK K hb5
  refine norm_ (a' := ?_) ?_ ?_
  rotate_left
  · show Act.put _ (some 52) _ = _
    simp only [Act.put, List.setIfInBounds_toArray, List.set_cons_zero, List.set_cons_succ, i64_w, i32_w]
    rfl
  refine take_ (i := 8) (N := some 53) (v := ?_) (a' := ?_) #[true, true, true, true, true, true, true, true, true, false] rfl rfl (by kernel_rfl) (fun _ _ _ h => h) (Or.inl ⟨by rfl, ?_⟩) hHeld ?_ ?_
  rotate_left
  · rintro w' ⟨s0, s1, s2, s3, s4, s5, s6⟩
    go_simp
    with_reducible rfl
  rotate_left
  · simp only [Act.put, List.setIfInBounds_toArray, List.set_cons_zero, List.set_cons_succ, i64_w, i32_w]
    rfl
  refine last_ (i := 9) (N := none) #[true, true, true, true, true, true, true, true, true, true] rfl rfl (by kernel_rfl) (by decide) (fun K hK => ?_)
  obtain ⟨w6, hrun, hown6, hgrow6⟩ := KO5.out.update law3 Try.underlying46 HQ.out HK.out (show RH (laV ⟨num, e, s, n⟩) = some (.held (laV ⟨num, e, s, n⟩), []) from rfl)
  refine skip_ (w1 := w6) (by rfl) rfl ?_ ?_
  · unfold laV at hrun
    simp only [execOp, Act.eval, Act.put, List.setIfInBounds_toArray, List.set_cons_zero, List.set_cons_succ]
    go_simp
  · refine hK.out _ _ ?_
    refine done_ (by kernel_rfl) ?_
    go_wp2
    go_ret
    have hT := HT.out.lt
    have hg : w.grownBy w6 (some b) := (KW.out.trans (show W.grownBy w5 (some b) from ⟨HB5.out.os, HB5.out.tape, HB5.out.output, HB5.out.size, fun k hk _ => HB5.out.block k hk⟩)).trans hgrow6
    refine ⟨rfl, ⟨?_, _, hown6, HNEW.out⟩, hg⟩
    exact (hg.block B hT.1 (fun e => hT.2.2 (Option.some.inj e))).trans HB.out

set_option maxHeartbeats 4000000 in
set_option maxRecDepth 100000 in
theorem lookHit (w : World) (B b q : Nat) (M : List (Int × La)) (h : TabAt w B b q M) (c num : Int) (hc : 1 ≤ c ∧ c ≤ 1099511627776) (hn : 1 ≤ num ∧ num ≤ 1099511627776) (y : La) (hin : (c, y) ∈ M) (hy : y.num = num) :
    Calls Try.prog 9 #[.pointer (some ⟨B, 0, none⟩), .int .i64 c, .int .i64 num] w fun e' w' => e' = .returned (.tuple #[.agg #[.int .i64 y.e, .int .i64 y.s, .int .i64 y.n, .slice none 0 0, .slice none 0 0, .slice none 0 0], .bool true, .int .i64 0]) ∧ Below w.heap.size w w' := by
  have HT := Aside0.mk h
  obtain ⟨hb, D, hown, hrel⟩ := h
  have HO := Aside0.mk hown
  have HB := Aside0.mk hb
  have HK := Aside0.mk (keyOf_int_mk (P := Try.prog) (k := 3) Try.underlying3 (show (Lit.int .i64 c).wf = true by simp [Lit.wf]; simp [IntKind.min, IntKind.bits]; omega))
  have HC := Aside0.mk hc
  have HN := Aside0.mk hn
  have hcell : w.cell? ⟨B, 0, none⟩ = some (.map (some b)) := (blk_cell hb 0).trans rfl
  have hlt := blk_lt hb
  have hne := Nat.ne_of_lt hlt
  have hne1 : B ≠ w.heap.size + 1 := by omega
  have hne2 : B ≠ w.heap.size + 1 + 1 := by omega
  have hlt1 : B < w.heap.size + 1 := by omega
  have hlt2 : B < w.heap.size + 1 + 1 := by omega
  have HAT := Aside0.mk (show D.atKey (.int .i64 c) (.held zeroV) = .held (.agg #[.int .i64 y.num, .int .i64 y.e, .int .i64 y.s, .int .i64 y.n, .slice none 0 0, .slice none 0 0, .slice none 0 0]) from hrel.vals _ hin)
  have f0 : decide (num < y.num) = false := decide_eq_false (by omega)
  have f1 : (num == y.num) = true := beq_iff_eq.2 hy.symm
  clear hb hown hrel hin hc hn hy
  go_enter Try.func9, Try.ntmps9
  go_wp2_with (first
    | (go_at_call 18; (with_reducible refine (noneC _ B b (by repeat (first | exact HB.out | refine blk_alloc ?_ _))).mono ?_); rintro e1 w1 ⟨rfl, rfl⟩)
    | (go_at_call 19; (with_reducible refine (numberC _ _ c num (by refine blk_at ?_; simp) HC.out HN.out).mono ?_); rintro e1 w1 ⟨rfl, rfl⟩)
    | (at_lookup; refine look_held _ rfl _ _ 46 rfl 3 59 law3 Try.underlying46 zeroV (zero59 _) b q D rfl (by repeat (first | exact HO.out | refine World.ownsMap.alloc ?_ _)) _ (.int .i64 c) rfl HK.out (.agg #[.int .i64 y.num, .int .i64 y.e, .int .i64 y.s, .int .i64 y.n, .slice none 0 0, .slice none 0 0, .slice none 0 0]) HAT.out ?_)
    | (go_at_call 20; (with_reducible refine (ownC y.e y.s y.n _).mono ?_); rintro e1 w5 ⟨rfl, hb5⟩; have HB5 := Aside0.mk hb5; have KZ := Aside0.mk (blk_below (g := w.heap.size) (o := .cells #[.int .i64 0, .int .i64 0, .int .i64 0, .slice none 0 0, .slice none 0 0, .slice none 0 0] 32 (0, 0)) (blk_alloc (blk_alloc (heap_alloc_new w _) _) _) hb5); have z0 : w5.cell? ⟨w.heap.size, 0, none⟩ = some (.int .i64 0) := (blk_cell KZ.out 0).trans rfl; have z1 : w5.cell? ⟨w.heap.size, 1, none⟩ = some (.int .i64 0) := (blk_cell KZ.out 1).trans rfl; have z2 : w5.cell? ⟨w.heap.size, 2, none⟩ = some (.int .i64 0) := (blk_cell KZ.out 2).trans rfl; have z3 : w5.cell? ⟨w.heap.size, 3, none⟩ = some (.slice none 0 0) := (blk_cell KZ.out 3).trans rfl; have z4 : w5.cell? ⟨w.heap.size, 4, none⟩ = some (.slice none 0 0) := (blk_cell KZ.out 4).trans rfl; have z5 : w5.cell? ⟨w.heap.size, 5, none⟩ = some (.slice none 0 0) := (blk_cell KZ.out 5).trans rfl; have q0 := blk_frozen KZ.out 0; have q1 := blk_frozen KZ.out 1; have q2 := blk_frozen KZ.out 2; have q3 := blk_frozen KZ.out 3; have q4 := blk_frozen KZ.out 4; have q5 := blk_frozen KZ.out 5; clear hb5))
  refine bodyPost_ret (results_list (rs := [.cell 6 32, .tmp 7, .tmp 8]) rfl (by simp) (.cell w.heap.size 32 #[.int .i64 y.e, .int .i64 y.s, .int .i64 y.n, .slice none 0 0, .slice none 0 0, .slice none 0 0] (0, 0) _ rfl ?_ Try.underlying32 rfl (by kernel_rfl) (.tmp (.tmp .nil)))) rfl ?_
  · refine blk_put (cs := #[.int .i64 y.e, .int .i64 y.s, .int .i64 y.n, .slice none 0 0, .slice none 0 0, .slice none 0 0]) ?_ 5 _ rfl
    refine blk_put (cs := #[.int .i64 y.e, .int .i64 y.s, .int .i64 y.n, .slice none 0 0, .slice none 0 0, .slice none 0 0]) ?_ 4 _ rfl
    refine blk_put (cs := #[.int .i64 y.e, .int .i64 y.s, .int .i64 y.n, .slice none 0 0, .slice none 0 0, .slice none 0 0]) ?_ 3 _ rfl
    refine blk_put (cs := #[.int .i64 y.e, .int .i64 y.s, .int .i64 0, .slice none 0 0, .slice none 0 0, .slice none 0 0]) ?_ 2 _ rfl
    refine blk_put (cs := #[.int .i64 y.e, .int .i64 0, .int .i64 0, .slice none 0 0, .slice none 0 0, .slice none 0 0]) ?_ 1 _ rfl
    refine blk_put (cs := #[.int .i64 0, .int .i64 0, .int .i64 0, .slice none 0 0, .slice none 0 0, .slice none 0 0]) ?_ 0 _ rfl
    exact KZ.out
  · refine ⟨rfl, ?_⟩
    have hb : Below w.heap.size w w5 := below_step (below_alloc (below_alloc (below_alloc (Below.refl _ _) _) _) _) HB5.out
    repeat (with_reducible first | exact hb | refine below_set ?_ (Nat.le_refl _))

set_option maxHeartbeats 4000000 in
set_option maxRecDepth 100000 in
theorem lookLess (w : World) (B b q : Nat) (M : List (Int × La)) (h : TabAt w B b q M) (c num : Int) (hc : 1 ≤ c ∧ c ≤ 1099511627776) (hn : 1 ≤ num ∧ num ≤ 1099511627776) (y : La) (hin : (c, y) ∈ M) (hy : num < y.num) :
    Calls Try.prog 9 #[.pointer (some ⟨B, 0, none⟩), .int .i64 c, .int .i64 num] w fun e' w' => e' = .returned (.tuple #[.agg #[.int .i64 0, .int .i64 0, .int .i64 0, .slice none 0 0, .slice none 0 0, .slice none 0 0], .bool false, .int .i64 16]) ∧ Below w.heap.size w w' := by
  have HT := Aside0.mk h
  obtain ⟨hb, D, hown, hrel⟩ := h
  have HO := Aside0.mk hown
  have HB := Aside0.mk hb
  have HK := Aside0.mk (keyOf_int_mk (P := Try.prog) (k := 3) Try.underlying3 (show (Lit.int .i64 c).wf = true by simp [Lit.wf]; simp [IntKind.min, IntKind.bits]; omega))
  have HC := Aside0.mk hc
  have HN := Aside0.mk hn
  have hcell : w.cell? ⟨B, 0, none⟩ = some (.map (some b)) := (blk_cell hb 0).trans rfl
  have hlt := blk_lt hb
  have hne := Nat.ne_of_lt hlt
  have hne1 : B ≠ w.heap.size + 1 := by omega
  have hne2 : B ≠ w.heap.size + 1 + 1 := by omega
  have hlt1 : B < w.heap.size + 1 := by omega
  have hlt2 : B < w.heap.size + 1 + 1 := by omega
  have HAT := Aside0.mk (show D.atKey (.int .i64 c) (.held zeroV) = .held (.agg #[.int .i64 y.num, .int .i64 y.e, .int .i64 y.s, .int .i64 y.n, .slice none 0 0, .slice none 0 0, .slice none 0 0]) from hrel.vals _ hin)
  have f0 : decide (num < y.num) = true := decide_eq_true hy
  clear hb hown hrel hin hc hn hy
  go_enter Try.func9, Try.ntmps9
  go_wp2_with (first
    | (go_at_call 18; (with_reducible refine (noneC _ B b (by repeat (first | exact HB.out | refine blk_alloc ?_ _))).mono ?_); rintro e1 w1 ⟨rfl, rfl⟩)
    | (go_at_call 19; (with_reducible refine (numberC _ _ c num (by refine blk_at ?_; simp) HC.out HN.out).mono ?_); rintro e1 w1 ⟨rfl, rfl⟩)
    | (at_lookup; refine look_held _ rfl _ _ 46 rfl 3 59 law3 Try.underlying46 zeroV (zero59 _) b q D rfl (by repeat (first | exact HO.out | refine World.ownsMap.alloc ?_ _)) _ (.int .i64 c) rfl HK.out (.agg #[.int .i64 y.num, .int .i64 y.e, .int .i64 y.s, .int .i64 y.n, .slice none 0 0, .slice none 0 0, .slice none 0 0]) HAT.out ?_)
    | (go_at_call 20; (with_reducible refine (ownC y.e y.s y.n _).mono ?_); rintro e1 w5 ⟨rfl, hb5⟩; have HB5 := Aside0.mk hb5; have KZ := Aside0.mk (blk_below (g := w.heap.size) (o := .cells #[.int .i64 0, .int .i64 0, .int .i64 0, .slice none 0 0, .slice none 0 0, .slice none 0 0] 32 (0, 0)) (blk_alloc (blk_alloc (heap_alloc_new w _) _) _) hb5); have z0 : w5.cell? ⟨w.heap.size, 0, none⟩ = some (.int .i64 0) := (blk_cell KZ.out 0).trans rfl; have z1 : w5.cell? ⟨w.heap.size, 1, none⟩ = some (.int .i64 0) := (blk_cell KZ.out 1).trans rfl; have z2 : w5.cell? ⟨w.heap.size, 2, none⟩ = some (.int .i64 0) := (blk_cell KZ.out 2).trans rfl; have z3 : w5.cell? ⟨w.heap.size, 3, none⟩ = some (.slice none 0 0) := (blk_cell KZ.out 3).trans rfl; have z4 : w5.cell? ⟨w.heap.size, 4, none⟩ = some (.slice none 0 0) := (blk_cell KZ.out 4).trans rfl; have z5 : w5.cell? ⟨w.heap.size, 5, none⟩ = some (.slice none 0 0) := (blk_cell KZ.out 5).trans rfl; have q0 := blk_frozen KZ.out 0; have q1 := blk_frozen KZ.out 1; have q2 := blk_frozen KZ.out 2; have q3 := blk_frozen KZ.out 3; have q4 := blk_frozen KZ.out 4; have q5 := blk_frozen KZ.out 5; clear hb5))
  refine bodyPost_ret (results_list (rs := [.cell 6 32, .tmp 7, .tmp 8]) rfl (by simp) (.cell w.heap.size 32 #[.int .i64 0, .int .i64 0, .int .i64 0, .slice none 0 0, .slice none 0 0, .slice none 0 0] (0, 0) _ rfl ?_ Try.underlying32 rfl (by kernel_rfl) (.tmp (.tmp .nil)))) rfl ?_
  · exact blk_alloc (blk_alloc (heap_alloc_new w _) _) _
  · refine ⟨rfl, ?_⟩
    repeat (with_reducible first | exact Below.refl _ _ | refine below_alloc ?_ _)

set_option maxHeartbeats 4000000 in
set_option maxRecDepth 100000 in
theorem lookMore (w : World) (B b q : Nat) (M : List (Int × La)) (h : TabAt w B b q M) (c num : Int) (hc : 1 ≤ c ∧ c ≤ 1099511627776) (hn : 1 ≤ num ∧ num ≤ 1099511627776) (y : La) (hin : (c, y) ∈ M) (hy : y.num < num) :
    Calls Try.prog 9 #[.pointer (some ⟨B, 0, none⟩), .int .i64 c, .int .i64 num] w fun e' w' => e' = .returned (.tuple #[.agg #[.int .i64 0, .int .i64 0, .int .i64 0, .slice none 0 0, .slice none 0 0, .slice none 0 0], .bool false, .int .i64 0]) ∧ Below w.heap.size w w' := by
  have HT := Aside0.mk h
  obtain ⟨hb, D, hown, hrel⟩ := h
  have HO := Aside0.mk hown
  have HB := Aside0.mk hb
  have HK := Aside0.mk (keyOf_int_mk (P := Try.prog) (k := 3) Try.underlying3 (show (Lit.int .i64 c).wf = true by simp [Lit.wf]; simp [IntKind.min, IntKind.bits]; omega))
  have HC := Aside0.mk hc
  have HN := Aside0.mk hn
  have hcell : w.cell? ⟨B, 0, none⟩ = some (.map (some b)) := (blk_cell hb 0).trans rfl
  have hlt := blk_lt hb
  have hne := Nat.ne_of_lt hlt
  have hne1 : B ≠ w.heap.size + 1 := by omega
  have hne2 : B ≠ w.heap.size + 1 + 1 := by omega
  have hlt1 : B < w.heap.size + 1 := by omega
  have hlt2 : B < w.heap.size + 1 + 1 := by omega
  have HAT := Aside0.mk (show D.atKey (.int .i64 c) (.held zeroV) = .held (.agg #[.int .i64 y.num, .int .i64 y.e, .int .i64 y.s, .int .i64 y.n, .slice none 0 0, .slice none 0 0, .slice none 0 0]) from hrel.vals _ hin)
  have f0 : decide (num < y.num) = false := decide_eq_false (by omega)
  have f1 : (num == y.num) = false := beq_eq_false_iff_ne.2 (by omega)
  clear hb hown hrel hin hc hn hy
  go_enter Try.func9, Try.ntmps9
  go_wp2_with (first
    | (go_at_call 18; (with_reducible refine (noneC _ B b (by repeat (first | exact HB.out | refine blk_alloc ?_ _))).mono ?_); rintro e1 w1 ⟨rfl, rfl⟩)
    | (go_at_call 19; (with_reducible refine (numberC _ _ c num (by refine blk_at ?_; simp) HC.out HN.out).mono ?_); rintro e1 w1 ⟨rfl, rfl⟩)
    | (at_lookup; refine look_held _ rfl _ _ 46 rfl 3 59 law3 Try.underlying46 zeroV (zero59 _) b q D rfl (by repeat (first | exact HO.out | refine World.ownsMap.alloc ?_ _)) _ (.int .i64 c) rfl HK.out (.agg #[.int .i64 y.num, .int .i64 y.e, .int .i64 y.s, .int .i64 y.n, .slice none 0 0, .slice none 0 0, .slice none 0 0]) HAT.out ?_)
    | (go_at_call 20; (with_reducible refine (ownC y.e y.s y.n _).mono ?_); rintro e1 w5 ⟨rfl, hb5⟩; have HB5 := Aside0.mk hb5; have KZ := Aside0.mk (blk_below (g := w.heap.size) (o := .cells #[.int .i64 0, .int .i64 0, .int .i64 0, .slice none 0 0, .slice none 0 0, .slice none 0 0] 32 (0, 0)) (blk_alloc (blk_alloc (heap_alloc_new w _) _) _) hb5); have z0 : w5.cell? ⟨w.heap.size, 0, none⟩ = some (.int .i64 0) := (blk_cell KZ.out 0).trans rfl; have z1 : w5.cell? ⟨w.heap.size, 1, none⟩ = some (.int .i64 0) := (blk_cell KZ.out 1).trans rfl; have z2 : w5.cell? ⟨w.heap.size, 2, none⟩ = some (.int .i64 0) := (blk_cell KZ.out 2).trans rfl; have z3 : w5.cell? ⟨w.heap.size, 3, none⟩ = some (.slice none 0 0) := (blk_cell KZ.out 3).trans rfl; have z4 : w5.cell? ⟨w.heap.size, 4, none⟩ = some (.slice none 0 0) := (blk_cell KZ.out 4).trans rfl; have z5 : w5.cell? ⟨w.heap.size, 5, none⟩ = some (.slice none 0 0) := (blk_cell KZ.out 5).trans rfl; have q0 := blk_frozen KZ.out 0; have q1 := blk_frozen KZ.out 1; have q2 := blk_frozen KZ.out 2; have q3 := blk_frozen KZ.out 3; have q4 := blk_frozen KZ.out 4; have q5 := blk_frozen KZ.out 5; clear hb5))
  refine bodyPost_ret (results_list (rs := [.cell 6 32, .tmp 7, .tmp 8]) rfl (by simp) (.cell w.heap.size 32 #[.int .i64 0, .int .i64 0, .int .i64 0, .slice none 0 0, .slice none 0 0, .slice none 0 0] (0, 0) _ rfl ?_ Try.underlying32 rfl (by kernel_rfl) (.tmp (.tmp .nil)))) rfl ?_
  · exact blk_alloc (blk_alloc (heap_alloc_new w _) _) _
  · refine ⟨rfl, ?_⟩
    repeat (with_reducible first | exact Below.refl _ _ | refine below_alloc ?_ _)

end Go.Proofs.Ythelhieeplfffaa.P
