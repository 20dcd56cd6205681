/- session.Note over a table whose replies have rows, by hand. No conditions. -/
import Derived.Test.YthelhieeplfffaaHMap
namespace Go.Proofs.Ythelhieeplfffaa.P
open Go.RowKit Go.Maps Go.Proofs.YthelhieeplfffaaW.PrintWords Go.Proofs.YthelhieeplfffaaW.PrintLast Go.Proofs.YthelhieeplfffaaW.PrintMore
set_option linter.unusedVariables false
set_option linter.unusedSimpArgs false

theorem ownR2 (w : World) (e s n : Int) (got : List S56) (data : List ByteArray) (about : List S76) (hf : (⟨e, s, n, got, data, about⟩ : Rp).few) (A1 A2 A3 : Option Addr) (c1 c2 c3 : Nat) (hcc : got.length ≤ c1 ∧ data.length ≤ c2 ∧ about.length ≤ c3) (hr1 : Kd.C k56 w A1 got.length got) (hr2 : Kd.C Kd.string w A2 data.length data) (hr3 : Kd.C k76 w A3 about.length about) :
    Calls Try.prog 20 #[.agg #[.int .i64 e, .int .i64 s, .int .i64 n, .slice A1 got.length c1, .slice A2 data.length c2, .slice A3 about.length c3]] w fun e' w' => ∃ g d a, e' = .returned (.agg #[.int .i64 e, .int .i64 s, .int .i64 n, g, d, a]) ∧ (∀ S : Nat → Prop, (∀ k, S k → k < w.heap.size) → RepAt S w' ⟨e, s, n, got, data, about⟩ g d a) ∧ Below w.heap.size w w' :=
  ownR w ⟨e, s, n, got, data, about⟩ hf A1 A2 A3 c1 c2 c3 hcc.1 hcc.2.1 hcc.2.2 hr1 hr2 hr3
set_option maxHeartbeats 4000000 in
set_option maxRecDepth 100000 in
theorem noteNewR (S : Nat → Prop) (w : World) (B b q : Nat) (M : List (Int × (Int × Rp))) (h : TabR S w B b q M) (c num : Int) (e s n : Int) (got : List S56) (data : List ByteArray) (about : List S76) (A1 A2 A3 : Option Addr) (c1 c2 c3 : Nat) (hf : (⟨e, s, n, got, data, about⟩ : Rp).few) (hcc : got.length ≤ c1 ∧ data.length ≤ c2 ∧ about.length ≤ c3) (hr1 : Kd.C k56 w A1 got.length got) (hr2 : Kd.C Kd.string w A2 data.length data) (hr3 : Kd.C k76 w A3 about.length about) (hS : ∀ k, S k → k < w.heap.size) (hSb : S b) (hc : 1 ≤ c ∧ c ≤ 1099511627776) (hn : 1 ≤ num ∧ num ≤ 1099511627776) (hno : ∀ x ∈ M, x.1 ≠ c) (hl : M.length < 64) (hq : q < 1000) :
    Calls Try.prog 8 #[.pointer (some ⟨B, 0, none⟩), .int .i64 c, .int .i64 num, .agg #[.int .i64 e, .int .i64 s, .int .i64 n, .slice A1 got.length c1, .slice A2 data.length c2, .slice A3 about.length c3]] w fun e' w' =>
      e' = .returned (.int .i64 0) ∧ TabR S w' B b (q + 1) (M ++ [(c, (num, ⟨e, s, n, got, data, about⟩))]) ∧ w.grownBy w' (some b) := by
  have HT := Aside0.mk h
  have HF := Aside0.mk hf
  have HCC := Aside0.mk hcc
  have HS := Aside0.mk hS
  have HSB := Aside0.mk hSb
  have HR := Aside0.mk (And.intro hr1 (And.intro hr2 hr3))
  clear hf hcc hS hSb hr1 hr2 hr3
  obtain ⟨hb, D, hown, hrel⟩ := h
  have HO := Aside0.mk hown
  have HB := Aside0.mk hb
  have HREL := Aside0.mk hrel
  have HNX := Aside0.mk hno
  have HNO := Aside0.mk (hrel.no hno)
  have HAT := Aside0.mk (show D.atKey (.int .i64 c) (.held zeroV) = .held zeroV from atKey_of_not_has (hrel.no hno) _)
  have HSZ := Aside0.mk hrel.size
  have HK := Aside0.mk (keyOf_int_mk (P := Try.prog) (k := 3) Try.underlying3 (show (Lit.int .i64 c).wf = true by simp [Lit.wf]; simp [IntKind.min, IntKind.bits]; omega))
  have HC := Aside0.mk hc
  have HN := Aside0.mk hn
  have HQ := Aside0.mk (show q < maxLen by unfold maxLen; omega)
  have hcell : w.cell? ⟨B, 0, none⟩ = some (.map (some b)) := (blk_cell hb 0).trans rfl
  have hlt := blk_lt hb
  have hne := Nat.ne_of_lt hlt
  have hne1 : B ≠ w.heap.size + 1 := by omega
  have hne2 : B ≠ w.heap.size + 1 + 1 := by omega
  have hlt1 : B < w.heap.size + 1 := by omega
  have hlt2 : B < w.heap.size + 1 + 1 := by omega
  have hc3 := fun (o1 o2 o3 : Obj) => (show (((w.alloc o1).alloc o2).alloc o3).cell? ⟨B, 0, none⟩ = some (.map (some b)) from (blk_cell (blk_alloc (blk_alloc (blk_alloc HB.out o1) o2) o3) 0).trans rfl)
  have hlen := fun (o1 o2 o3 : Obj) => (((HO.out.alloc o1).alloc o2).alloc o3).len Try.underlying46 3
  simp only [HSZ.out] at hlen
  have f1 : decide (num ≤ 0) = false := decide_eq_false (by omega)
  have f2 : ((M.length : Int) == 64) = false := beq_eq_false_iff_ne.2 (by omega)
  clear hb hown hrel hno hc hn hl hq
  go_enter Try.func8, Try.ntmps8
  go_wp2_with (first
    | (go_at_call 18; (with_reducible refine (noneC _ B b (by repeat (first | exact HB.out | refine blk_alloc ?_ _))).mono ?_); rintro e1 w1 ⟨rfl, rfl⟩)
    | (go_at_call 19; (with_reducible refine (numberC _ _ c num (by refine blk_at ?_; simp) HC.out HN.out).mono ?_); rintro e1 w1 ⟨rfl, rfl⟩)
    | (at_lookup; refine look_ok_held _ rfl _ _ 46 rfl 3 59 law3 Try.underlying46 zeroV (zero59 _) b q D rfl (by repeat (first | exact HO.out | refine World.ownsMap.alloc ?_ _)) _ (.int .i64 c) rfl HK.out zeroV HAT.out false HNO.out ?_; unfold zeroV)
    | (at_len; refine wpList_len_own _ rfl _ 46 rfl 3 59 Try.underlying46 _ b _ D rfl (by repeat (first | exact HO.out | refine World.ownsMap.alloc ?_ _)) ?_; rw [HSZ.out]))
  obtain ⟨W, hW⟩ : ∃ W, W = ((w.alloc (.cells #[.int .i64 e, .int .i64 s, .int .i64 n, .slice A1 got.length c1, .slice A2 data.length c2, .slice A3 about.length c3] 32)).alloc (.cells #[.int .i64 c, .int .i64 num] 3)).alloc (.cells #[.int .i64 0, .int .i64 0, .int .i64 0, .int .i64 0, .slice none 0 0, .slice none 0 0, .slice none 0 0] 59) := ⟨_, rfl⟩
  rw [← hW]
  have KB := Aside0.mk (show W.heap[B]? = some (.cells #[.map (some b)] 48 (0, 0)) by rw [hW]; exact blk_alloc (blk_alloc (blk_alloc HB.out _) _) _)
  have KR := Aside0.mk (show W.heap[w.heap.size]? = some (.cells #[.int .i64 e, .int .i64 s, .int .i64 n, .slice A1 got.length c1, .slice A2 data.length c2, .slice A3 about.length c3] 32 (0, 0)) by rw [hW]; exact blk_alloc (blk_alloc (heap_alloc_new w _) _) _)
  have KO := Aside0.mk (show W.ownsMap Try.prog 3 RH b q D by rw [hW]; exact ((HO.out.alloc _).alloc _).alloc _)
  have KBW := Aside0.mk (show Below w.heap.size w W by rw [hW]; exact below_alloc (below_alloc (below_alloc (Below.refl _ _) _) _) _)
  have KW := Aside0.mk (show w.grownBy W (some b) by rw [hW]; exact ((World.grownBy_alloc w _ _).trans (World.grownBy_alloc _ _ _)).trans (World.grownBy_alloc _ _ _))
  clear hW hlen hc3 hcell hlt hne hne1 hne2 hlt1 hlt2
  refine start_ (n := 10) (S := fun w' => w'.cell? ⟨B, 0, none⟩ = some (.map (some b)) ∧ w'.cell? ⟨w.heap.size, 0, none⟩ = some (.int .i64 e) ∧ w'.cell? ⟨w.heap.size, 1, none⟩ = some (.int .i64 s) ∧ w'.cell? ⟨w.heap.size, 2, none⟩ = some (.int .i64 n) ∧ w'.cell? ⟨w.heap.size, 3, none⟩ = some (.slice A1 got.length c1) ∧ w'.cell? ⟨w.heap.size, 4, none⟩ = some (.slice A2 data.length c2) ∧ w'.cell? ⟨w.heap.size, 5, none⟩ = some (.slice A3 about.length c3)) (ds := [9]) #[false, false, false, false, false, false, false, false, false, false] (by kernel_rfl) rfl rfl ⟨(blk_cell KB.out 0).trans rfl, (blk_cell KR.out 0).trans rfl, (blk_cell KR.out 1).trans rfl, (blk_cell KR.out 2).trans rfl, (blk_cell KR.out 3).trans rfl, (blk_cell KR.out 4).trans rfl, (blk_cell KR.out 5).trans rfl⟩ (fun hHeld => ?_)
  refine take_ (i := 0) (N := some 45) (v := ?_) (a' := ?_) #[true, false, false, false, false, false, false, false, false, false] rfl rfl (by kernel_rfl) (fun _ _ _ h => h) (Or.inl ⟨by rfl, ?_⟩) hHeld ?_ ?_
  rotate_left
  · rintro w' ⟨s0, s1, s2, s3, s4, s5, s6⟩
    go_simp
    with_reducible rfl
  rotate_left
  · simp only [Act.put, List.setIfInBounds_toArray, List.set_cons_zero, List.set_cons_succ, i64_w, i32_w]
    rfl
  refine take_ (i := 1) (N := some 46) (v := ?_) (a' := ?_) #[true, true, false, false, false, false, false, false, false, false] rfl rfl (by kernel_rfl) (fun _ _ _ h => h) (Or.inl ⟨by rfl, ?_⟩) hHeld ?_ ?_
  rotate_left
  · rintro w' ⟨s0, s1, s2, s3, s4, s5, s6⟩
    go_simp
    with_reducible rfl
  rotate_left
  · simp only [Act.put, List.setIfInBounds_toArray, List.set_cons_zero, List.set_cons_succ, i64_w, i32_w]
    rfl
  refine take_ (i := 2) (N := some 47) (v := ?_) (a' := ?_) #[true, true, true, false, false, false, false, false, false, false] rfl rfl (by kernel_rfl) (fun _ _ _ h => h) (Or.inl ⟨by rfl, ?_⟩) hHeld ?_ ?_
  rotate_left
  · rintro w' ⟨s0, s1, s2, s3, s4, s5, s6⟩
    go_simp
    with_reducible rfl
  rotate_left
  · simp only [Act.put, List.setIfInBounds_toArray, List.set_cons_zero, List.set_cons_succ, i64_w, i32_w]
    rfl
  refine take_ (i := 3) (N := some 48) (v := ?_) (a' := ?_) #[true, true, true, true, false, false, false, false, false, false] rfl rfl (by kernel_rfl) (fun _ _ _ h => h) (Or.inl ⟨by rfl, ?_⟩) hHeld ?_ ?_
  rotate_left
  · rintro w' ⟨s0, s1, s2, s3, s4, s5, s6⟩
    go_simp
    with_reducible rfl
  rotate_left
  · simp only [Act.put, List.setIfInBounds_toArray, List.set_cons_zero, List.set_cons_succ, i64_w, i32_w]
    rfl
  refine take_ (i := 4) (N := some 49) (v := ?_) (a' := ?_) #[true, true, true, true, true, false, false, false, false, false] rfl rfl (by kernel_rfl) (fun _ _ _ h => h) (Or.inl ⟨by rfl, ?_⟩) hHeld ?_ ?_
  rotate_left
  · rintro w' ⟨s0, s1, s2, s3, s4, s5, s6⟩
    go_simp
    with_reducible rfl
  rotate_left
  · simp only [Act.put, List.setIfInBounds_toArray, List.set_cons_zero, List.set_cons_succ, i64_w, i32_w]
    rfl
  refine take_ (i := 5) (N := some 50) (v := ?_) (a' := ?_) #[true, true, true, true, true, true, false, false, false, false] rfl rfl (by kernel_rfl) (fun _ _ _ h => h) (Or.inl ⟨by rfl, ?_⟩) hHeld ?_ ?_
  rotate_left
  · rintro w' ⟨s0, s1, s2, s3, s4, s5, s6⟩
    go_simp
    with_reducible rfl
  rotate_left
  · simp only [Act.put, List.setIfInBounds_toArray, List.set_cons_zero, List.set_cons_succ, i64_w, i32_w]
    rfl
  refine take_ (i := 6) (N := some 51) (v := ?_) (a' := ?_) #[true, true, true, true, true, true, true, false, false, false] rfl rfl (by kernel_rfl) (fun _ _ _ h => h) (Or.inl ⟨by rfl, ?_⟩) hHeld ?_ ?_
  rotate_left
  · rintro w' ⟨s0, s1, s2, s3, s4, s5, s6⟩
    go_simp
    with_reducible rfl
  rotate_left
  · simp only [Act.put, List.setIfInBounds_toArray, List.set_cons_zero, List.set_cons_succ, i64_w, i32_w]
    rfl
  refine one_ (i := 7) (N := some 52) #[true, true, true, true, true, true, true, true, false, false] rfl rfl (by kernel_rfl) (by decide) (fun K hK => ?_)
  refine goes_ Try.func20 (by kernel_rfl) rfl #[.agg #[.int .i64 e, .int .i64 s, .int .i64 n, .slice A1 got.length c1, .slice A2 data.length c2, .slice A3 about.length c3]] (by rfl) rfl rfl (by (try simp only [List.map_toArray, List.map_cons, List.map_nil]); first | done | rfl) ?_
  have KRX := And.intro (Kd.C_below HR.out.1 KBW.out) (And.intro (Kd.C_below HR.out.2.1 KBW.out) (Kd.C_below HR.out.2.2 KBW.out))
  with_reducible refine (ownR2 _ e s n got data about HF.out A1 A2 A3 c1 c2 c3 HCC.out (by (repeat (first | exact KRX.1 | apply Kd.C_drew | apply Kd.C_drewN))) (by (repeat (first | exact KRX.2.1 | apply Kd.C_drew | apply Kd.C_drewN))) (by (repeat (first | exact KRX.2.2 | apply Kd.C_drew | apply Kd.C_drewN)))).mono ?_
  rintro e1 w5 ⟨g5, d5, a5, rfl, hrep5, hb5_⟩
  have HP := Aside0.mk (hrep5 S (fun k hk => Nat.lt_of_lt_of_le (HS.out k hk) KBW.out.size))
  obtain ⟨⟨A4, c4, rfl, _, _⟩, ⟨A5, c5, rfl, _, _⟩, ⟨A6, c6, rfl, _, _⟩⟩ := HP.out
  clear hrep5
  have hb5 : Below W.heap.size W w5 := ⟨hb5_.os, hb5_.tape, hb5_.output, hb5_.size, hb5_.block⟩
  clear hb5_
  refine ⟨_, rfl, ?_⟩
  have KB5 := Aside0.mk (blk_below KB.out hb5)
  have KR5 := Aside0.mk (blk_below KR.out hb5)
  have KO5 := Aside0.mk (owns_below KO.out hb5)
  have HB5 := Aside0.mk hb5
  refine hK.out _ _ ⟨(blk_cell KB5.out 0).trans rfl, (blk_cell KR5.out 0).trans rfl, (blk_cell KR5.out 1).trans rfl, (blk_cell KR5.out 2).trans rfl, (blk_cell KR5.out 3).trans rfl, (blk_cell KR5.out 4).trans rfl, (blk_cell KR5.out 5).trans rfl⟩ ?_
  intro hHeld
  clear hK K hb5
  refine norm_ (a' := ?_) ?_ ?_
  rotate_left
  · show Act.put _ (some 52) _ = _
    simp only [Act.put, List.setIfInBounds_toArray, List.set_cons_zero, List.set_cons_succ, i64_w, i32_w]
    rfl
  refine take_ (i := 8) (N := some 53) (v := ?_) (a' := ?_) #[true, true, true, true, true, true, true, true, true, false] rfl rfl (by kernel_rfl) (fun _ _ _ h => h) (Or.inl ⟨by rfl, ?_⟩) hHeld ?_ ?_
  rotate_left
  · rintro w' ⟨s0, s1, s2, s3, s4, s5, s6⟩
    go_simp
    with_reducible rfl
  rotate_left
  · simp only [Act.put, List.setIfInBounds_toArray, List.set_cons_zero, List.set_cons_succ, i64_w, i32_w]
    rfl
  refine last_ (i := 9) (N := none) #[true, true, true, true, true, true, true, true, true, true] rfl rfl (by kernel_rfl) (by decide) (fun K hK => ?_)
  obtain ⟨w6, hrun, hown6, hgrow6⟩ := KO5.out.update law3 Try.underlying46 HQ.out HK.out (show RH (lasV num ⟨e, s, n, got, data, about⟩ (.slice A4 got.length c4) (.slice A5 data.length c5) (.slice A6 about.length c6)) = some (.held (lasV num ⟨e, s, n, got, data, about⟩ (.slice A4 got.length c4) (.slice A5 data.length c5) (.slice A6 about.length c6)), []) from rfl)
  refine skip_ (w1 := w6) (by rfl) rfl ?_ ?_
  · unfold lasV at hrun
    simp only [execOp, Act.eval, Act.put, List.setIfInBounds_toArray, List.set_cons_zero, List.set_cons_succ]
    go_simp
  · refine hK.out _ _ ?_
    refine done_ (by kernel_rfl) ?_
    go_wp2
    go_ret
    have hlt5 := KB5.out
    have hT := HT.out.lt
    have hg : w.grownBy w6 (some b) := (KW.out.trans (show W.grownBy w5 (some b) from ⟨HB5.out.os, HB5.out.tape, HB5.out.output, HB5.out.size, fun k hk _ => HB5.out.block k hk⟩)).trans hgrow6
    have hk6 : Kept w w6 S := Kept.of_grown hg (Kept.refl w S) (fun k hk => Or.inl (by cases hk; exact HSB.out))
    have hk56 : Kept w5 w6 S := Kept.of_grown hgrow6 (Kept.refl w5 S) (fun k hk => Or.inl (by cases hk; exact HSB.out))
    have hP6 : LasP S w6 (num, ⟨e, s, n, got, data, about⟩) (lasV num ⟨e, s, n, got, data, about⟩ (.slice A4 got.length c4) (.slice A5 data.length c5) (.slice A6 about.length c6)) := ⟨_, _, _, rfl, HP.out.kept hk56, HF.out⟩
    refine ⟨rfl, ⟨?_, _, hown6, (HREL.out.imp (LasP.kept hk6)).new (HO.out.tidy law3) HNX.out _ _ hP6⟩, hg⟩
    exact (hg.block B hT.1 (fun e => hT.2.2 (Option.some.inj e))).trans HB.out
set_option maxHeartbeats 4000000 in
set_option maxRecDepth 100000 in
theorem noteMoreR (S : Nat → Prop) (w : World) (B b q : Nat) (M : List (Int × (Int × Rp))) (h : TabR S w B b q M) (c num : Int) (e s n : Int) (got : List S56) (data : List ByteArray) (about : List S76) (A1 A2 A3 : Option Addr) (c1 c2 c3 : Nat) (hf : (⟨e, s, n, got, data, about⟩ : Rp).few) (hcc : got.length ≤ c1 ∧ data.length ≤ c2 ∧ about.length ≤ c3) (hr1 : Kd.C k56 w A1 got.length got) (hr2 : Kd.C Kd.string w A2 data.length data) (hr3 : Kd.C k76 w A3 about.length about) (hS : ∀ k, S k → k < w.heap.size) (hSb : S b) (hc : 1 ≤ c ∧ c ≤ 1099511627776) (hn : 1 ≤ num ∧ num ≤ 1099511627776) (y : Int × Rp) (hin : (c, y) ∈ M) (hy : y.1 < num) (hq : q < 1000) :
    Calls Try.prog 8 #[.pointer (some ⟨B, 0, none⟩), .int .i64 c, .int .i64 num, .agg #[.int .i64 e, .int .i64 s, .int .i64 n, .slice A1 got.length c1, .slice A2 data.length c2, .slice A3 about.length c3]] w fun e' w' => e' = .returned (.int .i64 0) ∧ TabR S w' B b (q + 1) (setG c (num, ⟨e, s, n, got, data, about⟩) M) ∧ w.grownBy w' (some b) := by
  have HT := Aside0.mk h
  have HF := Aside0.mk hf
  have HCC := Aside0.mk hcc
  have HS := Aside0.mk hS
  have HSB := Aside0.mk hSb
  have HR := Aside0.mk (And.intro hr1 (And.intro hr2 hr3))
  clear hf hcc hS hSb hr1 hr2 hr3
  obtain ⟨hb, D, hown, hrel⟩ := h
  have HO := Aside0.mk hown
  have HB := Aside0.mk hb
  have HREL := Aside0.mk hrel
  have HIN := Aside0.mk hin
  have HK := Aside0.mk (keyOf_int_mk (P := Try.prog) (k := 3) Try.underlying3 (show (Lit.int .i64 c).wf = true by simp [Lit.wf]; simp [IntKind.min, IntKind.bits]; omega))
  have HC := Aside0.mk hc
  have HN := Aside0.mk hn
  have hcell : w.cell? ⟨B, 0, none⟩ = some (.map (some b)) := (blk_cell hb 0).trans rfl
  have hlt := blk_lt hb
  have hne := Nat.ne_of_lt hlt
  have hne1 : B ≠ w.heap.size + 1 := by omega
  have hne2 : B ≠ w.heap.size + 1 + 1 := by omega
  have hlt1 : B < w.heap.size + 1 := by omega
  have hlt2 : B < w.heap.size + 1 + 1 := by omega
  have HHAS := Aside0.mk (show Maps.has D (.int .i64 c) = true from (hrel.keys c).2 ⟨_, hin, rfl⟩)
  obtain ⟨vy, hvy, gy0, dy0, ay0, rfl, ⟨⟨gA, gc, rfl, _, _⟩, ⟨dA, dc, rfl, _, _⟩, ⟨aA, ac, rfl, _, _⟩⟩, hyf⟩ := hrel.vals _ hin
  unfold lasV at hvy
  have HAT := Aside0.mk hvy
  clear hvy hyf
  have HQ := Aside0.mk (show q < maxLen by unfold maxLen; omega)
  have f1 : decide (num ≤ y.1) = false := decide_eq_false (by omega)
  clear hb hown hrel hin hc hn hy hq
  go_enter Try.func8, Try.ntmps8
  go_wp2_with (first
    | (go_at_call 18; (with_reducible refine (noneC _ B b (by repeat (first | exact HB.out | refine blk_alloc ?_ _))).mono ?_); rintro e1 w1 ⟨rfl, rfl⟩)
    | (go_at_call 19; (with_reducible refine (numberC _ _ c num (by refine blk_at ?_; simp) HC.out HN.out).mono ?_); rintro e1 w1 ⟨rfl, rfl⟩)
    | (at_lookup; refine look_ok_held _ rfl _ _ 46 rfl 3 59 law3 Try.underlying46 zeroV (zero59 _) b q D rfl (by repeat (first | exact HO.out | refine World.ownsMap.alloc ?_ _)) _ (.int .i64 c) rfl HK.out (.agg #[.int .i64 y.1, .int .i64 y.2.e, .int .i64 y.2.s, .int .i64 y.2.n, .slice gA y.2.got.length gc, .slice dA y.2.data.length dc, .slice aA y.2.about.length ac]) HAT.out true HHAS.out ?_))
  obtain ⟨W, hW⟩ : ∃ W, W = ((w.alloc (.cells #[.int .i64 e, .int .i64 s, .int .i64 n, .slice A1 got.length c1, .slice A2 data.length c2, .slice A3 about.length c3] 32)).alloc (.cells #[.int .i64 c, .int .i64 num] 3)).alloc (.cells #[.int .i64 y.1, .int .i64 y.2.e, .int .i64 y.2.s, .int .i64 y.2.n, .slice gA y.2.got.length gc, .slice dA y.2.data.length dc, .slice aA y.2.about.length ac] 59) := ⟨_, rfl⟩
  rw [← hW]
  have KB := Aside0.mk (show W.heap[B]? = some (.cells #[.map (some b)] 48 (0, 0)) by rw [hW]; exact blk_alloc (blk_alloc (blk_alloc HB.out _) _) _)
  have KR := Aside0.mk (show W.heap[w.heap.size]? = some (.cells #[.int .i64 e, .int .i64 s, .int .i64 n, .slice A1 got.length c1, .slice A2 data.length c2, .slice A3 about.length c3] 32 (0, 0)) by rw [hW]; exact blk_alloc (blk_alloc (heap_alloc_new w _) _) _)
  have KO := Aside0.mk (show W.ownsMap Try.prog 3 RH b q D by rw [hW]; exact ((HO.out.alloc _).alloc _).alloc _)
  have KBW := Aside0.mk (show Below w.heap.size w W by rw [hW]; exact below_alloc (below_alloc (below_alloc (Below.refl _ _) _) _) _)
  have KW := Aside0.mk (show w.grownBy W (some b) by rw [hW]; exact ((World.grownBy_alloc w _ _).trans (World.grownBy_alloc _ _ _)).trans (World.grownBy_alloc _ _ _))
  clear hW hcell hlt hne hne1 hne2 hlt1 hlt2
  refine start_ (n := 10) (S := fun w' => w'.cell? ⟨B, 0, none⟩ = some (.map (some b)) ∧ w'.cell? ⟨w.heap.size, 0, none⟩ = some (.int .i64 e) ∧ w'.cell? ⟨w.heap.size, 1, none⟩ = some (.int .i64 s) ∧ w'.cell? ⟨w.heap.size, 2, none⟩ = some (.int .i64 n) ∧ w'.cell? ⟨w.heap.size, 3, none⟩ = some (.slice A1 got.length c1) ∧ w'.cell? ⟨w.heap.size, 4, none⟩ = some (.slice A2 data.length c2) ∧ w'.cell? ⟨w.heap.size, 5, none⟩ = some (.slice A3 about.length c3)) (ds := [9]) #[false, false, false, false, false, false, false, false, false, false] (by kernel_rfl) rfl rfl ⟨(blk_cell KB.out 0).trans rfl, (blk_cell KR.out 0).trans rfl, (blk_cell KR.out 1).trans rfl, (blk_cell KR.out 2).trans rfl, (blk_cell KR.out 3).trans rfl, (blk_cell KR.out 4).trans rfl, (blk_cell KR.out 5).trans rfl⟩ (fun hHeld => ?_)
  refine take_ (i := 0) (N := some 45) (v := ?_) (a' := ?_) #[true, false, false, false, false, false, false, false, false, false] rfl rfl (by kernel_rfl) (fun _ _ _ h => h) (Or.inl ⟨by rfl, ?_⟩) hHeld ?_ ?_
  rotate_left
  · rintro w' ⟨s0, s1, s2, s3, s4, s5, s6⟩
    go_simp
    with_reducible rfl
  rotate_left
  · simp only [Act.put, List.setIfInBounds_toArray, List.set_cons_zero, List.set_cons_succ, i64_w, i32_w]
    rfl
  refine take_ (i := 1) (N := some 46) (v := ?_) (a' := ?_) #[true, true, false, false, false, false, false, false, false, false] rfl rfl (by kernel_rfl) (fun _ _ _ h => h) (Or.inl ⟨by rfl, ?_⟩) hHeld ?_ ?_
  rotate_left
  · rintro w' ⟨s0, s1, s2, s3, s4, s5, s6⟩
    go_simp
    with_reducible rfl
  rotate_left
  · simp only [Act.put, List.setIfInBounds_toArray, List.set_cons_zero, List.set_cons_succ, i64_w, i32_w]
    rfl
  refine take_ (i := 2) (N := some 47) (v := ?_) (a' := ?_) #[true, true, true, false, false, false, false, false, false, false] rfl rfl (by kernel_rfl) (fun _ _ _ h => h) (Or.inl ⟨by rfl, ?_⟩) hHeld ?_ ?_
  rotate_left
  · rintro w' ⟨s0, s1, s2, s3, s4, s5, s6⟩
    go_simp
    with_reducible rfl
  rotate_left
  · simp only [Act.put, List.setIfInBounds_toArray, List.set_cons_zero, List.set_cons_succ, i64_w, i32_w]
    rfl
  refine take_ (i := 3) (N := some 48) (v := ?_) (a' := ?_) #[true, true, true, true, false, false, false, false, false, false] rfl rfl (by kernel_rfl) (fun _ _ _ h => h) (Or.inl ⟨by rfl, ?_⟩) hHeld ?_ ?_
  rotate_left
  · rintro w' ⟨s0, s1, s2, s3, s4, s5, s6⟩
    go_simp
    with_reducible rfl
  rotate_left
  · simp only [Act.put, List.setIfInBounds_toArray, List.set_cons_zero, List.set_cons_succ, i64_w, i32_w]
    rfl
  refine take_ (i := 4) (N := some 49) (v := ?_) (a' := ?_) #[true, true, true, true, true, false, false, false, false, false] rfl rfl (by kernel_rfl) (fun _ _ _ h => h) (Or.inl ⟨by rfl, ?_⟩) hHeld ?_ ?_
  rotate_left
  · rintro w' ⟨s0, s1, s2, s3, s4, s5, s6⟩
    go_simp
    with_reducible rfl
  rotate_left
  · simp only [Act.put, List.setIfInBounds_toArray, List.set_cons_zero, List.set_cons_succ, i64_w, i32_w]
    rfl
  refine take_ (i := 5) (N := some 50) (v := ?_) (a' := ?_) #[true, true, true, true, true, true, false, false, false, false] rfl rfl (by kernel_rfl) (fun _ _ _ h => h) (Or.inl ⟨by rfl, ?_⟩) hHeld ?_ ?_
  rotate_left
  · rintro w' ⟨s0, s1, s2, s3, s4, s5, s6⟩
    go_simp
    with_reducible rfl
  rotate_left
  · simp only [Act.put, List.setIfInBounds_toArray, List.set_cons_zero, List.set_cons_succ, i64_w, i32_w]
    rfl
  refine take_ (i := 6) (N := some 51) (v := ?_) (a' := ?_) #[true, true, true, true, true, true, true, false, false, false] rfl rfl (by kernel_rfl) (fun _ _ _ h => h) (Or.inl ⟨by rfl, ?_⟩) hHeld ?_ ?_
  rotate_left
  · rintro w' ⟨s0, s1, s2, s3, s4, s5, s6⟩
    go_simp
    with_reducible rfl
  rotate_left
  · simp only [Act.put, List.setIfInBounds_toArray, List.set_cons_zero, List.set_cons_succ, i64_w, i32_w]
    rfl
  refine one_ (i := 7) (N := some 52) #[true, true, true, true, true, true, true, true, false, false] rfl rfl (by kernel_rfl) (by decide) (fun K hK => ?_)
  refine goes_ Try.func20 (by kernel_rfl) rfl #[.agg #[.int .i64 e, .int .i64 s, .int .i64 n, .slice A1 got.length c1, .slice A2 data.length c2, .slice A3 about.length c3]] (by rfl) rfl rfl (by (try simp only [List.map_toArray, List.map_cons, List.map_nil]); first | done | rfl) ?_
  have KRX := And.intro (Kd.C_below HR.out.1 KBW.out) (And.intro (Kd.C_below HR.out.2.1 KBW.out) (Kd.C_below HR.out.2.2 KBW.out))
  with_reducible refine (ownR2 _ e s n got data about HF.out A1 A2 A3 c1 c2 c3 HCC.out (by (repeat (first | exact KRX.1 | apply Kd.C_drew | apply Kd.C_drewN))) (by (repeat (first | exact KRX.2.1 | apply Kd.C_drew | apply Kd.C_drewN))) (by (repeat (first | exact KRX.2.2 | apply Kd.C_drew | apply Kd.C_drewN)))).mono ?_
  rintro e1 w5 ⟨g5, d5, a5, rfl, hrep5, hb5_⟩
  have HP := Aside0.mk (hrep5 S (fun k hk => Nat.lt_of_lt_of_le (HS.out k hk) KBW.out.size))
  obtain ⟨⟨A4, c4, rfl, _, _⟩, ⟨A5, c5, rfl, _, _⟩, ⟨A6, c6, rfl, _, _⟩⟩ := HP.out
  clear hrep5
  have hb5 : Below W.heap.size W w5 := ⟨hb5_.os, hb5_.tape, hb5_.output, hb5_.size, hb5_.block⟩
  clear hb5_
  refine ⟨_, rfl, ?_⟩
  have KB5 := Aside0.mk (blk_below KB.out hb5)
  have KR5 := Aside0.mk (blk_below KR.out hb5)
  have KO5 := Aside0.mk (owns_below KO.out hb5)
  have HB5 := Aside0.mk hb5
  refine hK.out _ _ ⟨(blk_cell KB5.out 0).trans rfl, (blk_cell KR5.out 0).trans rfl, (blk_cell KR5.out 1).trans rfl, (blk_cell KR5.out 2).trans rfl, (blk_cell KR5.out 3).trans rfl, (blk_cell KR5.out 4).trans rfl, (blk_cell KR5.out 5).trans rfl⟩ ?_
  intro hHeld
  clear hK K hb5
  refine norm_ (a' := ?_) ?_ ?_
  rotate_left
  · show Act.put _ (some 52) _ = _
    simp only [Act.put, List.setIfInBounds_toArray, List.set_cons_zero, List.set_cons_succ, i64_w, i32_w]
    rfl
  refine take_ (i := 8) (N := some 53) (v := ?_) (a' := ?_) #[true, true, true, true, true, true, true, true, true, false] rfl rfl (by kernel_rfl) (fun _ _ _ h => h) (Or.inl ⟨by rfl, ?_⟩) hHeld ?_ ?_
  rotate_left
  · rintro w' ⟨s0, s1, s2, s3, s4, s5, s6⟩
    go_simp
    with_reducible rfl
  rotate_left
  · simp only [Act.put, List.setIfInBounds_toArray, List.set_cons_zero, List.set_cons_succ, i64_w, i32_w]
    rfl
  refine last_ (i := 9) (N := none) #[true, true, true, true, true, true, true, true, true, true] rfl rfl (by kernel_rfl) (by decide) (fun K hK => ?_)
  obtain ⟨w6, hrun, hown6, hgrow6⟩ := KO5.out.update law3 Try.underlying46 HQ.out HK.out (show RH (lasV num ⟨e, s, n, got, data, about⟩ (.slice A4 got.length c4) (.slice A5 data.length c5) (.slice A6 about.length c6)) = some (.held (lasV num ⟨e, s, n, got, data, about⟩ (.slice A4 got.length c4) (.slice A5 data.length c5) (.slice A6 about.length c6)), []) from rfl)
  refine skip_ (w1 := w6) (by rfl) rfl ?_ ?_
  · unfold lasV at hrun
    simp only [execOp, Act.eval, Act.put, List.setIfInBounds_toArray, List.set_cons_zero, List.set_cons_succ]
    go_simp
  · refine hK.out _ _ ?_
    refine done_ (by kernel_rfl) ?_
    go_wp2
    go_ret
    have hT := HT.out.lt
    have hg : w.grownBy w6 (some b) := (KW.out.trans (show W.grownBy w5 (some b) from ⟨HB5.out.os, HB5.out.tape, HB5.out.output, HB5.out.size, fun k hk _ => HB5.out.block k hk⟩)).trans hgrow6
    have hk6 : Kept w w6 S := Kept.of_grown hg (Kept.refl w S) (fun k hk => Or.inl (by cases hk; exact HSB.out))
    have hk56 : Kept w5 w6 S := Kept.of_grown hgrow6 (Kept.refl w5 S) (fun k hk => Or.inl (by cases hk; exact HSB.out))
    have hP6 : LasP S w6 (num, ⟨e, s, n, got, data, about⟩) (lasV num ⟨e, s, n, got, data, about⟩ (.slice A4 got.length c4) (.slice A5 data.length c5) (.slice A6 about.length c6)) := ⟨_, _, _, rfl, HP.out.kept hk56, HF.out⟩
    refine ⟨rfl, ⟨?_, _, hown6, (HREL.out.imp (LasP.kept hk6)).old (HO.out.tidy law3) HIN.out _ _ hP6⟩, hg⟩
    exact (hg.block B hT.1 (fun e => hT.2.2 (Option.some.inj e))).trans HB.out

end Go.Proofs.Ythelhieeplfffaa.P
