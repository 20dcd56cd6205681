/- The reference's asker, by hand. No conditions. -/
import Derived.Test.YtonedijkgddepaaSq
import Derived.Test.YtonedijkgddepaaSepI
import Derived.Test.YtonedijkgddepaaGL
namespace Go.Proofs.Ytonedijkgddepaa.P
open Go.Sq
open Go.RowKit Go.Maps Go.Proofs.YtonedijkgddepaaW.PrintWords Go.Proofs.YtonedijkgddepaaW.PrintLast Go.Proofs.YtonedijkgddepaaW.PrintMore
set_option linter.unusedVariables false
set_option linter.unusedSimpArgs false

theorem lead_fit {s : As} {g : Int} (h : 0 ≤ g ∧ g ≤ 6) : g.toNat + ([.int .i64 0] : List Value).length ≤ (leadA s).size := by
 have : (leadA s).size = 7 := rfl
 rw [this, List.length_singleton]
 omega
def RTickP (w0 : World) (L : List Thing) (BR BL : Nat) (x : As × List S47) (e' : Ending) (w' : World) : Prop := ∃ A n, e' = .returned (.slice A x.2.length n) ∧ St w0 w' (refT BR BL x.1 ++ Row k47 47 (.slice A x.2.length n) x.2 :: L)
set_option maxHeartbeats 4000000 in
set_option maxRecDepth 100000 in
theorem refNext (w0 w : World) (L : List Thing) (BR BL q : Nat) (s : As) (h : St w0 w (refT BR BL s ++ L)) (hk : s.ok q) :
  Calls Try.prog 46 #[.pointer (some ⟨BR, 0, none⟩)] w fun e' w' => e' = .returned (.tuple #[]) ∧ St w0 w' (refT BR BL (nextV s) ++ L) := by
 have H := Aside0.mk h
 have HK := Aside0.mk hk
 have hlb := lead_bound hk
 have hw1 : wrap64 (getG 0 s.group s.lead + 1) = getG 0 s.group s.lead + 1 := by unfold wrap64; omega
 have hz : (s.nodes == 0) = false := beq_eq_false_iff_ne.2 (by have := hk.nodes1; omega)
 have hz2 : s.nodes ≠ 0 := by have := hk.nodes1; omega
 clear hlb
 clear h hk
 refine calls_hide fun R HPOST => ?_
 go_enter Try.func46, Try.ntmps46
 go_upto_region 0 with (fail)
 have S2 := Aside0.mk H.out.drew
 refine start_ (n := 26) (S := fun w' => St w0 w' (Blk BR (refA s BL) 87 :: Blk BL (leadA s) 3 :: L)) (ds := [25]) (bits 26 0) (by kernel_rfl) rfl rfl (H.out).drew (fun hHeld => ?_)
 generalize w.drew = w1 at S2 hHeld ⊢
 refine pu 0 2 (bits 26 1) ?_ rfl rfl (by kernel_rfl) (fun _ _ _ h => h) (by rfl) ?_ ?_ ?_ ?_
 rotate_left
 ·intro w'; go_simp; with_reducible rfl
 rotate_left
 ·simp only [Act.put, sqA, sqB, sqC, i64_w, i32_w]; rfl
 refine pu 1 3 (bits 26 3) ?_ rfl rfl (by kernel_rfl) (fun _ _ _ h => h) (by rfl) ?_ ?_ ?_ ?_
 rotate_left
 ·intro w'; go_simp; with_reducible rfl
 rotate_left
 ·simp only [Act.put, sqA, sqB, sqC, i64_w, i32_w]; rfl
 refine pu 2 4 (bits 26 7) ?_ rfl rfl (by kernel_rfl) (fun _ _ _ h => h) (by rfl) ?_ ?_ ?_ ?_
 rotate_left
 ·intro w'; go_simp; with_reducible rfl
 rotate_left
 ·simp only [Act.put, sqA, sqB, sqC, i64_w, i32_w]; rfl
 refine pu 4 6 (bits 26 23) ?_ rfl rfl (by kernel_rfl) (fun _ _ _ h => h) (by rfl) ?_ ?_ ?_ ?_
 rotate_left
 ·intro w'; go_simp; with_reducible rfl
 rotate_left
 ·simp only [Act.put, sqA, sqB, sqC, i64_w, i32_w]; rfl
 refine pu 5 7 (bits 26 55) ?_ rfl rfl (by kernel_rfl) (fun _ _ _ h => h) (by rfl) ?_ ?_ ?_ ?_
 rotate_left
 ·intro w'; go_simp; with_reducible rfl
 rotate_left
 ·simp only [Act.put, sqA, sqB, sqC, i64_w, i32_w]; rfl
 refine pu 6 8 (bits 26 119) ?_ rfl rfl (by kernel_rfl) (fun _ _ _ h => h) (by rfl) ?_ ?_ ?_ ?_
 rotate_left
 ·intro w'; go_simp; with_reducible rfl
 rotate_left
 ·simp only [Act.put, sqA, sqB, sqC, i64_w, i32_w]; rfl
 refine pu 8 10 (bits 26 375) ?_ rfl rfl (by kernel_rfl) (fun _ _ _ h => h) (by rfl) ?_ ?_ ?_ ?_
 rotate_left
 ·intro w'; go_simp; with_reducible rfl
 rotate_left
 ·simp only [Act.put, sqA, sqB, sqC, i64_w, i32_w]; rfl
 refine pu 9 11 (bits 26 887) ?_ rfl rfl (by kernel_rfl) (fun _ _ _ h => h) (by rfl) ?_ ?_ ?_ ?_
 rotate_left
 ·intro w'; go_simp; with_reducible rfl
 rotate_left
 ·simp only [Act.put, sqA, sqB, sqC, i64_w, i32_w]; rfl
 refine pu 10 12 (bits 26 1911) ?_ rfl rfl (by kernel_rfl) (fun _ _ _ h => h) (by rfl) ?_ ?_ ?_ ?_
 rotate_left
 ·intro w'; go_simp; with_reducible rfl
 rotate_left
 ·simp only [Act.put, sqA, sqB, sqC, i64_w, i32_w]; rfl
 refine pu 12 14 (bits 26 6007) ?_ rfl rfl (by kernel_rfl) (fun _ _ _ h => h) (by rfl) ?_ ?_ ?_ ?_
 rotate_left
 ·intro w'; go_simp; with_reducible rfl
 rotate_left
 ·simp only [Act.put, sqA, sqB, sqC, i64_w, i32_w]; rfl
 refine pu 13 15 (bits 26 14199) ?_ rfl rfl (by kernel_rfl) (fun _ _ _ h => h) (by rfl) ?_ ?_ ?_ ?_
 rotate_left
 ·intro w'; go_simp; with_reducible rfl
 rotate_left
 ·simp only [Act.put, sqA, sqB, sqC, i64_w, i32_w]; rfl
 refine pu 14 16 (bits 26 30583) ?_ rfl rfl (by kernel_rfl) (fun _ _ _ h => h) (by rfl) ?_ ?_ ?_ ?_
 rotate_left
 ·intro w'; go_simp; with_reducible rfl
 rotate_left
 ·simp only [Act.put, sqA, sqB, sqC, i64_w, i32_w]; rfl
 refine pu 19 21 (bits 26 554871) ?_ rfl rfl (by kernel_rfl) (fun _ _ _ h => h) (by rfl) ?_ ?_ ?_ ?_
 rotate_left
 ·intro w'; go_simp; with_reducible rfl
 rotate_left
 ·simp only [Act.put, sqA, sqB, sqC, i64_w, i32_w]; rfl
 refine pu 20 22 (bits 26 1603447) ?_ rfl rfl (by kernel_rfl) (fun _ _ _ h => h) (by rfl) ?_ ?_ ?_ ?_
 rotate_left
 ·intro w'; go_simp; with_reducible rfl
 rotate_left
 ·simp only [Act.put, sqA, sqB, sqC, i64_w, i32_w]; rfl
 refine pu 21 23 (bits 26 3700599) ?_ rfl rfl (by kernel_rfl) (fun _ _ _ h => h) (by rfl) ?_ ?_ ?_ ?_
 rotate_left
 ·intro w'; go_simp; with_reducible rfl
 rotate_left
 ·simp only [Act.put, sqA, sqB, sqC, i64_w, i32_w]; rfl
 refine tk 3 5 (bits 26 3700607) ?_ rfl rfl (by kernel_rfl) (fun _ _ _ h => h) (by rfl) ?_ hHeld ?_ ?_ ?_
 rotate_left
 ·intro w' hw'; have s0 : w'.cell? ⟨BR, 27, none⟩ = some (.slice (some ⟨BL, 0, none⟩) 7 7) := hw'.cell 0 27 rfl rfl; go_simp; with_reducible rfl
 rotate_left
 ·simp only [Act.put, sqA, sqB, sqC, i64_w, i32_w]; rfl
 refine tk 7 9 (bits 26 3700735) ?_ rfl rfl (by kernel_rfl) (fun _ _ _ h => h) (by rfl) ?_ hHeld ?_ ?_ ?_
 rotate_left
 ·intro w' hw'; have s0 : w'.cell? ⟨BR, 4, none⟩ = some (.int .i64 s.group) := hw'.cell 0 4 rfl rfl; go_simp; with_reducible rfl
 rotate_left
 ·simp only [Act.put, sqA, sqB, sqC, i64_w, i32_w]; rfl
 refine tk 11 13 (bits 26 3702783) ?_ rfl rfl (by kernel_rfl) (fun _ _ _ h => h) (by rfl) ?_ hHeld ?_ ?_ ?_
 rotate_left
 ·intro w' hw'; have s0 : w'.cell? ⟨BR, 27, none⟩ = some (.slice (some ⟨BL, 0, none⟩) 7 7) := hw'.cell 0 27 rfl rfl; go_simp; with_reducible rfl
 rotate_left
 ·simp only [Act.put, sqA, sqB, sqC, i64_w, i32_w]; rfl
 refine tk 15 17 (bits 26 3735551) ?_ rfl rfl (by kernel_rfl) (fun _ _ _ h => h) (by rfl) ?_ hHeld ?_ ?_ ?_
 rotate_left
 ·intro w' hw'; have s0 : w'.cell? ⟨BR, 4, none⟩ = some (.int .i64 s.group) := hw'.cell 0 4 rfl rfl; go_simp; with_reducible rfl
 rotate_left
 ·simp only [Act.put, sqA, sqB, sqC, i64_w, i32_w]; rfl
 refine pure_ (i := 16) (N := some 18) (a' := ?_) (bits 26 3801087) rfl rfl (by kernel_rfl) (fun _ _ _ h => h) (yields_index (by rfl) 63 _ _ rfl rfl rfl HK.out.group1.1 (by have := HK.out.group1.2; omega) Try.underlying63 (sz := 1) (by kernel_rfl) (o' := s.group.toNat) (by simp)) ?_ ?_
 rotate_left
 ·simp only [Act.put, sqA, sqB, sqC, i64_w, i32_w]; rfl
 refine tk 17 19 (bits 26 3932159) ?_ rfl rfl (by kernel_rfl) (fun _ _ _ h => h) (by rfl) ?_ hHeld ?_ ?_ ?_
 rotate_left
 ·intro w' hw'; have s0 : w'.cell? ⟨BL, s.group.toNat, none⟩ = some (.int .i64 (getG 0 s.group s.lead)) := lead_cell hw' 1 rfl HK.out.group1; go_simp; with_reducible rfl
 rotate_left
 ·simp only [Act.put, sqA, sqB, sqC, i64_w, i32_w]; rfl
 refine pu 18 20 (bits 26 4194303) ?_ rfl rfl (by kernel_rfl) (fun _ _ _ h => h) (by rfl) ?_ ?_ ?_ ?_
 rotate_left
 ·intro w'; go_simp; with_reducible rfl
 rotate_left
 ·simp only [Act.put, sqA, sqB, sqC, i64_w, i32_w]; rfl
 refine tk 22 24 (bits 26 8388607) ?_ rfl rfl (by kernel_rfl) (fun _ _ _ h => h) (by rfl) ?_ hHeld ?_ ?_ ?_
 rotate_left
 ·intro w' hw'; have s0 : w'.cell? ⟨BR, 1, none⟩ = some (.int .i64 s.nodes) := hw'.cell 0 1 rfl rfl; go_simp; with_reducible rfl
 rotate_left
 ·simp only [Act.put, sqA, sqB, sqC, i64_w, i32_w]; rfl
 refine pu 23 25 (bits 26 16777215) ?_ rfl rfl (by kernel_rfl) (fun _ _ _ h => h) (by rfl) ?_ ?_ ?_ ?_
 rotate_left
 ·intro w'; go_simp; with_reducible rfl
 rotate_left
 ·simp only [Act.put, sqA, sqB, sqC, i64_w, i32_w]; rfl
 refine pure_ (i := 24) (N := some 26) (a' := ?_) (bits 26 33554431) rfl rfl (by kernel_rfl) (fun _ _ _ h => h) (yields_index (by rfl) 63 _ _ rfl rfl rfl HK.out.group1.1 (by have := HK.out.group1.2; omega) Try.underlying63 (sz := 1) (by kernel_rfl) (o' := s.group.toNat) (by simp)) ?_ ?_
 rotate_left
 ·simp only [Act.put, sqA, sqB, sqC, i64_w, i32_w]; rfl
 refine last_ (i := 25) (N := none) (bits 26 67108863) rfl rfl (by kernel_rfl) (by decide) (fun K hK => ?_)
 refine st_store_step (by rfl) rfl 3 _ _ rfl rfl rfl (seg := [(.int .i64 (((getG 0 s.group s.lead) + 1).tmod s.nodes))]) rfl (by kernel_rfl) (by rfl) S2.out 1 rfl (lead_fit HK.out.group1) ?_
 intro w3 h_ hu_
 have S4 : Aside0 (St w0 w3 (Blk BR (refA { s with lead := putM s.group (((getG 0 s.group s.lead) + 1).tmod s.nodes) s.lead } BL) 87 :: Blk BL (leadA { s with lead := putM s.group (((getG 0 s.group s.lead) + 1).tmod s.nodes) s.lead }) 3 :: L)) := Aside0.mk (h_.recell 1 rfl (lead_set (g := s.group) s ({ s with lead := putM s.group (((getG 0 s.group s.lead) + 1).tmod s.nodes) s.lead }) HK.out.group1 rfl))
 clear h_ hu_
 refine hK.out _ _ ?_
 clear hK K
 refine done_ (by kernel_rfl) ?_
 clear hHeld
 go_wp2_with (fail)
 go_end0
 refine HPOST.out _ _ ?_
 exact ⟨rfl, (S4.out)⟩
set_option maxHeartbeats 4000000 in
set_option maxRecDepth 100000 in
theorem refTurn (w0 w : World) (L : List Thing) (BR BL q : Nat) (s : As) (h : St w0 w (refT BR BL s ++ L)) (hk : s.ok q) (g : Int) :
  Calls Try.prog 30 #[.pointer (some ⟨BR, 0, none⟩), .int .i64 g] w fun e' w' => e' = .returned (.int .i64 (turnV s g).1) ∧ St w0 w' (refT BR BL (turnV s g).2 ++ L) := by
 have H := Aside0.mk h
 have HK := Aside0.mk hk
 clear h hk
 refine calls_hide fun R HPOST => ?_
 go_enter Try.func30, Try.ntmps30
 go_upto_region 0 with (fail)
 rcases Bool.eq_false_or_eq_true s.busy with q1 | q1
 ·have Xq1 := Aside0.mk q1
  go_upto_region 1 with (fail)
  have c2 : w.cell? ⟨BR, 24, none⟩ = some (.bool true) := (show w.cell? ⟨BR, 24, none⟩ = some (.bool s.busy) from H.out.cell 0 24 rfl rfl).trans (by rw [q1])
  rcases Decidable.em (g < 0) with q3 | q3
  ·have t4 : decide (g < 0) = true := decide_eq_true q3
   have Xq3 := Aside0.mk q3
   clear q3
   go_upto_region 3 with (fail)
   clear c2
   go_upto_region 4 with (fail)
   go_wp2_with (fail)
   try go_ret
   have HV := Aside0.mk (show turnV s g = (2, s) by unfold turnV; rw [if_pos q1, if_neg (show ¬ isG g from fun h => (by have h1 := h.1; have h2 := h.2; have h3 := Xq3.out; omega))])
   refine HPOST.out _ _ ?_
   rw [HV.out]
   exact ⟨rfl, (H.out)⟩
  ·have t4 : decide (g < 0) = false := decide_eq_false q3
   have Xq3 := Aside0.mk q3
   clear q3
   rcases Decidable.em (6 < g) with q6 | q6
   ·have t7 : decide (6 < g) = true := decide_eq_true q6
    have Xq6 := Aside0.mk q6
    clear q6
    go_upto_region 3 with (fail)
    clear c2
    go_upto_region 4 with (fail)
    go_wp2_with (fail)
    try go_ret
    have HV := Aside0.mk (show turnV s g = (2, s) by unfold turnV; rw [if_pos q1, if_neg (show ¬ isG g from fun h => (by have h1 := h.1; have h2 := h.2; have h3 := Xq6.out; omega))])
    refine HPOST.out _ _ ?_
    rw [HV.out]
    exact ⟨rfl, (H.out)⟩
   ·have t7 : decide (6 < g) = false := decide_eq_false q6
    have Xq6 := Aside0.mk q6
    clear q6
    go_upto_region 3 with (fail)
    clear c2
    go_upto_region 5 with (fail)
    go_upto_region 6 with (first | ((with_reducible refine gate_ (.store 3 (.tmp 19) (.tmp 17)) rfl ?_); refine st_store rfl rfl 3 _ _ rfl rfl rfl (seg := [(.int .i64 g)]) rfl (by kernel_rfl) (by rfl) H.out 0 rfl (Nat.le_of_ble_eq_true rfl) ?_; intro w9 h_; have S10 : Aside0 (St w0 w9 (Blk BR (refA { s with group := g } BL) 87 :: Blk BL (leadA { s with group := g }) 3 :: L)) := Aside0.mk h_; clear h_))
    go_upto_region 7 with (first | ((with_reducible refine gate_ (.store 4 (.tmp 22) (.const (.bool false))) rfl ?_); refine st_store rfl rfl 4 _ _ rfl rfl rfl (seg := [(.bool false)]) rfl (by kernel_rfl) (by rfl) S10.out 0 rfl (Nat.le_of_ble_eq_true rfl) ?_; intro w11 h_; have S12 : Aside0 (St w0 w11 (Blk BR (refA { s with group := g, sent := false } BL) 87 :: Blk BL (leadA { s with group := g, sent := false }) 3 :: L)) := Aside0.mk h_; clear h_))
    go_wp2_with (fail)
    try go_ret
    have HV := Aside0.mk (show turnV s g = (0, { s with group := g, sent := false }) by unfold turnV; rw [if_pos q1, if_pos (show isG g from ⟨by have h3 := Xq3.out; omega, by have h3 := Xq6.out; omega⟩)])
    refine HPOST.out _ _ ?_
    rw [HV.out]
    exact ⟨rfl, (S12.out)⟩
 ·have Xq1 := Aside0.mk q1
  go_upto_region 1 with (fail)
  have c13 : w.cell? ⟨BR, 24, none⟩ = some (.bool false) := (show w.cell? ⟨BR, 24, none⟩ = some (.bool s.busy) from H.out.cell 0 24 rfl rfl).trans (by rw [q1])
  go_upto_region 2 with (fail)
  clear c13
  go_wp2_with (fail)
  try go_ret
  have HV := Aside0.mk (show turnV s g = (9, s) by unfold turnV; rw [if_neg (by rw [q1]; decide)])
  refine HPOST.out _ _ ?_
  rw [HV.out]
  exact ⟨rfl, (H.out)⟩
set_option maxHeartbeats 4000000 in
set_option maxRecDepth 100000 in
theorem refAsk (w0 w : World) (L : List Thing) (BR BL q : Nat) (s : As) (h : St w0 w (refT BR BL s ++ L)) (hk : s.ok q) (g : Int) (c : S38) :
  Calls Try.prog 28 #[.pointer (some ⟨BR, 0, none⟩), .int .i64 g, .agg #[(.int .i64 c.f0), (.int .i64 c.f1), (.int .i64 c.f2), (.int .i64 c.f3), (.int .i64 c.f4), (.string c.f5), (.string c.f6), (.string c.f7), (.string c.f8), (.int .i64 c.f9), (.int .i64 c.f10), (.int .i64 c.f11.f0), (.string c.f11.f1), (.int .i64 c.f11.f2), (.int .i64 c.f11.f3), (.int .i64 c.f12.f0), (.int .i64 c.f12.f1), (.int .i64 c.f13), (.slice none 0 0)]] w fun e' w' => e' = .returned (.int .i64 (askV s g c).1) ∧ St w0 w' (refT BR BL (askV s g c).2 ++ L) := by
 have H := Aside0.mk h
 have HK := Aside0.mk hk
 have hw1 : wrap64 (s.num + 1) = s.num + 1 := by have h1 := hk.num1; have h2 := hk.q1; unfold wrap64; omega
 clear h hk
 refine calls_hide fun R HPOST => ?_
 go_enter Try.func28, Try.ntmps28
 go_upto_region 0 with (fail)
 rcases Bool.eq_false_or_eq_true s.busy with q4 | q4
 ·have Xq4 := Aside0.mk q4
  go_upto_region 1 with (first | ((with_reducible refine gate_dst (N := 5) rfl ?_); (try simp only [hw1]); refine st_box ?hg (N := 5) ?hd #[(.int .i64 c.f0), (.int .i64 c.f1), (.int .i64 c.f2), (.int .i64 c.f3), (.int .i64 c.f4), (.string c.f5), (.string c.f6), (.string c.f7), (.string c.f8), (.int .i64 c.f9), (.int .i64 c.f10), (.int .i64 c.f11.f0), (.string c.f11.f1), (.int .i64 c.f11.f2), (.int .i64 c.f11.f3), (.int .i64 c.f12.f0), (.int .i64 c.f12.f1), (.int .i64 c.f13), (.slice none 0 0)] 38 ?hr H.out ?_; (case hd => rfl); (case hg => rfl); (case hr => first | (go_simp; done) | (go_simp; rfl)); intro g1 w2 hg_ h_ hb_; have S3 := Aside0.mk h_; have BS3 := Aside0.mk hb_; have GS3 := Aside0.mk hg_; clear h_ hb_ hg_))
  have c5 : w2.cell? ⟨BR, 24, none⟩ = some (.bool true) := (show w2.cell? ⟨BR, 24, none⟩ = some (.bool s.busy) from S3.out.cell 1 24 rfl rfl).trans (by rw [q4])
  go_upto_region 2 with (fail)
  clear c5
  go_wp2_with (fail)
  try go_ret
  have HV := Aside0.mk (show askV s g c = (17, s) by unfold askV; rw [if_pos q4])
  refine HPOST.out _ _ ?_
  rw [HV.out]
  exact ⟨rfl, ((S3.out).erase 0)⟩
 ·have Xq4 := Aside0.mk q4
  go_upto_region 1 with (first | ((with_reducible refine gate_dst (N := 5) rfl ?_); (try simp only [hw1]); refine st_box ?hg (N := 5) ?hd #[(.int .i64 c.f0), (.int .i64 c.f1), (.int .i64 c.f2), (.int .i64 c.f3), (.int .i64 c.f4), (.string c.f5), (.string c.f6), (.string c.f7), (.string c.f8), (.int .i64 c.f9), (.int .i64 c.f10), (.int .i64 c.f11.f0), (.string c.f11.f1), (.int .i64 c.f11.f2), (.int .i64 c.f11.f3), (.int .i64 c.f12.f0), (.int .i64 c.f12.f1), (.int .i64 c.f13), (.slice none 0 0)] 38 ?hr H.out ?_; (case hd => rfl); (case hg => rfl); (case hr => first | (go_simp; done) | (go_simp; rfl)); intro g1 w2 hg_ h_ hb_; have S3 := Aside0.mk h_; have BS3 := Aside0.mk hb_; have GS3 := Aside0.mk hg_; clear h_ hb_ hg_))
  have c6 : w2.cell? ⟨BR, 24, none⟩ = some (.bool false) := (show w2.cell? ⟨BR, 24, none⟩ = some (.bool s.busy) from S3.out.cell 1 24 rfl rfl).trans (by rw [q4])
  rcases Decidable.em (g < 0) with q7 | q7
  ·have t8 : decide (g < 0) = true := decide_eq_true q7
   have Xq7 := Aside0.mk q7
   clear q7
   go_upto_region 3 with (fail)
   clear c6
   go_upto_region 4 with (fail)
   go_wp2_with (fail)
   try go_ret
   have HV := Aside0.mk (show askV s g c = (2, s) by unfold askV; rw [if_neg (by rw [q4]; decide), if_neg (show ¬ isG g from fun h => (by have h1 := h.1; have h2 := h.2; have h3 := Xq7.out; omega))])
   refine HPOST.out _ _ ?_
   rw [HV.out]
   exact ⟨rfl, ((S3.out).erase 0)⟩
  ·have t8 : decide (g < 0) = false := decide_eq_false q7
   have Xq7 := Aside0.mk q7
   clear q7
   rcases Decidable.em (6 < g) with q10 | q10
   ·have t11 : decide (6 < g) = true := decide_eq_true q10
    have Xq10 := Aside0.mk q10
    clear q10
    go_upto_region 3 with (fail)
    clear c6
    go_upto_region 4 with (fail)
    go_wp2_with (fail)
    try go_ret
    have HV := Aside0.mk (show askV s g c = (2, s) by unfold askV; rw [if_neg (by rw [q4]; decide), if_neg (show ¬ isG g from fun h => (by have h1 := h.1; have h2 := h.2; have h3 := Xq10.out; omega))])
    refine HPOST.out _ _ ?_
    rw [HV.out]
    exact ⟨rfl, ((S3.out).erase 0)⟩
   ·have t11 : decide (6 < g) = false := decide_eq_false q10
    have Xq10 := Aside0.mk q10
    clear q10
    go_upto_region 3 with (fail)
    clear c6
    go_upto_region 5 with (fail)
    have c13 : w2.cell? ⟨BR, 3, none⟩ = some (.int .i64 s.num) := S3.out.cell 1 3 rfl rfl
    go_upto_region 6 with (first | ((with_reducible refine gate_ (.store 3 (.tmp 24) (.tmp 22)) rfl ?_); (try simp only [hw1]); refine st_store rfl rfl 3 _ _ rfl rfl rfl (seg := [(.int .i64 (s.num + 1))]) rfl (by kernel_rfl) (by rfl) S3.out 1 rfl (Nat.le_of_ble_eq_true rfl) ?_; intro w14 h_; clear c13; have S15 : Aside0 (St w0 w14 (Blk g1 #[(.int .i64 c.f0), (.int .i64 c.f1), (.int .i64 c.f2), (.int .i64 c.f3), (.int .i64 c.f4), (.string c.f5), (.string c.f6), (.string c.f7), (.string c.f8), (.int .i64 c.f9), (.int .i64 c.f10), (.int .i64 c.f11.f0), (.string c.f11.f1), (.int .i64 c.f11.f2), (.int .i64 c.f11.f3), (.int .i64 c.f12.f0), (.int .i64 c.f12.f1), (.int .i64 c.f13), (.slice none 0 0)] 38 :: Blk BR (refA { s with num := (s.num + 1) } BL) 87 :: Blk BL (leadA { s with num := (s.num + 1) }) 3 :: L)) := Aside0.mk h_; clear h_))
    have c16 : w14.cell? ⟨BR, 0, none⟩ = some (.int .i64 s.id) := S15.out.cell 1 0 rfl rfl
    go_upto_region 7 with (first | ((with_reducible refine gate_ (.store 3 (.tmp 29) (.tmp 28)) rfl ?_); (try simp only [hw1]); refine st_store rfl rfl 3 _ _ rfl rfl rfl (seg := [(.int .i64 s.id)]) rfl (by kernel_rfl) (by rfl) S15.out 0 rfl (Nat.le_of_ble_eq_true rfl) ?_; intro w17 h_; clear c16; have S18 : Aside0 (St w0 w17 (Blk g1 #[(.int .i64 c.f0), (.int .i64 s.id), (.int .i64 c.f2), (.int .i64 c.f3), (.int .i64 c.f4), (.string c.f5), (.string c.f6), (.string c.f7), (.string c.f8), (.int .i64 c.f9), (.int .i64 c.f10), (.int .i64 c.f11.f0), (.string c.f11.f1), (.int .i64 c.f11.f2), (.int .i64 c.f11.f3), (.int .i64 c.f12.f0), (.int .i64 c.f12.f1), (.int .i64 c.f13), (.slice none 0 0)] 38 :: Blk BR (refA { s with num := (s.num + 1) } BL) 87 :: Blk BL (leadA { s with num := (s.num + 1) }) 3 :: L)) := Aside0.mk h_; clear h_))
    have c19 : w17.cell? ⟨BR, 3, none⟩ = some (.int .i64 (s.num + 1)) := S18.out.cell 1 3 rfl rfl
    go_upto_region 8 with (first | ((with_reducible refine gate_ (.store 3 (.tmp 34) (.tmp 33)) rfl ?_); (try simp only [hw1]); refine st_store rfl rfl 3 _ _ rfl rfl rfl (seg := [(.int .i64 (s.num + 1))]) rfl (by kernel_rfl) (by rfl) S18.out 0 rfl (Nat.le_of_ble_eq_true rfl) ?_; intro w20 h_; clear c19; have S21 : Aside0 (St w0 w20 (Blk g1 #[(.int .i64 c.f0), (.int .i64 s.id), (.int .i64 (s.num + 1)), (.int .i64 c.f3), (.int .i64 c.f4), (.string c.f5), (.string c.f6), (.string c.f7), (.string c.f8), (.int .i64 c.f9), (.int .i64 c.f10), (.int .i64 c.f11.f0), (.string c.f11.f1), (.int .i64 c.f11.f2), (.int .i64 c.f11.f3), (.int .i64 c.f12.f0), (.int .i64 c.f12.f1), (.int .i64 c.f13), (.slice none 0 0)] 38 :: Blk BR (refA { s with num := (s.num + 1) } BL) 87 :: Blk BL (leadA { s with num := (s.num + 1) }) 3 :: L)) := Aside0.mk h_; clear h_))
    go_upto_region 9 with (first | ((with_reducible refine gate_ (.store 3 (.tmp 38) (.tmp 36)) rfl ?_); (try simp only [hw1]); refine st_store rfl rfl 3 _ _ rfl rfl rfl (seg := [(.int .i64 g)]) rfl (by kernel_rfl) (by rfl) S21.out 1 rfl (Nat.le_of_ble_eq_true rfl) ?_; intro w22 h_; have S23 : Aside0 (St w0 w22 (Blk g1 #[(.int .i64 c.f0), (.int .i64 s.id), (.int .i64 (s.num + 1)), (.int .i64 c.f3), (.int .i64 c.f4), (.string c.f5), (.string c.f6), (.string c.f7), (.string c.f8), (.int .i64 c.f9), (.int .i64 c.f10), (.int .i64 c.f11.f0), (.string c.f11.f1), (.int .i64 c.f11.f2), (.int .i64 c.f11.f3), (.int .i64 c.f12.f0), (.int .i64 c.f12.f1), (.int .i64 c.f13), (.slice none 0 0)] 38 :: Blk BR (refA { s with num := (s.num + 1), group := g } BL) 87 :: Blk BL (leadA { s with num := (s.num + 1), group := g }) 3 :: L)) := Aside0.mk h_; clear h_))
    go_upto_region 10 with (first | ((with_reducible refine gate_ (.load 38 (.tmp 5)) rfl ?_); refine st_load rfl 38 _ rfl rfl S23.out 0 rfl [(.int .i64 c.f0), (.int .i64 s.id), (.int .i64 (s.num + 1)), (.int .i64 c.f3), (.int .i64 c.f4), (.string c.f5), (.string c.f6), (.string c.f7), (.string c.f8), (.int .i64 c.f9), (.int .i64 c.f10), (.int .i64 c.f11.f0), (.string c.f11.f1), (.int .i64 c.f11.f2), (.int .i64 c.f11.f3), (.int .i64 c.f12.f0), (.int .i64 c.f12.f1), (.int .i64 c.f13), (.slice none 0 0)] rfl Try.underlying38 rfl (by kernel_rfl) ?_) | ((with_reducible refine gate_ (.store 38 (.tmp 42) (.tmp 40)) rfl ?_); (try simp only [hw1]); refine st_store rfl rfl 38 _ _ rfl rfl rfl (seg := [(.int .i64 c.f0), (.int .i64 s.id), (.int .i64 (s.num + 1)), (.int .i64 c.f3), (.int .i64 c.f4), (.string c.f5), (.string c.f6), (.string c.f7), (.string c.f8), (.int .i64 c.f9), (.int .i64 c.f10), (.int .i64 c.f11.f0), (.string c.f11.f1), (.int .i64 c.f11.f2), (.int .i64 c.f11.f3), (.int .i64 c.f12.f0), (.int .i64 c.f12.f1), (.int .i64 c.f13), (.slice none 0 0)]) rfl (by kernel_rfl) (by rfl) S23.out 1 rfl (Nat.le_of_ble_eq_true rfl) ?_; intro w24 h_; have S25 : Aside0 (St w0 w24 (Blk g1 #[(.int .i64 c.f0), (.int .i64 s.id), (.int .i64 (s.num + 1)), (.int .i64 c.f3), (.int .i64 c.f4), (.string c.f5), (.string c.f6), (.string c.f7), (.string c.f8), (.int .i64 c.f9), (.int .i64 c.f10), (.int .i64 c.f11.f0), (.string c.f11.f1), (.int .i64 c.f11.f2), (.int .i64 c.f11.f3), (.int .i64 c.f12.f0), (.int .i64 c.f12.f1), (.int .i64 c.f13), (.slice none 0 0)] 38 :: Blk BR (refA { s with num := (s.num + 1), group := g, cmd := { c with f1 := s.id, f2 := s.num + 1 } } BL) 87 :: Blk BL (leadA { s with num := (s.num + 1), group := g, cmd := { c with f1 := s.id, f2 := s.num + 1 } }) 3 :: L)) := Aside0.mk h_; clear h_))
    go_upto_region 11 with (first | ((with_reducible refine gate_ (.store 4 (.tmp 45) (.const (.bool true))) rfl ?_); (try simp only [hw1]); refine st_store rfl rfl 4 _ _ rfl rfl rfl (seg := [(.bool true)]) rfl (by kernel_rfl) (by rfl) S25.out 1 rfl (Nat.le_of_ble_eq_true rfl) ?_; intro w26 h_; have S27 : Aside0 (St w0 w26 (Blk g1 #[(.int .i64 c.f0), (.int .i64 s.id), (.int .i64 (s.num + 1)), (.int .i64 c.f3), (.int .i64 c.f4), (.string c.f5), (.string c.f6), (.string c.f7), (.string c.f8), (.int .i64 c.f9), (.int .i64 c.f10), (.int .i64 c.f11.f0), (.string c.f11.f1), (.int .i64 c.f11.f2), (.int .i64 c.f11.f3), (.int .i64 c.f12.f0), (.int .i64 c.f12.f1), (.int .i64 c.f13), (.slice none 0 0)] 38 :: Blk BR (refA { s with num := (s.num + 1), group := g, cmd := { c with f1 := s.id, f2 := s.num + 1 }, busy := true } BL) 87 :: Blk BL (leadA { s with num := (s.num + 1), group := g, cmd := { c with f1 := s.id, f2 := s.num + 1 }, busy := true }) 3 :: L)) := Aside0.mk h_; clear h_))
    go_upto_region 12 with (first | ((with_reducible refine gate_ (.store 4 (.tmp 48) (.const (.bool false))) rfl ?_); (try simp only [hw1]); refine st_store rfl rfl 4 _ _ rfl rfl rfl (seg := [(.bool false)]) rfl (by kernel_rfl) (by rfl) S27.out 1 rfl (Nat.le_of_ble_eq_true rfl) ?_; intro w28 h_; have S29 : Aside0 (St w0 w28 (Blk g1 #[(.int .i64 c.f0), (.int .i64 s.id), (.int .i64 (s.num + 1)), (.int .i64 c.f3), (.int .i64 c.f4), (.string c.f5), (.string c.f6), (.string c.f7), (.string c.f8), (.int .i64 c.f9), (.int .i64 c.f10), (.int .i64 c.f11.f0), (.string c.f11.f1), (.int .i64 c.f11.f2), (.int .i64 c.f11.f3), (.int .i64 c.f12.f0), (.int .i64 c.f12.f1), (.int .i64 c.f13), (.slice none 0 0)] 38 :: Blk BR (refA { s with num := (s.num + 1), group := g, cmd := { c with f1 := s.id, f2 := s.num + 1 }, busy := true, sent := false } BL) 87 :: Blk BL (leadA { s with num := (s.num + 1), group := g, cmd := { c with f1 := s.id, f2 := s.num + 1 }, busy := true, sent := false }) 3 :: L)) := Aside0.mk h_; clear h_))
    go_wp2_with (fail)
    try go_ret
    have HV := Aside0.mk (show askV s g c = (0, askedV s g c) by unfold askV; rw [if_neg (by rw [q4]; decide), if_pos (show isG g from ⟨by have h3 := Xq7.out; omega, by have h3 := Xq10.out; omega⟩)])
    refine HPOST.out _ _ ?_
    rw [HV.out]
    exact ⟨rfl, ((S29.out).erase 0)⟩
set_option maxHeartbeats 4000000 in
set_option maxRecDepth 100000 in
theorem refTick (w0 w : World) (L : List Thing) (BR BL q : Nat) (s : As) (h : St w0 w (refT BR BL s ++ L)) (hk : s.ok q) :
  Calls Try.prog 23 #[.pointer (some ⟨BR, 0, none⟩)] w fun e' w' => RTickP w0 L BR BL (tickV s) e' w' := by
 have H := Aside0.mk h
 have HK := Aside0.mk hk
 have hw2 : wrap64 (s.waited + 1) = s.waited + 1 := by have h1 := hk.waited1; unfold wrap64; omega
 have hng := neg_w hk.id1
 have hng2 : wrap64 (-(nextV s).id) = -(nextV s).id := hng
 clear h hk
 refine calls_hide fun R HPOST => ?_
 go_enter Try.func23, Try.ntmps23
 go_upto_region 0 with (fail)
 rcases Bool.eq_false_or_eq_true s.busy with q1 | q1
 ·have Xq1 := Aside0.mk q1
  go_upto_region 1 with (fail)
  have c2 : w.cell? ⟨BR, 24, none⟩ = some (.bool true) := (show w.cell? ⟨BR, 24, none⟩ = some (.bool s.busy) from H.out.cell 0 24 rfl rfl).trans (by rw [q1])
  rcases Bool.eq_false_or_eq_true s.sent with q3 | q3
  ·have Xq3 := Aside0.mk q3
   rcases Decidable.em (s.waited < s.retry) with q4 | q4
   ·have t5 : decide (s.waited < s.retry) = true := decide_eq_true q4
    have Xq4 := Aside0.mk q4
    clear q4
    go_upto_region 3 with (fail)
    clear c2
    have c7 : w.cell? ⟨BR, 25, none⟩ = some (.bool true) := (show w.cell? ⟨BR, 25, none⟩ = some (.bool s.sent) from H.out.cell 0 25 rfl rfl).trans (by rw [q3])
    have c8 : w.cell? ⟨BR, 26, none⟩ = some (.int .i64 s.waited) := H.out.cell 0 26 rfl rfl
    have c9 : w.cell? ⟨BR, 2, none⟩ = some (.int .i64 s.retry) := H.out.cell 0 2 rfl rfl
    go_quiet (fail)
    have S11 := Aside0.mk (H.out.drewN nq)
    generalize w.drewN nq = w10 at S11 ⊢
    clear c7 c8 c9
    go_upto_region 4 with (fail)
    have c12 : w10.cell? ⟨BR, 26, none⟩ = some (.int .i64 s.waited) := S11.out.cell 0 26 rfl rfl
    go_upto_region 5 with (first | ((with_reducible refine gate_ (.store 3 (.tmp 29) (.tmp 27)) rfl ?_); (try simp only [hw2, hng]); refine st_store rfl rfl 3 _ _ rfl rfl rfl (seg := [(.int .i64 (s.waited + 1))]) rfl (by kernel_rfl) (by rfl) S11.out 0 rfl (Nat.le_of_ble_eq_true rfl) ?_; intro w13 h_; clear c12; have S14 : Aside0 (St w0 w13 (Blk BR (refA { s with waited := (s.waited + 1) } BL) 87 :: Blk BL (leadA { s with waited := (s.waited + 1) }) 3 :: L)) := Aside0.mk h_; clear h_))
    go_wp2_with (fail)
    try go_ret
    have HV := Aside0.mk (show tickV s = ({ s with waited := s.waited + 1 }, []) by unfold tickV; rw [if_pos q1, if_pos q3, if_pos Xq4.out])
    have S99 := Aside0.mk (S14.out.nilRow k47 47)
    refine HPOST.out _ _ ?_
    unfold RTickP
    rw [HV.out]
    exact ⟨_, _, rfl, ((((S99.out).bring 0 rfl).bring 2 rfl).bring 2 rfl)⟩
   ·have t5 : decide (s.waited < s.retry) = false := decide_eq_false q4
    have Xq4 := Aside0.mk q4
    clear q4
    go_upto_region 3 with (fail)
    clear c2
    have c15 : w.cell? ⟨BR, 25, none⟩ = some (.bool true) := (show w.cell? ⟨BR, 25, none⟩ = some (.bool s.sent) from H.out.cell 0 25 rfl rfl).trans (by rw [q3])
    have c16 : w.cell? ⟨BR, 26, none⟩ = some (.int .i64 s.waited) := H.out.cell 0 26 rfl rfl
    have c17 : w.cell? ⟨BR, 2, none⟩ = some (.int .i64 s.retry) := H.out.cell 0 2 rfl rfl
    go_quiet (fail)
    have S19 := Aside0.mk (H.out.drewN nq)
    generalize w.drewN nq = w18 at S19 ⊢
    clear c15 c16 c17
    go_upto_region 6 with (fail)
    have c20 : w18.cell? ⟨BR, 25, none⟩ = some (.bool true) := (show w18.cell? ⟨BR, 25, none⟩ = some (.bool s.sent) from S19.out.cell 0 25 rfl rfl).trans (by rw [q3])
    go_upto_region 7 with (fail)
    clear c20
    go_upto_region 8 with (first | (go_at_call 46; (try simp only [hw2, hng]); (with_reducible refine (refNext w0 _ (L) BR BL q s (S19.out) HK.out).mono ?_); rintro e1 w22 ⟨rfl, h_⟩; have S21 := Aside0.mk h_; clear h_))
    go_upto_region 9 with (first | ((with_reducible refine gate_ (.store 4 (.tmp 38) (.const (.bool true))) rfl ?_); (try simp only [hw2, hng]); refine st_store rfl rfl 4 _ _ rfl rfl rfl (seg := [(.bool true)]) rfl (by kernel_rfl) (by rfl) S21.out 0 rfl (Nat.le_of_ble_eq_true rfl) ?_; intro w23 h_; have S24 : Aside0 (St w0 w23 (Blk BR (refA { (nextV s) with sent := true } BL) 87 :: Blk BL (leadA { (nextV s) with sent := true }) 3 :: L)) := Aside0.mk h_; clear h_))
    go_upto_region 10 with (first | ((with_reducible refine gate_ (.store 3 (.tmp 41) (.const (.int .i64 0))) rfl ?_); (try simp only [hw2, hng]); refine st_store rfl rfl 3 _ _ rfl rfl rfl (seg := [(.int .i64 0)]) rfl (by kernel_rfl) (by rfl) S24.out 0 rfl (Nat.le_of_ble_eq_true rfl) ?_; intro w25 h_; have S26 : Aside0 (St w0 w25 (Blk BR (refA { (nextV s) with sent := true, waited := 0 } BL) 87 :: Blk BL (leadA { (nextV s) with sent := true, waited := 0 }) 3 :: L)) := Aside0.mk h_; clear h_))
    have S28 := Aside0.mk S26.out.drew
    refine start_ (n := 26) (S := fun w' => St w0 w' (Blk BR (refA { (nextV s) with sent := true, waited := 0 } BL) 87 :: Blk BL (leadA { (nextV s) with sent := true, waited := 0 }) 3 :: L)) (ds := []) (bits 26 0) (by kernel_rfl) rfl rfl (S26.out).drew (fun hHeld => ?_)
    generalize w25.drew = w27 at S28 hHeld ⊢
    refine pu 0 42 (bits 26 1) ?_ rfl rfl (by kernel_rfl) (fun _ _ _ h => h) (by rfl) ?_ ?_ ?_ ?_
    rotate_left
    ·intro w'; go_simp; with_reducible rfl
    rotate_left
    ·simp only [Act.put, sqA, sqB, sqC, i64_w, i32_w]; rfl
    refine pu 1 43 (bits 26 3) ?_ rfl rfl (by kernel_rfl) (fun _ _ _ h => h) (by rfl) ?_ ?_ ?_ ?_
    rotate_left
    ·intro w'; go_simp; with_reducible rfl
    rotate_left
    ·simp only [Act.put, sqA, sqB, sqC, i64_w, i32_w]; rfl
    refine pu 2 44 (bits 26 7) ?_ rfl rfl (by kernel_rfl) (fun _ _ _ h => h) (by rfl) ?_ ?_ ?_ ?_
    rotate_left
    ·intro w'; go_simp; with_reducible rfl
    rotate_left
    ·simp only [Act.put, sqA, sqB, sqC, i64_w, i32_w]; rfl
    refine pu 5 47 (bits 26 39) ?_ rfl rfl (by kernel_rfl) (fun _ _ _ h => h) (by rfl) ?_ ?_ ?_ ?_
    rotate_left
    ·intro w'; go_simp; with_reducible rfl
    rotate_left
    ·simp only [Act.put, sqA, sqB, sqC, i64_w, i32_w]; rfl
    refine pu 6 48 (bits 26 103) ?_ rfl rfl (by kernel_rfl) (fun _ _ _ h => h) (by rfl) ?_ ?_ ?_ ?_
    rotate_left
    ·intro w'; go_simp; with_reducible rfl
    rotate_left
    ·simp only [Act.put, sqA, sqB, sqC, i64_w, i32_w]; rfl
    refine pu 7 49 (bits 26 231) ?_ rfl rfl (by kernel_rfl) (fun _ _ _ h => h) (by rfl) ?_ ?_ ?_ ?_
    rotate_left
    ·intro w'; go_simp; with_reducible rfl
    rotate_left
    ·simp only [Act.put, sqA, sqB, sqC, i64_w, i32_w]; rfl
    refine pu 9 51 (bits 26 743) ?_ rfl rfl (by kernel_rfl) (fun _ _ _ h => h) (by rfl) ?_ ?_ ?_ ?_
    rotate_left
    ·intro w'; go_simp; with_reducible rfl
    rotate_left
    ·simp only [Act.put, sqA, sqB, sqC, i64_w, i32_w]; rfl
    refine pu 10 52 (bits 26 1767) ?_ rfl rfl (by kernel_rfl) (fun _ _ _ h => h) (by rfl) ?_ ?_ ?_ ?_
    rotate_left
    ·intro w'; go_simp; with_reducible rfl
    rotate_left
    ·simp only [Act.put, sqA, sqB, sqC, i64_w, i32_w]; rfl
    refine pu 11 53 (bits 26 3815) ?_ rfl rfl (by kernel_rfl) (fun _ _ _ h => h) (by rfl) ?_ ?_ ?_ ?_
    rotate_left
    ·intro w'; go_simp; with_reducible rfl
    rotate_left
    ·simp only [Act.put, sqA, sqB, sqC, i64_w, i32_w]; rfl
    refine pu 15 57 (bits 26 36583) ?_ rfl rfl (by kernel_rfl) (fun _ _ _ h => h) (by rfl) ?_ ?_ ?_ ?_
    rotate_left
    ·intro w'; go_simp; with_reducible rfl
    rotate_left
    ·simp only [Act.put, sqA, sqB, sqC, i64_w, i32_w]; rfl
    refine pu 16 58 (bits 26 102119) ?_ rfl rfl (by kernel_rfl) (fun _ _ _ h => h) (by rfl) ?_ ?_ ?_ ?_
    rotate_left
    ·intro w'; go_simp; with_reducible rfl
    rotate_left
    ·simp only [Act.put, sqA, sqB, sqC, i64_w, i32_w]; rfl
    refine pu 17 59 (bits 26 233191) ?_ rfl rfl (by kernel_rfl) (fun _ _ _ h => h) (by rfl) ?_ ?_ ?_ ?_
    rotate_left
    ·intro w'; go_simp; with_reducible rfl
    rotate_left
    ·simp only [Act.put, sqA, sqB, sqC, i64_w, i32_w]; rfl
    refine pu 19 61 (bits 26 757479) ?_ rfl rfl (by kernel_rfl) (fun _ _ _ h => h) (by rfl) ?_ ?_ ?_ ?_
    rotate_left
    ·intro w'; go_simp; with_reducible rfl
    rotate_left
    ·simp only [Act.put, sqA, sqB, sqC, i64_w, i32_w]; rfl
    refine pu 20 62 (bits 26 1806055) ?_ rfl rfl (by kernel_rfl) (fun _ _ _ h => h) (by rfl) ?_ ?_ ?_ ?_
    rotate_left
    ·intro w'; go_simp; with_reducible rfl
    rotate_left
    ·simp only [Act.put, sqA, sqB, sqC, i64_w, i32_w]; rfl
    refine pu 21 63 (bits 26 3903207) ?_ rfl rfl (by kernel_rfl) (fun _ _ _ h => h) (by rfl) ?_ ?_ ?_ ?_
    rotate_left
    ·intro w'; go_simp; with_reducible rfl
    rotate_left
    ·simp only [Act.put, sqA, sqB, sqC, i64_w, i32_w]; rfl
    refine tk 3 45 (bits 26 3903215) ?_ rfl rfl (by kernel_rfl) (fun _ _ _ h => h) (by rfl) ?_ hHeld ?_ ?_ ?_
    rotate_left
    ·intro w' hw'; have s0 : w'.cell? ⟨BR, 0, none⟩ = some (.int .i64 (nextV s).id) := hw'.cell 0 0 rfl rfl; go_simp; with_reducible rfl
    rotate_left
    ·simp only [Act.put, sqA, sqB, sqC, i64_w, i32_w]; rfl
    refine pu 4 46 (bits 26 3903231) ?_ rfl rfl (by kernel_rfl) (fun _ _ _ h => h) (by rfl) ?_ ?_ ?_ ?_
    rotate_left
    ·intro w'; go_simp; with_reducible rfl
    rotate_left
    ·simp only [Act.put, sqA, sqB, sqC, i64_w, i32_w]; rfl
    refine tk 8 50 (bits 26 3903487) ?_ rfl rfl (by kernel_rfl) (fun _ _ _ h => h) (by rfl) ?_ hHeld ?_ ?_ ?_
    rotate_left
    ·intro w' hw'; have s0 : w'.cell? ⟨BR, 27, none⟩ = some (.slice (some ⟨BL, 0, none⟩) 7 7) := hw'.cell 0 27 rfl rfl; go_simp; with_reducible rfl
    rotate_left
    ·simp only [Act.put, sqA, sqB, sqC, i64_w, i32_w]; rfl
    refine tk 12 54 (bits 26 3907583) ?_ rfl rfl (by kernel_rfl) (fun _ _ _ h => h) (by rfl) ?_ hHeld ?_ ?_ ?_
    rotate_left
    ·intro w' hw'; have s0 : w'.cell? ⟨BR, 4, none⟩ = some (.int .i64 (nextV s).group) := hw'.cell 0 4 rfl rfl; go_simp; with_reducible rfl
    rotate_left
    ·simp only [Act.put, sqA, sqB, sqC, i64_w, i32_w]; rfl
    refine pure_ (i := 13) (N := some 55) (a' := ?_) (bits 26 3915775) rfl rfl (by kernel_rfl) (fun _ _ _ h => h) (yields_index (by rfl) 63 _ _ rfl rfl rfl HK.out.group1.1 (by have := HK.out.group1.2; omega) Try.underlying63 (sz := 1) (by kernel_rfl) (o' := s.group.toNat) (by simp)) ?_ ?_
    rotate_left
    ·simp only [Act.put, sqA, sqB, sqC, i64_w, i32_w]; rfl
    refine tk 14 56 (bits 26 3932159) ?_ rfl rfl (by kernel_rfl) (fun _ _ _ h => h) (by rfl) ?_ hHeld ?_ ?_ ?_
    rotate_left
    ·intro w' hw'; have s0 : w'.cell? ⟨BL, s.group.toNat, none⟩ = some (.int .i64 (getG 0 s.group ({ (nextV s) with sent := true, waited := 0 }).lead)) := lead_cell hw' 1 rfl HK.out.group1; go_simp; with_reducible rfl
    rotate_left
    ·simp only [Act.put, sqA, sqB, sqC, i64_w, i32_w]; rfl
    refine tk 18 60 (bits 26 4194303) ?_ rfl rfl (by kernel_rfl) (fun _ _ _ h => h) (by rfl) ?_ hHeld ?_ ?_ ?_
    rotate_left
    ·intro w' hw'; have s0 : w'.cell? ⟨BR, 4, none⟩ = some (.int .i64 (nextV s).group) := hw'.cell 0 4 rfl rfl; go_simp; with_reducible rfl
    rotate_left
    ·simp only [Act.put, sqA, sqB, sqC, i64_w, i32_w]; rfl
    refine take_ (i := 22) (N := some 64) (a' := ?_) (bits 26 8388607) rfl rfl (by kernel_rfl) (fun _ _ _ h => h) (yields_blk (by rfl) 38 _ rfl BR 5 rfl [(.int .i64 (nextV s).cmd.f0), (.int .i64 (nextV s).cmd.f1), (.int .i64 (nextV s).cmd.f2), (.int .i64 (nextV s).cmd.f3), (.int .i64 (nextV s).cmd.f4), (.string (nextV s).cmd.f5), (.string (nextV s).cmd.f6), (.string (nextV s).cmd.f7), (.string (nextV s).cmd.f8), (.int .i64 (nextV s).cmd.f9), (.int .i64 (nextV s).cmd.f10), (.int .i64 (nextV s).cmd.f11.f0), (.string (nextV s).cmd.f11.f1), (.int .i64 (nextV s).cmd.f11.f2), (.int .i64 (nextV s).cmd.f11.f3), (.int .i64 (nextV s).cmd.f12.f0), (.int .i64 (nextV s).cmd.f12.f1), (.int .i64 (nextV s).cmd.f13), (.slice none 0 0)] rfl (fun w' hw' => hw'.blk 0 rfl) Try.underlying38 rfl (by kernel_rfl)) hHeld ?_ ?_
    rotate_left
    ·simp only [Act.put, sqA, sqB, sqC, i64_w, i32_w]; rfl
    refine pu 23 65 (bits 26 16777215) ?_ rfl rfl (by kernel_rfl) (fun _ _ _ h => h) (by rfl) ?_ ?_ ?_ ?_
    rotate_left
    ·intro w'; go_simp; with_reducible rfl
    rotate_left
    ·simp only [Act.put, sqA, sqB, sqC, i64_w, i32_w]; rfl
    refine one_ (i := 24) (N := some 66) (bits 26 33554431) rfl rfl (by kernel_rfl) (by decide) (fun K hK => ?_)
    refine st_lit_step (by rfl) (N := 66) rfl #[(.int .i64 2), (.int .i64 (-(nextV s).id)), (.int .i64 (getG 0 s.group ({ (nextV s) with sent := true, waited := 0 }).lead)), (.int .i64 (nextV s).group), (.int .i64 0), (.int .i64 0), (.int .i64 0), (.int .i64 0), (.int .i64 0), (.int .i64 0), (.slice none 0 0), (.slice none 0 0), (.int .i64 (nextV s).cmd.f0), (.int .i64 (nextV s).cmd.f1), (.int .i64 (nextV s).cmd.f2), (.int .i64 (nextV s).cmd.f3), (.int .i64 (nextV s).cmd.f4), (.string (nextV s).cmd.f5), (.string (nextV s).cmd.f6), (.string (nextV s).cmd.f7), (.string (nextV s).cmd.f8), (.int .i64 (nextV s).cmd.f9), (.int .i64 (nextV s).cmd.f10), (.int .i64 (nextV s).cmd.f11.f0), (.string (nextV s).cmd.f11.f1), (.int .i64 (nextV s).cmd.f11.f2), (.int .i64 (nextV s).cmd.f11.f3), (.int .i64 (nextV s).cmd.f12.f0), (.int .i64 (nextV s).cmd.f12.f1), (.int .i64 (nextV s).cmd.f13), (.slice none 0 0), (.int .i64 0), (.int .i64 0), (.int .i64 0), (.slice none 0 0), (.slice none 0 0), (.slice none 0 0), (.int .i64 0), (.slice none 0 0), (.slice none 0 0)] 47 1 ?_ S28.out ?_
    ·first | (go_simp; done) | (go_simp; rfl) | (go_simp; exact ⟨rfl, rfl⟩)
    intro g29 w30 hg_ h_ hb_
    have S31 := Aside0.mk h_
    have BS31 := Aside0.mk hb_
    have GS31 := Aside0.mk hg_
    clear h_ hb_ hg_
    refine hK.out _ _ (((S31.out).erase 0)) ?_
    clear hHeld
    intro hHeld
    clear hK K
    refine norm_ (a' := ?_) ?_ ?_
    rotate_left
    ·show Act.put _ (some 66) _ = _; simp only [Act.put, sqA, sqB, sqC, i64_w, i32_w]; rfl
    refine pu 25 2 (bits 26 67108863) ?_ rfl rfl (by kernel_rfl) (fun _ _ _ h => h) (by rfl) ?_ ?_ ?_ ?_
    rotate_left
    ·intro w'; go_simp; with_reducible rfl
    rotate_left
    ·simp only [Act.put, sqA, sqB, sqC, i64_w, i32_w]; rfl
    refine done_ (by kernel_rfl) ?_
    clear hHeld
    go_wp2_with (fail)
    try go_ret
    have HV := Aside0.mk (show tickV s = (sendV (nextV s), [askPk (sendV (nextV s))]) by unfold tickV; rw [if_pos q1, if_pos q3, if_neg (by have h3 := Xq4.out; omega)])
    have S99 := Aside0.mk (S31.out.mono0 (fun S hS => blkRow (d := k47) (x := askPk (sendV (nextV s))) hS (k47_mkM _ _ _ (askPk (sendV (nextV s))) (Kd.R_nil _ _ _ _ _) (Kd.R_nil _ _ _ _ _) (by rw [show (askPk (sendV (nextV s))).f5.f14 = [] from HK.out.data0]; exact Kd.R_nil _ _ _ _ _) (Kd.R_nil _ _ _ _ _) (Kd.R_nil _ _ _ _ _) (Kd.R_nil _ _ _ _ _) (Kd.R_nil _ _ _ _ _) (Kd.R_nil _ _ _ _ _)) rfl))
    refine HPOST.out _ _ ?_
    unfold RTickP
    rw [HV.out]
    exact ⟨_, _, rfl, ((((S99.out).bring 0 rfl).bring 2 rfl).bring 2 rfl)⟩
  ·have Xq3 := Aside0.mk q3
   go_upto_region 3 with (fail)
   clear c2
   have c32 : w.cell? ⟨BR, 25, none⟩ = some (.bool false) := (show w.cell? ⟨BR, 25, none⟩ = some (.bool s.sent) from H.out.cell 0 25 rfl rfl).trans (by rw [q3])
   go_quiet (fail)
   have S34 := Aside0.mk (H.out.drewN nq)
   generalize w.drewN nq = w33 at S34 ⊢
   clear c32
   go_upto_region 6 with (fail)
   have c35 : w33.cell? ⟨BR, 25, none⟩ = some (.bool false) := (show w33.cell? ⟨BR, 25, none⟩ = some (.bool s.sent) from S34.out.cell 0 25 rfl rfl).trans (by rw [q3])
   go_upto_region 8 with (fail)
   clear c35
   go_upto_region 9 with (first | ((with_reducible refine gate_ (.store 4 (.tmp 38) (.const (.bool true))) rfl ?_); (try simp only [hw2, hng]); refine st_store rfl rfl 4 _ _ rfl rfl rfl (seg := [(.bool true)]) rfl (by kernel_rfl) (by rfl) S34.out 0 rfl (Nat.le_of_ble_eq_true rfl) ?_; intro w36 h_; have S37 : Aside0 (St w0 w36 (Blk BR (refA { s with sent := true } BL) 87 :: Blk BL (leadA { s with sent := true }) 3 :: L)) := Aside0.mk h_; clear h_))
   go_upto_region 10 with (first | ((with_reducible refine gate_ (.store 3 (.tmp 41) (.const (.int .i64 0))) rfl ?_); (try simp only [hw2, hng]); refine st_store rfl rfl 3 _ _ rfl rfl rfl (seg := [(.int .i64 0)]) rfl (by kernel_rfl) (by rfl) S37.out 0 rfl (Nat.le_of_ble_eq_true rfl) ?_; intro w38 h_; have S39 : Aside0 (St w0 w38 (Blk BR (refA { s with sent := true, waited := 0 } BL) 87 :: Blk BL (leadA { s with sent := true, waited := 0 }) 3 :: L)) := Aside0.mk h_; clear h_))
   have S41 := Aside0.mk S39.out.drew
   refine start_ (n := 26) (S := fun w' => St w0 w' (Blk BR (refA { s with sent := true, waited := 0 } BL) 87 :: Blk BL (leadA { s with sent := true, waited := 0 }) 3 :: L)) (ds := []) (bits 26 0) (by kernel_rfl) rfl rfl (S39.out).drew (fun hHeld => ?_)
   generalize w38.drew = w40 at S41 hHeld ⊢
   refine pu 0 42 (bits 26 1) ?_ rfl rfl (by kernel_rfl) (fun _ _ _ h => h) (by rfl) ?_ ?_ ?_ ?_
   rotate_left
   ·intro w'; go_simp; with_reducible rfl
   rotate_left
   ·simp only [Act.put, sqA, sqB, sqC, i64_w, i32_w]; rfl
   refine pu 1 43 (bits 26 3) ?_ rfl rfl (by kernel_rfl) (fun _ _ _ h => h) (by rfl) ?_ ?_ ?_ ?_
   rotate_left
   ·intro w'; go_simp; with_reducible rfl
   rotate_left
   ·simp only [Act.put, sqA, sqB, sqC, i64_w, i32_w]; rfl
   refine pu 2 44 (bits 26 7) ?_ rfl rfl (by kernel_rfl) (fun _ _ _ h => h) (by rfl) ?_ ?_ ?_ ?_
   rotate_left
   ·intro w'; go_simp; with_reducible rfl
   rotate_left
   ·simp only [Act.put, sqA, sqB, sqC, i64_w, i32_w]; rfl
   refine pu 5 47 (bits 26 39) ?_ rfl rfl (by kernel_rfl) (fun _ _ _ h => h) (by rfl) ?_ ?_ ?_ ?_
   rotate_left
   ·intro w'; go_simp; with_reducible rfl
   rotate_left
   ·simp only [Act.put, sqA, sqB, sqC, i64_w, i32_w]; rfl
   refine pu 6 48 (bits 26 103) ?_ rfl rfl (by kernel_rfl) (fun _ _ _ h => h) (by rfl) ?_ ?_ ?_ ?_
   rotate_left
   ·intro w'; go_simp; with_reducible rfl
   rotate_left
   ·simp only [Act.put, sqA, sqB, sqC, i64_w, i32_w]; rfl
   refine pu 7 49 (bits 26 231) ?_ rfl rfl (by kernel_rfl) (fun _ _ _ h => h) (by rfl) ?_ ?_ ?_ ?_
   rotate_left
   ·intro w'; go_simp; with_reducible rfl
   rotate_left
   ·simp only [Act.put, sqA, sqB, sqC, i64_w, i32_w]; rfl
   refine pu 9 51 (bits 26 743) ?_ rfl rfl (by kernel_rfl) (fun _ _ _ h => h) (by rfl) ?_ ?_ ?_ ?_
   rotate_left
   ·intro w'; go_simp; with_reducible rfl
   rotate_left
   ·simp only [Act.put, sqA, sqB, sqC, i64_w, i32_w]; rfl
   refine pu 10 52 (bits 26 1767) ?_ rfl rfl (by kernel_rfl) (fun _ _ _ h => h) (by rfl) ?_ ?_ ?_ ?_
   rotate_left
   ·intro w'; go_simp; with_reducible rfl
   rotate_left
   ·simp only [Act.put, sqA, sqB, sqC, i64_w, i32_w]; rfl
   refine pu 11 53 (bits 26 3815) ?_ rfl rfl (by kernel_rfl) (fun _ _ _ h => h) (by rfl) ?_ ?_ ?_ ?_
   rotate_left
   ·intro w'; go_simp; with_reducible rfl
   rotate_left
   ·simp only [Act.put, sqA, sqB, sqC, i64_w, i32_w]; rfl
   refine pu 15 57 (bits 26 36583) ?_ rfl rfl (by kernel_rfl) (fun _ _ _ h => h) (by rfl) ?_ ?_ ?_ ?_
   rotate_left
   ·intro w'; go_simp; with_reducible rfl
   rotate_left
   ·simp only [Act.put, sqA, sqB, sqC, i64_w, i32_w]; rfl
   refine pu 16 58 (bits 26 102119) ?_ rfl rfl (by kernel_rfl) (fun _ _ _ h => h) (by rfl) ?_ ?_ ?_ ?_
   rotate_left
   ·intro w'; go_simp; with_reducible rfl
   rotate_left
   ·simp only [Act.put, sqA, sqB, sqC, i64_w, i32_w]; rfl
   refine pu 17 59 (bits 26 233191) ?_ rfl rfl (by kernel_rfl) (fun _ _ _ h => h) (by rfl) ?_ ?_ ?_ ?_
   rotate_left
   ·intro w'; go_simp; with_reducible rfl
   rotate_left
   ·simp only [Act.put, sqA, sqB, sqC, i64_w, i32_w]; rfl
   refine pu 19 61 (bits 26 757479) ?_ rfl rfl (by kernel_rfl) (fun _ _ _ h => h) (by rfl) ?_ ?_ ?_ ?_
   rotate_left
   ·intro w'; go_simp; with_reducible rfl
   rotate_left
   ·simp only [Act.put, sqA, sqB, sqC, i64_w, i32_w]; rfl
   refine pu 20 62 (bits 26 1806055) ?_ rfl rfl (by kernel_rfl) (fun _ _ _ h => h) (by rfl) ?_ ?_ ?_ ?_
   rotate_left
   ·intro w'; go_simp; with_reducible rfl
   rotate_left
   ·simp only [Act.put, sqA, sqB, sqC, i64_w, i32_w]; rfl
   refine pu 21 63 (bits 26 3903207) ?_ rfl rfl (by kernel_rfl) (fun _ _ _ h => h) (by rfl) ?_ ?_ ?_ ?_
   rotate_left
   ·intro w'; go_simp; with_reducible rfl
   rotate_left
   ·simp only [Act.put, sqA, sqB, sqC, i64_w, i32_w]; rfl
   refine tk 3 45 (bits 26 3903215) ?_ rfl rfl (by kernel_rfl) (fun _ _ _ h => h) (by rfl) ?_ hHeld ?_ ?_ ?_
   rotate_left
   ·intro w' hw'; have s0 : w'.cell? ⟨BR, 0, none⟩ = some (.int .i64 s.id) := hw'.cell 0 0 rfl rfl; go_simp; with_reducible rfl
   rotate_left
   ·simp only [Act.put, sqA, sqB, sqC, i64_w, i32_w]; rfl
   refine pu 4 46 (bits 26 3903231) ?_ rfl rfl (by kernel_rfl) (fun _ _ _ h => h) (by rfl) ?_ ?_ ?_ ?_
   rotate_left
   ·intro w'; go_simp; with_reducible rfl
   rotate_left
   ·simp only [Act.put, sqA, sqB, sqC, i64_w, i32_w]; rfl
   refine tk 8 50 (bits 26 3903487) ?_ rfl rfl (by kernel_rfl) (fun _ _ _ h => h) (by rfl) ?_ hHeld ?_ ?_ ?_
   rotate_left
   ·intro w' hw'; have s0 : w'.cell? ⟨BR, 27, none⟩ = some (.slice (some ⟨BL, 0, none⟩) 7 7) := hw'.cell 0 27 rfl rfl; go_simp; with_reducible rfl
   rotate_left
   ·simp only [Act.put, sqA, sqB, sqC, i64_w, i32_w]; rfl
   refine tk 12 54 (bits 26 3907583) ?_ rfl rfl (by kernel_rfl) (fun _ _ _ h => h) (by rfl) ?_ hHeld ?_ ?_ ?_
   rotate_left
   ·intro w' hw'; have s0 : w'.cell? ⟨BR, 4, none⟩ = some (.int .i64 s.group) := hw'.cell 0 4 rfl rfl; go_simp; with_reducible rfl
   rotate_left
   ·simp only [Act.put, sqA, sqB, sqC, i64_w, i32_w]; rfl
   refine pure_ (i := 13) (N := some 55) (a' := ?_) (bits 26 3915775) rfl rfl (by kernel_rfl) (fun _ _ _ h => h) (yields_index (by rfl) 63 _ _ rfl rfl rfl HK.out.group1.1 (by have := HK.out.group1.2; omega) Try.underlying63 (sz := 1) (by kernel_rfl) (o' := s.group.toNat) (by simp)) ?_ ?_
   rotate_left
   ·simp only [Act.put, sqA, sqB, sqC, i64_w, i32_w]; rfl
   refine tk 14 56 (bits 26 3932159) ?_ rfl rfl (by kernel_rfl) (fun _ _ _ h => h) (by rfl) ?_ hHeld ?_ ?_ ?_
   rotate_left
   ·intro w' hw'; have s0 : w'.cell? ⟨BL, s.group.toNat, none⟩ = some (.int .i64 (getG 0 s.group ({ s with sent := true, waited := 0 }).lead)) := lead_cell hw' 1 rfl HK.out.group1; go_simp; with_reducible rfl
   rotate_left
   ·simp only [Act.put, sqA, sqB, sqC, i64_w, i32_w]; rfl
   refine tk 18 60 (bits 26 4194303) ?_ rfl rfl (by kernel_rfl) (fun _ _ _ h => h) (by rfl) ?_ hHeld ?_ ?_ ?_
   rotate_left
   ·intro w' hw'; have s0 : w'.cell? ⟨BR, 4, none⟩ = some (.int .i64 s.group) := hw'.cell 0 4 rfl rfl; go_simp; with_reducible rfl
   rotate_left
   ·simp only [Act.put, sqA, sqB, sqC, i64_w, i32_w]; rfl
   refine take_ (i := 22) (N := some 64) (a' := ?_) (bits 26 8388607) rfl rfl (by kernel_rfl) (fun _ _ _ h => h) (yields_blk (by rfl) 38 _ rfl BR 5 rfl [(.int .i64 s.cmd.f0), (.int .i64 s.cmd.f1), (.int .i64 s.cmd.f2), (.int .i64 s.cmd.f3), (.int .i64 s.cmd.f4), (.string s.cmd.f5), (.string s.cmd.f6), (.string s.cmd.f7), (.string s.cmd.f8), (.int .i64 s.cmd.f9), (.int .i64 s.cmd.f10), (.int .i64 s.cmd.f11.f0), (.string s.cmd.f11.f1), (.int .i64 s.cmd.f11.f2), (.int .i64 s.cmd.f11.f3), (.int .i64 s.cmd.f12.f0), (.int .i64 s.cmd.f12.f1), (.int .i64 s.cmd.f13), (.slice none 0 0)] rfl (fun w' hw' => hw'.blk 0 rfl) Try.underlying38 rfl (by kernel_rfl)) hHeld ?_ ?_
   rotate_left
   ·simp only [Act.put, sqA, sqB, sqC, i64_w, i32_w]; rfl
   refine pu 23 65 (bits 26 16777215) ?_ rfl rfl (by kernel_rfl) (fun _ _ _ h => h) (by rfl) ?_ ?_ ?_ ?_
   rotate_left
   ·intro w'; go_simp; with_reducible rfl
   rotate_left
   ·simp only [Act.put, sqA, sqB, sqC, i64_w, i32_w]; rfl
   refine one_ (i := 24) (N := some 66) (bits 26 33554431) rfl rfl (by kernel_rfl) (by decide) (fun K hK => ?_)
   refine st_lit_step (by rfl) (N := 66) rfl #[(.int .i64 2), (.int .i64 (-s.id)), (.int .i64 (getG 0 s.group ({ s with sent := true, waited := 0 }).lead)), (.int .i64 s.group), (.int .i64 0), (.int .i64 0), (.int .i64 0), (.int .i64 0), (.int .i64 0), (.int .i64 0), (.slice none 0 0), (.slice none 0 0), (.int .i64 s.cmd.f0), (.int .i64 s.cmd.f1), (.int .i64 s.cmd.f2), (.int .i64 s.cmd.f3), (.int .i64 s.cmd.f4), (.string s.cmd.f5), (.string s.cmd.f6), (.string s.cmd.f7), (.string s.cmd.f8), (.int .i64 s.cmd.f9), (.int .i64 s.cmd.f10), (.int .i64 s.cmd.f11.f0), (.string s.cmd.f11.f1), (.int .i64 s.cmd.f11.f2), (.int .i64 s.cmd.f11.f3), (.int .i64 s.cmd.f12.f0), (.int .i64 s.cmd.f12.f1), (.int .i64 s.cmd.f13), (.slice none 0 0), (.int .i64 0), (.int .i64 0), (.int .i64 0), (.slice none 0 0), (.slice none 0 0), (.slice none 0 0), (.int .i64 0), (.slice none 0 0), (.slice none 0 0)] 47 1 ?_ S41.out ?_
   ·first | (go_simp; done) | (go_simp; rfl) | (go_simp; exact ⟨rfl, rfl⟩)
   intro g42 w43 hg_ h_ hb_
   have S44 := Aside0.mk h_
   have BS44 := Aside0.mk hb_
   have GS44 := Aside0.mk hg_
   clear h_ hb_ hg_
   refine hK.out _ _ (((S44.out).erase 0)) ?_
   clear hHeld
   intro hHeld
   clear hK K
   refine norm_ (a' := ?_) ?_ ?_
   rotate_left
   ·show Act.put _ (some 66) _ = _; simp only [Act.put, sqA, sqB, sqC, i64_w, i32_w]; rfl
   refine pu 25 2 (bits 26 67108863) ?_ rfl rfl (by kernel_rfl) (fun _ _ _ h => h) (by rfl) ?_ ?_ ?_ ?_
   rotate_left
   ·intro w'; go_simp; with_reducible rfl
   rotate_left
   ·simp only [Act.put, sqA, sqB, sqC, i64_w, i32_w]; rfl
   refine done_ (by kernel_rfl) ?_
   clear hHeld
   go_wp2_with (fail)
   try go_ret
   have HV := Aside0.mk (show tickV s = (sendV s, [askPk (sendV s)]) by unfold tickV; rw [if_pos q1, if_neg (by rw [q3]; decide)])
   have S99 := Aside0.mk (S44.out.mono0 (fun S hS => blkRow (d := k47) (x := askPk (sendV s)) hS (k47_mkM _ _ _ (askPk (sendV s)) (Kd.R_nil _ _ _ _ _) (Kd.R_nil _ _ _ _ _) (by rw [show (askPk (sendV s)).f5.f14 = [] from HK.out.data0]; exact Kd.R_nil _ _ _ _ _) (Kd.R_nil _ _ _ _ _) (Kd.R_nil _ _ _ _ _) (Kd.R_nil _ _ _ _ _) (Kd.R_nil _ _ _ _ _) (Kd.R_nil _ _ _ _ _)) rfl))
   refine HPOST.out _ _ ?_
   unfold RTickP
   rw [HV.out]
   exact ⟨_, _, rfl, ((((S99.out).bring 0 rfl).bring 2 rfl).bring 2 rfl)⟩
 ·have Xq1 := Aside0.mk q1
  go_upto_region 1 with (fail)
  have c45 : w.cell? ⟨BR, 24, none⟩ = some (.bool false) := (show w.cell? ⟨BR, 24, none⟩ = some (.bool s.busy) from H.out.cell 0 24 rfl rfl).trans (by rw [q1])
  go_upto_region 2 with (fail)
  clear c45
  go_wp2_with (fail)
  try go_ret
  have HV := Aside0.mk (show tickV s = (s, []) by unfold tickV; rw [if_neg (by rw [q1]; decide)])
  have S99 := Aside0.mk (H.out.nilRow k47 47)
  refine HPOST.out _ _ ?_
  unfold RTickP
  rw [HV.out]
  exact ⟨_, _, rfl, ((((S99.out).bring 0 rfl).bring 2 rfl).bring 2 rfl)⟩
end Go.Proofs.Ytonedijkgddepaa.P
