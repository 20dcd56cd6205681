/- The reference's SameMsgs of two zero messages, by hand. No conditions. -/
import Derived.Test.YtonedijkgddepaaSq
import Derived.Test.YtonedijkgddepaaSepK
namespace Go.Proofs.Ytonedijkgddepaa.P
open Go.Sq
open Go.RowKit Go.Maps Go.Proofs.YtonedijkgddepaaW.PrintWords Go.Proofs.YtonedijkgddepaaW.PrintLast Go.Proofs.YtonedijkgddepaaW.PrintMore
set_option linter.unusedVariables false
set_option linter.unusedSimpArgs false

set_option maxHeartbeats 4000000 in
set_option maxRecDepth 100000 in
theorem sameMsgsT (w0 w : World) (L : List Thing) (ga gb : Nat) (Aa6 Aa7 Ab6 Ab7 : Option Addr) (ca6 ca7 cb6 cb7 : Nat) (h : St w0 w (Blk ga #[(.int .i64 0), (.int .i64 0), (.int .i64 0), (.int .i64 0), (.int .i64 0), (.int .i64 0), (.slice Aa6 0 ca6), (.slice Aa7 0 ca7)] 31 :: Blk gb #[(.int .i64 0), (.int .i64 0), (.int .i64 0), (.int .i64 0), (.int .i64 0), (.int .i64 0), (.slice Ab6 0 cb6), (.slice Ab7 0 cb7)] 31 :: L)) :
  Calls Try.prog 43 #[.slice (some ⟨ga, 0, none⟩) 1 1, .slice (some ⟨gb, 0, none⟩) 1 1] w fun e' w' => e' = .returned (.bool true) ∧ St w0 w' L := by
 have H := Aside0.mk h
 have hv1 := conv_nil Aa6 ca6
 have hv2 := conv_nil Ab6 cb6
 clear h
 refine calls_hide fun R HPOST => ?_
 go_enter Try.func43, Try.ntmps43
 go_upto_region 0 with (fail)
 go_upto_region 1 with (fail)
 go_upto_region 3 with (fail)
 go_wp2_with (fail)
 refine wp_loop_round ?_
 refine round_unroll ?_
 go_upto_region 4 with (fail)
 go_upto_region 6 with (fail)
 have S2 := Aside0.mk H.out.drew
 refine start_ (n := 12) (S := fun w' => St w0 w' (Blk ga #[(.int .i64 0), (.int .i64 0), (.int .i64 0), (.int .i64 0), (.int .i64 0), (.int .i64 0), (.slice Aa6 0 ca6), (.slice Aa7 0 ca7)] 31 :: Blk gb #[(.int .i64 0), (.int .i64 0), (.int .i64 0), (.int .i64 0), (.int .i64 0), (.int .i64 0), (.slice Ab6 0 cb6), (.slice Ab7 0 cb7)] 31 :: L)) (ds := [11]) (bits 12 0) (by kernel_rfl) rfl rfl (H.out).drew (fun hHeld => ?_)
 generalize w.drew = w1 at S2 hHeld ⊢
 refine pu 0 19 (bits 12 1) ?_ rfl rfl (by kernel_rfl) (fun _ _ _ h => h) (by rfl) ?_ ?_ ?_ ?_
 rotate_left
 ·intro w'; go_simp; with_reducible rfl
 rotate_left
 ·simp only [Act.put, sqA, sqB, sqC, i64_w, i32_w]; rfl
 refine pu 1 20 (bits 12 3) ?_ rfl rfl (by kernel_rfl) (fun _ _ _ h => h) (by rfl) ?_ ?_ ?_ ?_
 rotate_left
 ·intro w'; go_simp; with_reducible rfl
 rotate_left
 ·simp only [Act.put, sqA, sqB, sqC, i64_w, i32_w]; rfl
 refine pu 2 21 (bits 12 7) ?_ rfl rfl (by kernel_rfl) (fun _ _ _ h => h) (by rfl) ?_ ?_ ?_ ?_
 rotate_left
 ·intro w'; go_simp; with_reducible rfl
 rotate_left
 ·simp only [Act.put, sqA, sqB, sqC, i64_w, i32_w]; rfl
 refine pu 4 23 (bits 12 23) ?_ rfl rfl (by kernel_rfl) (fun _ _ _ h => h) (by rfl) ?_ ?_ ?_ ?_
 rotate_left
 ·intro w'; go_simp; with_reducible rfl
 rotate_left
 ·simp only [Act.put, sqA, sqB, sqC, i64_w, i32_w]; rfl
 refine pu 5 24 (bits 12 55) ?_ rfl rfl (by kernel_rfl) (fun _ _ _ h => h) (by rfl) ?_ ?_ ?_ ?_
 rotate_left
 ·intro w'; go_simp; with_reducible rfl
 rotate_left
 ·simp only [Act.put, sqA, sqB, sqC, i64_w, i32_w]; rfl
 refine pu 6 25 (bits 12 119) ?_ rfl rfl (by kernel_rfl) (fun _ _ _ h => h) (by rfl) ?_ ?_ ?_ ?_
 rotate_left
 ·intro w'; go_simp; with_reducible rfl
 rotate_left
 ·simp only [Act.put, sqA, sqB, sqC, i64_w, i32_w]; rfl
 refine take_ (i := 3) (N := some 22) (a' := ?_) (bits 12 127) rfl rfl (by kernel_rfl) (fun _ _ _ h => h) (yields_blk (by rfl) 31 _ rfl ga 0 rfl [(.int .i64 0), (.int .i64 0), (.int .i64 0), (.int .i64 0), (.int .i64 0), (.int .i64 0), (.slice Aa6 0 ca6), (.slice Aa7 0 ca7)] rfl (fun w' hw' => hw'.blk 0 rfl) Try.underlying31 rfl (by kernel_rfl)) hHeld ?_ ?_
 rotate_left
 ·simp only [Act.put, sqA, sqB, sqC, i64_w, i32_w]; rfl
 refine take_ (i := 7) (N := some 26) (a' := ?_) (bits 12 255) rfl rfl (by kernel_rfl) (fun _ _ _ h => h) (yields_blk (by rfl) 31 _ rfl gb 0 rfl [(.int .i64 0), (.int .i64 0), (.int .i64 0), (.int .i64 0), (.int .i64 0), (.int .i64 0), (.slice Ab6 0 cb6), (.slice Ab7 0 cb7)] rfl (fun w' hw' => hw'.blk 1 rfl) Try.underlying31 rfl (by kernel_rfl)) hHeld ?_ ?_
 rotate_left
 ·simp only [Act.put, sqA, sqB, sqC, i64_w, i32_w]; rfl
 refine join_ (σ := Nat × List Value) 2 (bits 12 1023) (fun s => [(6, .pointer (some ⟨s.1, 0, none⟩)), (7, s.2.getD 0 undef)]) (fun s w' => ∃ (g4 : Nat) , s.2 = [(.pointer (some ⟨g4, 0, none⟩))] ∧ St w0 w' (Blk s.1 #[(.int .i64 0), (.int .i64 0), (.int .i64 0), (.int .i64 0), (.int .i64 0), (.int .i64 0), (.slice none 0 0), (.slice none 0 0)] 31 :: Blk g4 #[(.int .i64 0), (.int .i64 0), (.int .i64 0), (.int .i64 0), (.int .i64 0), (.int .i64 0), (.slice none 0 0), (.slice none 0 0)] 31 :: Blk ga #[(.int .i64 0), (.int .i64 0), (.int .i64 0), (.int .i64 0), (.int .i64 0), (.int .i64 0), (.slice Aa6 0 ca6), (.slice Aa7 0 ca7)] 31 :: Blk gb #[(.int .i64 0), (.int .i64 0), (.int .i64 0), (.int .i64 0), (.int .i64 0), (.int .i64 0), (.slice Ab6 0 cb6), (.slice Ab7 0 cb7)] 31 :: L)) ?_ ?_
 rotate_left
 ·intro hC
  refine two_ (i := 8) (j := 9) (Ni := some 6) (Nj := some 7) (bits 12 511) (bits 12 767) rfl rfl rfl rfl (by kernel_rfl) (by decide) (by decide) ?_ ?_
  ·refine fun K hK => ?_
   refine st_box_step (by rfl) (N := 6) rfl #[(.int .i64 0), (.int .i64 0), (.int .i64 0), (.int .i64 0), (.int .i64 0), (.int .i64 0), (.slice none 0 0), (.slice none 0 0)] 31 ?_ S2.out ?_
   ·first | (go_simp; done) | (go_simp; rfl)
   intro g10 w11 hg_ h_ hb_
   have S12 := Aside0.mk h_
   have BS12 := Aside0.mk hb_
   have GS12 := Aside0.mk hg_
   clear h_ hb_ hg_
   refine hK.out _ _ (((S12.out).erase 0)) ?_
   clear hHeld
   intro hHeld
   clear hK K
   refine norm_ (a' := ?_) ?_ ?_
   rotate_left
   ·show Act.put _ (some 6) _ = _; simp only [Act.put, sqA, sqB, sqC, i64_w, i32_w]; rfl
   refine one_ (i := 9) (N := some 7) (bits 12 1023) rfl rfl (by kernel_rfl) (by decide) (fun K hK => ?_)
   refine st_box_step (by rfl) (N := 7) rfl #[(.int .i64 0), (.int .i64 0), (.int .i64 0), (.int .i64 0), (.int .i64 0), (.int .i64 0), (.slice none 0 0), (.slice none 0 0)] 31 ?_ S12.out ?_
   ·first | (go_simp; done) | (go_simp; rfl)
   intro g13 w14 hg_ h_ hb_
   have S15 := Aside0.mk h_
   have BS15 := Aside0.mk hb_
   have GS15 := Aside0.mk hg_
   clear h_ hb_ hg_
   refine hK.out _ _ ((((S15.out).erase 1).erase 0)) ?_
   clear hHeld
   intro hHeld
   clear hK K
   refine norm_ (a' := ?_) ?_ ?_
   rotate_left
   ·show Act.put _ (some 7) _ = _; simp only [Act.put, sqA, sqB, sqC, i64_w, i32_w]; rfl
   exact hC ⟨g10, [(.pointer (some ⟨g13, 0, none⟩))]⟩ w14 ⟨g13, rfl, (((((S15.out).bring 3 rfl).bring 3 rfl).bring 2 rfl).bring 3 rfl)⟩
  ·refine fun K hK => ?_
   refine st_box_step (by rfl) (N := 7) rfl #[(.int .i64 0), (.int .i64 0), (.int .i64 0), (.int .i64 0), (.int .i64 0), (.int .i64 0), (.slice none 0 0), (.slice none 0 0)] 31 ?_ S2.out ?_
   ·first | (go_simp; done) | (go_simp; rfl)
   intro g4 w5 hg_ h_ hb_
   have S6 := Aside0.mk h_
   have BS6 := Aside0.mk hb_
   have GS6 := Aside0.mk hg_
   clear h_ hb_ hg_
   refine hK.out _ _ (((S6.out).erase 0)) ?_
   clear hHeld
   intro hHeld
   clear hK K
   refine norm_ (a' := ?_) ?_ ?_
   rotate_left
   ·show Act.put _ (some 7) _ = _; simp only [Act.put, sqA, sqB, sqC, i64_w, i32_w]; rfl
   refine one_ (i := 8) (N := some 6) (bits 12 1023) rfl rfl (by kernel_rfl) (by decide) (fun K hK => ?_)
   refine st_box_step (by rfl) (N := 6) rfl #[(.int .i64 0), (.int .i64 0), (.int .i64 0), (.int .i64 0), (.int .i64 0), (.int .i64 0), (.slice none 0 0), (.slice none 0 0)] 31 ?_ S6.out ?_
   ·first | (go_simp; done) | (go_simp; rfl)
   intro g7 w8 hg_ h_ hb_
   have S9 := Aside0.mk h_
   have BS9 := Aside0.mk hb_
   have GS9 := Aside0.mk hg_
   clear h_ hb_ hg_
   refine hK.out _ _ ((((S9.out).erase 1).erase 0)) ?_
   clear hHeld
   intro hHeld
   clear hK K
   refine norm_ (a' := ?_) ?_ ?_
   rotate_left
   ·show Act.put _ (some 6) _ = _; simp only [Act.put, sqA, sqB, sqC, i64_w, i32_w]; rfl
   exact hC ⟨g7, [(.pointer (some ⟨g4, 0, none⟩))]⟩ w8 ⟨g4, rfl, (S9.out)⟩
 rintro ⟨g7, _⟩ w16 ⟨g4, rfl, h_⟩
 have S17 := Aside0.mk h_
 clear h_ hHeld
 have hHeld := ((((S17.out).erase 1).erase 0))
 refine norm_ (a' := ?_) ?_ ?_
 rotate_left
 ·simp only [putAll, List.getD_cons_zero, List.getD_cons_succ, Act.put, List.setIfInBounds_toArray, List.set_cons_zero, List.set_cons_succ, i64_w, i32_w]; rfl
 refine one_ (i := 10) (N := none) (bits 12 2047) rfl rfl (by kernel_rfl) (by decide) (fun K hK => ?_)
 refine st_store_step (by rfl) rfl 31 _ _ rfl rfl rfl (seg := [(.int .i64 0), (.int .i64 0), (.int .i64 0), (.int .i64 0), (.int .i64 0), (.int .i64 0), (.slice Aa6 0 ca6), (.slice Aa7 0 ca7)]) rfl (by kernel_rfl) (by rfl) S17.out 0 rfl (Nat.le_of_ble_eq_true rfl) ?_
 intro w18 h_ hu_
 have S19 : Aside0 (St w0 w18 (Blk g7 #[(.int .i64 0), (.int .i64 0), (.int .i64 0), (.int .i64 0), (.int .i64 0), (.int .i64 0), (.slice Aa6 0 ca6), (.slice Aa7 0 ca7)] 31 :: Blk g4 #[(.int .i64 0), (.int .i64 0), (.int .i64 0), (.int .i64 0), (.int .i64 0), (.int .i64 0), (.slice none 0 0), (.slice none 0 0)] 31 :: Blk ga #[(.int .i64 0), (.int .i64 0), (.int .i64 0), (.int .i64 0), (.int .i64 0), (.int .i64 0), (.slice Aa6 0 ca6), (.slice Aa7 0 ca7)] 31 :: Blk gb #[(.int .i64 0), (.int .i64 0), (.int .i64 0), (.int .i64 0), (.int .i64 0), (.int .i64 0), (.slice Ab6 0 cb6), (.slice Ab7 0 cb7)] 31 :: L)) := Aside0.mk h_
 clear h_ hu_
 refine hK.out _ _ ((((S19.out).erase 1).erase 0)) ?_
 clear hHeld
 intro hHeld
 clear hK K
 refine last_ (i := 11) (N := none) (bits 12 4095) rfl rfl (by kernel_rfl) (by decide) (fun K hK => ?_)
 refine st_store_step (by rfl) rfl 31 _ _ rfl rfl rfl (seg := [(.int .i64 0), (.int .i64 0), (.int .i64 0), (.int .i64 0), (.int .i64 0), (.int .i64 0), (.slice Ab6 0 cb6), (.slice Ab7 0 cb7)]) rfl (by kernel_rfl) (by rfl) S19.out 1 rfl (Nat.le_of_ble_eq_true rfl) ?_
 intro w20 h_ hu_
 have S21 : Aside0 (St w0 w20 (Blk g7 #[(.int .i64 0), (.int .i64 0), (.int .i64 0), (.int .i64 0), (.int .i64 0), (.int .i64 0), (.slice Aa6 0 ca6), (.slice Aa7 0 ca7)] 31 :: Blk g4 #[(.int .i64 0), (.int .i64 0), (.int .i64 0), (.int .i64 0), (.int .i64 0), (.int .i64 0), (.slice Ab6 0 cb6), (.slice Ab7 0 cb7)] 31 :: Blk ga #[(.int .i64 0), (.int .i64 0), (.int .i64 0), (.int .i64 0), (.int .i64 0), (.int .i64 0), (.slice Aa6 0 ca6), (.slice Aa7 0 ca7)] 31 :: Blk gb #[(.int .i64 0), (.int .i64 0), (.int .i64 0), (.int .i64 0), (.int .i64 0), (.int .i64 0), (.slice Ab6 0 cb6), (.slice Ab7 0 cb7)] 31 :: L)) := Aside0.mk h_
 clear h_ hu_
 refine hK.out _ _ ?_
 clear hK K
 refine done_ (by kernel_rfl) ?_
 clear hHeld
 go_upto_region 7 with (fail)
 have cf_22 : w20.cell? ⟨g7, 0, none⟩ = some (.int .i64 0) := S21.out.cell 0 0 rfl rfl
 have cf_23 : w20.cell? ⟨g4, 0, none⟩ = some (.int .i64 0) := S21.out.cell 1 0 rfl rfl
 have cf_24 : w20.cell? ⟨g7, 1, none⟩ = some (.int .i64 0) := S21.out.cell 0 1 rfl rfl
 have cf_25 : w20.cell? ⟨g4, 1, none⟩ = some (.int .i64 0) := S21.out.cell 1 1 rfl rfl
 have cf_26 : w20.cell? ⟨g7, 2, none⟩ = some (.int .i64 0) := S21.out.cell 0 2 rfl rfl
 have cf_27 : w20.cell? ⟨g4, 2, none⟩ = some (.int .i64 0) := S21.out.cell 1 2 rfl rfl
 have cf_28 : w20.cell? ⟨g7, 3, none⟩ = some (.int .i64 0) := S21.out.cell 0 3 rfl rfl
 have cf_29 : w20.cell? ⟨g4, 3, none⟩ = some (.int .i64 0) := S21.out.cell 1 3 rfl rfl
 have cf_30 : w20.cell? ⟨g7, 4, none⟩ = some (.int .i64 0) := S21.out.cell 0 4 rfl rfl
 have cf_31 : w20.cell? ⟨g4, 4, none⟩ = some (.int .i64 0) := S21.out.cell 1 4 rfl rfl
 have cf_32 : w20.cell? ⟨g7, 5, none⟩ = some (.int .i64 0) := S21.out.cell 0 5 rfl rfl
 have cf_33 : w20.cell? ⟨g4, 5, none⟩ = some (.int .i64 0) := S21.out.cell 1 5 rfl rfl
 have cf_34 : w20.cell? ⟨g7, 6, none⟩ = some (.slice Aa6 0 ca6) := S21.out.cell 0 6 rfl rfl
 have cf_35 : w20.cell? ⟨g4, 6, none⟩ = some (.slice Ab6 0 cb6) := S21.out.cell 1 6 rfl rfl
 have cf_36 : w20.cell? ⟨g7, 7, none⟩ = some (.slice Aa7 0 ca7) := S21.out.cell 0 7 rfl rfl
 have cf_37 : w20.cell? ⟨g4, 7, none⟩ = some (.slice Ab7 0 cb7) := S21.out.cell 1 7 rfl rfl
 go_upto_region 5 with (first | (go_at_call 57; (refine (racewayref09_SameVotes.calls 3 Aa7 ca7 [] Ab7 cb7 [] true _ (C_zero _ _ _) (Nat.zero_le _) (C_zero _ _ _) (Nat.zero_le _) votes_nil).mono ?_); rintro e1 w39 ⟨rfl, hb_⟩; clear cf_22 cf_23 cf_24 cf_25 cf_26 cf_27 cf_28 cf_29 cf_30 cf_31 cf_32 cf_33 cf_34 cf_35 cf_36 cf_37; have S38 := Aside0.mk (S21.out.below hb_.below); clear hb_))
 go_wp2_with (fail)
 refine round_unroll ?_
 go_upto_region 4 with (fail)
 go_upto_region 9 with (fail)
 go_wp2_with (fail)
 try go_ret
 refine HPOST.out _ _ ?_
 exact ⟨rfl, (((((S38.out).erase 3).erase 2).erase 1).erase 0)⟩
end Go.Proofs.Ytonedijkgddepaa.P
