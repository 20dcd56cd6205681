/- The reference's SamePackets of rows of the same packet, by hand. No conditions. -/
import Derived.Test.YtonedijkgddepaaSq
import Derived.Test.YtonedijkgddepaaRI
import Derived.Test.YtonedijkgddepaaRKC
namespace Go.Proofs.Ytonedijkgddepaa.P
open Go.Sq
open Go.RowKit Go.Maps Go.Proofs.YtonedijkgddepaaW.PrintWords Go.Proofs.YtonedijkgddepaaW.PrintLast Go.Proofs.YtonedijkgddepaaW.PrintMore
set_option linter.unusedVariables false
set_option linter.unusedSimpArgs false

def pkL (x0 x1 x2 x3 : Int) (xc : S38) (A10 : Option Addr) (c10 : Nat) (A11 : Option Addr) (c11 : Nat) (A30 : Option Addr) (c30 : Nat) (A34 : Option Addr) (c34 : Nat) (A35 : Option Addr) (c35 : Nat) (A36 : Option Addr) (c36 : Nat) (A38 : Option Addr) (c38 : Nat) (A39 : Option Addr) (c39 : Nat) : List Value := [(.int .i64 x0), (.int .i64 x1), (.int .i64 x2), (.int .i64 x3), (.int .i64 0), (.int .i64 0), (.int .i64 0), (.int .i64 0), (.int .i64 0), (.int .i64 0), (.slice A10 0 c10), (.slice A11 0 c11), (.int .i64 xc.f0), (.int .i64 xc.f1), (.int .i64 xc.f2), (.int .i64 xc.f3), (.int .i64 xc.f4), (.string xc.f5), (.string xc.f6), (.string xc.f7), (.string xc.f8), (.int .i64 xc.f9), (.int .i64 xc.f10), (.int .i64 xc.f11.f0), (.string xc.f11.f1), (.int .i64 xc.f11.f2), (.int .i64 xc.f11.f3), (.int .i64 xc.f12.f0), (.int .i64 xc.f12.f1), (.int .i64 xc.f13), (.slice A30 0 c30), (.int .i64 0), (.int .i64 0), (.int .i64 0), (.slice A34 0 c34), (.slice A35 0 c35), (.slice A36 0 c36), (.int .i64 0), (.slice A38 0 c38), (.slice A39 0 c39)]
/-- A packet of a command alone. -/
def cmdPk (x0 x1 x2 x3 : Int) (xc : S38) : S47 := ⟨x0, x1, x2, x3, z31, xc, z42, z45, []⟩
set_option maxHeartbeats 4000000 in
set_option maxRecDepth 100000 in
theorem samePkB (w0 w : World) (L : List Thing) (ga gb na nb : Nat) (x0 x1 x2 x3 : Int) (xc : S38) (Aa10 : Option Addr) (ca10 : Nat) (Aa11 : Option Addr) (ca11 : Nat) (Aa30 : Option Addr) (ca30 : Nat) (Aa34 : Option Addr) (ca34 : Nat) (Aa35 : Option Addr) (ca35 : Nat) (Aa36 : Option Addr) (ca36 : Nat) (Aa38 : Option Addr) (ca38 : Nat) (Aa39 : Option Addr) (ca39 : Nat) (Ab10 : Option Addr) (cb10 : Nat) (Ab11 : Option Addr) (cb11 : Nat) (Ab30 : Option Addr) (cb30 : Nat) (Ab34 : Option Addr) (cb34 : Nat) (Ab35 : Option Addr) (cb35 : Nat) (Ab36 : Option Addr) (cb36 : Nat) (Ab38 : Option Addr) (cb38 : Nat) (Ab39 : Option Addr) (cb39 : Nat) (ra rb : List Value) (h : St w0 w (Blk ga ((pkL x0 x1 x2 x3 xc Aa10 ca10 Aa11 ca11 Aa30 ca30 Aa34 ca34 Aa35 ca35 Aa36 ca36 Aa38 ca38 Aa39 ca39) ++ ra).toArray 47 :: Blk gb ((pkL x0 x1 x2 x3 xc Ab10 cb10 Ab11 cb11 Ab30 cb30 Ab34 cb34 Ab35 cb35 Ab36 cb36 Ab38 cb38 Ab39 cb39) ++ rb).toArray 47 :: L)) :
  Calls Try.prog 21 #[.slice (some ⟨ga, 0, none⟩) 1 na, .slice (some ⟨gb, 0, none⟩) 1 nb] w fun e' w' => e' = .returned (.bool true) ∧ St w0 w' L := by
 have H := Aside0.mk h
 clear h
 refine calls_hide fun R HPOST => ?_
 go_enter Try.func21, Try.ntmps21
 go_upto_region 0 with (fail)
 go_upto_region 1 with (fail)
 go_upto_region 3 with (fail)
 go_wp2_with (fail)
 refine wp_loop_round ?_
 refine round_unroll ?_
 go_upto_region 4 with (fail)
 go_upto_region 6 with (fail)
 have S2 := Aside0.mk H.out.drew
 refine start_ (n := 12) (S := fun w' => St w0 w' (Blk ga ((pkL x0 x1 x2 x3 xc Aa10 ca10 Aa11 ca11 Aa30 ca30 Aa34 ca34 Aa35 ca35 Aa36 ca36 Aa38 ca38 Aa39 ca39) ++ ra).toArray 47 :: Blk gb ((pkL x0 x1 x2 x3 xc Ab10 cb10 Ab11 cb11 Ab30 cb30 Ab34 cb34 Ab35 cb35 Ab36 cb36 Ab38 cb38 Ab39 cb39) ++ rb).toArray 47 :: L)) (ds := [11]) (bits 12 0) (by kernel_rfl) rfl rfl (H.out).drew (fun hHeld => ?_)
 generalize w.drew = w1 at S2 hHeld ⊢
 refine pu 0 19 (bits 12 1) ?_ rfl rfl (by kernel_rfl) (fun _ _ _ h => h) (by rfl) ?_ ?_ ?_ ?_
 rotate_left
 ·intro w'; go_simp; with_reducible rfl
 rotate_left
 ·simp only [Act.put, sqA, sqB, sqC, i64_w, i32_w]; rfl
 refine pu 1 20 (bits 12 3) ?_ rfl rfl (by kernel_rfl) (fun _ _ _ h => h) (by rfl) ?_ ?_ ?_ ?_
 rotate_left
 ·intro w'; go_simp; with_reducible rfl
 rotate_left
 ·simp only [Act.put, sqA, sqB, sqC, i64_w, i32_w]; rfl
 refine pu 2 21 (bits 12 7) ?_ rfl rfl (by kernel_rfl) (fun _ _ _ h => h) (by rfl) ?_ ?_ ?_ ?_
 rotate_left
 ·intro w'; go_simp; with_reducible rfl
 rotate_left
 ·simp only [Act.put, sqA, sqB, sqC, i64_w, i32_w]; rfl
 refine pu 4 23 (bits 12 23) ?_ rfl rfl (by kernel_rfl) (fun _ _ _ h => h) (by rfl) ?_ ?_ ?_ ?_
 rotate_left
 ·intro w'; go_simp; with_reducible rfl
 rotate_left
 ·simp only [Act.put, sqA, sqB, sqC, i64_w, i32_w]; rfl
 refine pu 5 24 (bits 12 55) ?_ rfl rfl (by kernel_rfl) (fun _ _ _ h => h) (by rfl) ?_ ?_ ?_ ?_
 rotate_left
 ·intro w'; go_simp; with_reducible rfl
 rotate_left
 ·simp only [Act.put, sqA, sqB, sqC, i64_w, i32_w]; rfl
 refine pu 6 25 (bits 12 119) ?_ rfl rfl (by kernel_rfl) (fun _ _ _ h => h) (by rfl) ?_ ?_ ?_ ?_
 rotate_left
 ·intro w'; go_simp; with_reducible rfl
 rotate_left
 ·simp only [Act.put, sqA, sqB, sqC, i64_w, i32_w]; rfl
 refine take_ (i := 3) (N := some 22) (a' := ?_) (bits 12 127) rfl rfl (by kernel_rfl) (fun _ _ _ h => h) (yields_blk (by rfl) 47 _ rfl ga 0 rfl [(.int .i64 x0), (.int .i64 x1), (.int .i64 x2), (.int .i64 x3), (.int .i64 0), (.int .i64 0), (.int .i64 0), (.int .i64 0), (.int .i64 0), (.int .i64 0), (.slice Aa10 0 ca10), (.slice Aa11 0 ca11), (.int .i64 xc.f0), (.int .i64 xc.f1), (.int .i64 xc.f2), (.int .i64 xc.f3), (.int .i64 xc.f4), (.string xc.f5), (.string xc.f6), (.string xc.f7), (.string xc.f8), (.int .i64 xc.f9), (.int .i64 xc.f10), (.int .i64 xc.f11.f0), (.string xc.f11.f1), (.int .i64 xc.f11.f2), (.int .i64 xc.f11.f3), (.int .i64 xc.f12.f0), (.int .i64 xc.f12.f1), (.int .i64 xc.f13), (.slice Aa30 0 ca30), (.int .i64 0), (.int .i64 0), (.int .i64 0), (.slice Aa34 0 ca34), (.slice Aa35 0 ca35), (.slice Aa36 0 ca36), (.int .i64 0), (.slice Aa38 0 ca38), (.slice Aa39 0 ca39)] rfl (fun w' hw' => hw'.blk 0 rfl) Try.underlying47 rfl (by kernel_rfl)) hHeld ?_ ?_
 rotate_left
 ·simp only [Act.put, sqA, sqB, sqC, i64_w, i32_w]; rfl
 refine take_ (i := 7) (N := some 26) (a' := ?_) (bits 12 255) rfl rfl (by kernel_rfl) (fun _ _ _ h => h) (yields_blk (by rfl) 47 _ rfl gb 0 rfl [(.int .i64 x0), (.int .i64 x1), (.int .i64 x2), (.int .i64 x3), (.int .i64 0), (.int .i64 0), (.int .i64 0), (.int .i64 0), (.int .i64 0), (.int .i64 0), (.slice Ab10 0 cb10), (.slice Ab11 0 cb11), (.int .i64 xc.f0), (.int .i64 xc.f1), (.int .i64 xc.f2), (.int .i64 xc.f3), (.int .i64 xc.f4), (.string xc.f5), (.string xc.f6), (.string xc.f7), (.string xc.f8), (.int .i64 xc.f9), (.int .i64 xc.f10), (.int .i64 xc.f11.f0), (.string xc.f11.f1), (.int .i64 xc.f11.f2), (.int .i64 xc.f11.f3), (.int .i64 xc.f12.f0), (.int .i64 xc.f12.f1), (.int .i64 xc.f13), (.slice Ab30 0 cb30), (.int .i64 0), (.int .i64 0), (.int .i64 0), (.slice Ab34 0 cb34), (.slice Ab35 0 cb35), (.slice Ab36 0 cb36), (.int .i64 0), (.slice Ab38 0 cb38), (.slice Ab39 0 cb39)] rfl (fun w' hw' => hw'.blk 1 rfl) Try.underlying47 rfl (by kernel_rfl)) hHeld ?_ ?_
 rotate_left
 ·simp only [Act.put, sqA, sqB, sqC, i64_w, i32_w]; rfl
 refine join_ (σ := Nat × List Value) 2 (bits 12 1023) (fun s => [(6, .pointer (some ⟨s.1, 0, none⟩)), (7, s.2.getD 0 undef)]) (fun s w' => ∃ (g4 : Nat) , s.2 = [(.pointer (some ⟨g4, 0, none⟩))] ∧ St w0 w' (Blk s.1 (pkA z47 (.slice none 0 0) (.slice none 0 0) (.slice none 0 0) none 0 none 0 none 0 (.slice none 0 0)) 47 :: Blk g4 (pkA z47 (.slice none 0 0) (.slice none 0 0) (.slice none 0 0) none 0 none 0 none 0 (.slice none 0 0)) 47 :: Blk ga ((pkL x0 x1 x2 x3 xc Aa10 ca10 Aa11 ca11 Aa30 ca30 Aa34 ca34 Aa35 ca35 Aa36 ca36 Aa38 ca38 Aa39 ca39) ++ ra).toArray 47 :: Blk gb ((pkL x0 x1 x2 x3 xc Ab10 cb10 Ab11 cb11 Ab30 cb30 Ab34 cb34 Ab35 cb35 Ab36 cb36 Ab38 cb38 Ab39 cb39) ++ rb).toArray 47 :: L)) ?_ ?_
 rotate_left
 ·intro hC
  refine two_ (i := 8) (j := 9) (Ni := some 6) (Nj := some 7) (bits 12 511) (bits 12 767) rfl rfl rfl rfl (by kernel_rfl) (by decide) (by decide) ?_ ?_
  ·refine fun K hK => ?_
   refine st_box_step (by rfl) (N := 6) rfl (pkA z47 (.slice none 0 0) (.slice none 0 0) (.slice none 0 0) none 0 none 0 none 0 (.slice none 0 0)) 47 ?_ S2.out ?_
   ·first | (go_simp; done) | (go_simp; rfl)
   intro g10 w11 hg_ h_ hb_
   have S12 := Aside0.mk h_
   have BS12 := Aside0.mk hb_
   have GS12 := Aside0.mk hg_
   clear h_ hb_ hg_
   refine hK.out _ _ (((S12.out).erase 0)) ?_
   clear hHeld
   intro hHeld
   clear hK K
   refine norm_ (a' := ?_) ?_ ?_
   rotate_left
   ·show Act.put _ (some 6) _ = _; simp only [Act.put, sqA, sqB, sqC, i64_w, i32_w]; rfl
   refine one_ (i := 9) (N := some 7) (bits 12 1023) rfl rfl (by kernel_rfl) (by decide) (fun K hK => ?_)
   refine st_box_step (by rfl) (N := 7) rfl (pkA z47 (.slice none 0 0) (.slice none 0 0) (.slice none 0 0) none 0 none 0 none 0 (.slice none 0 0)) 47 ?_ S12.out ?_
   ·first | (go_simp; done) | (go_simp; rfl)
   intro g13 w14 hg_ h_ hb_
   have S15 := Aside0.mk h_
   have BS15 := Aside0.mk hb_
   have GS15 := Aside0.mk hg_
   clear h_ hb_ hg_
   refine hK.out _ _ ((((S15.out).erase 1).erase 0)) ?_
   clear hHeld
   intro hHeld
   clear hK K
   refine norm_ (a' := ?_) ?_ ?_
   rotate_left
   ·show Act.put _ (some 7) _ = _; simp only [Act.put, sqA, sqB, sqC, i64_w, i32_w]; rfl
   exact hC ⟨g10, [(.pointer (some ⟨g13, 0, none⟩))]⟩ w14 ⟨g13, rfl, (((((S15.out).bring 3 rfl).bring 3 rfl).bring 2 rfl).bring 3 rfl)⟩
  ·refine fun K hK => ?_
   refine st_box_step (by rfl) (N := 7) rfl (pkA z47 (.slice none 0 0) (.slice none 0 0) (.slice none 0 0) none 0 none 0 none 0 (.slice none 0 0)) 47 ?_ S2.out ?_
   ·first | (go_simp; done) | (go_simp; rfl)
   intro g4 w5 hg_ h_ hb_
   have S6 := Aside0.mk h_
   have BS6 := Aside0.mk hb_
   have GS6 := Aside0.mk hg_
   clear h_ hb_ hg_
   refine hK.out _ _ (((S6.out).erase 0)) ?_
   clear hHeld
   intro hHeld
   clear hK K
   refine norm_ (a' := ?_) ?_ ?_
   rotate_left
   ·show Act.put _ (some 7) _ = _; simp only [Act.put, sqA, sqB, sqC, i64_w, i32_w]; rfl
   refine one_ (i := 8) (N := some 6) (bits 12 1023) rfl rfl (by kernel_rfl) (by decide) (fun K hK => ?_)
   refine st_box_step (by rfl) (N := 6) rfl (pkA z47 (.slice none 0 0) (.slice none 0 0) (.slice none 0 0) none 0 none 0 none 0 (.slice none 0 0)) 47 ?_ S6.out ?_
   ·first | (go_simp; done) | (go_simp; rfl)
   intro g7 w8 hg_ h_ hb_
   have S9 := Aside0.mk h_
   have BS9 := Aside0.mk hb_
   have GS9 := Aside0.mk hg_
   clear h_ hb_ hg_
   refine hK.out _ _ ((((S9.out).erase 1).erase 0)) ?_
   clear hHeld
   intro hHeld
   clear hK K
   refine norm_ (a' := ?_) ?_ ?_
   rotate_left
   ·show Act.put _ (some 6) _ = _; simp only [Act.put, sqA, sqB, sqC, i64_w, i32_w]; rfl
   exact hC ⟨g7, [(.pointer (some ⟨g4, 0, none⟩))]⟩ w8 ⟨g4, rfl, (S9.out)⟩
 rintro ⟨g7, _⟩ w16 ⟨g4, rfl, h_⟩
 have S17 := Aside0.mk h_
 clear h_ hHeld
 have hHeld := ((((S17.out).erase 1).erase 0))
 refine norm_ (a' := ?_) ?_ ?_
 rotate_left
 ·simp only [putAll, List.getD_cons_zero, List.getD_cons_succ, Act.put, List.setIfInBounds_toArray, List.set_cons_zero, List.set_cons_succ, i64_w, i32_w]; rfl
 refine one_ (i := 10) (N := none) (bits 12 2047) rfl rfl (by kernel_rfl) (by decide) (fun K hK => ?_)
 refine st_store_step (by rfl) rfl 47 _ _ rfl rfl rfl (seg := [(.int .i64 x0), (.int .i64 x1), (.int .i64 x2), (.int .i64 x3), (.int .i64 0), (.int .i64 0), (.int .i64 0), (.int .i64 0), (.int .i64 0), (.int .i64 0), (.slice Aa10 0 ca10), (.slice Aa11 0 ca11), (.int .i64 xc.f0), (.int .i64 xc.f1), (.int .i64 xc.f2), (.int .i64 xc.f3), (.int .i64 xc.f4), (.string xc.f5), (.string xc.f6), (.string xc.f7), (.string xc.f8), (.int .i64 xc.f9), (.int .i64 xc.f10), (.int .i64 xc.f11.f0), (.string xc.f11.f1), (.int .i64 xc.f11.f2), (.int .i64 xc.f11.f3), (.int .i64 xc.f12.f0), (.int .i64 xc.f12.f1), (.int .i64 xc.f13), (.slice Aa30 0 ca30), (.int .i64 0), (.int .i64 0), (.int .i64 0), (.slice Aa34 0 ca34), (.slice Aa35 0 ca35), (.slice Aa36 0 ca36), (.int .i64 0), (.slice Aa38 0 ca38), (.slice Aa39 0 ca39)]) rfl (by kernel_rfl) (by rfl) S17.out 0 rfl (Nat.le_of_ble_eq_true rfl) ?_
 intro w18 h_ hu_
 have S19 : Aside0 (St w0 w18 (Blk g7 (pkL x0 x1 x2 x3 xc Aa10 ca10 Aa11 ca11 Aa30 ca30 Aa34 ca34 Aa35 ca35 Aa36 ca36 Aa38 ca38 Aa39 ca39).toArray 47 :: Blk g4 (pkA z47 (.slice none 0 0) (.slice none 0 0) (.slice none 0 0) none 0 none 0 none 0 (.slice none 0 0)) 47 :: Blk ga ((pkL x0 x1 x2 x3 xc Aa10 ca10 Aa11 ca11 Aa30 ca30 Aa34 ca34 Aa35 ca35 Aa36 ca36 Aa38 ca38 Aa39 ca39) ++ ra).toArray 47 :: Blk gb ((pkL x0 x1 x2 x3 xc Ab10 cb10 Ab11 cb11 Ab30 cb30 Ab34 cb34 Ab35 cb35 Ab36 cb36 Ab38 cb38 Ab39 cb39) ++ rb).toArray 47 :: L)) := Aside0.mk h_
 clear h_ hu_
 refine hK.out _ _ ((((S19.out).erase 1).erase 0)) ?_
 clear hHeld
 intro hHeld
 clear hK K
 refine last_ (i := 11) (N := none) (bits 12 4095) rfl rfl (by kernel_rfl) (by decide) (fun K hK => ?_)
 refine st_store_step (by rfl) rfl 47 _ _ rfl rfl rfl (seg := [(.int .i64 x0), (.int .i64 x1), (.int .i64 x2), (.int .i64 x3), (.int .i64 0), (.int .i64 0), (.int .i64 0), (.int .i64 0), (.int .i64 0), (.int .i64 0), (.slice Ab10 0 cb10), (.slice Ab11 0 cb11), (.int .i64 xc.f0), (.int .i64 xc.f1), (.int .i64 xc.f2), (.int .i64 xc.f3), (.int .i64 xc.f4), (.string xc.f5), (.string xc.f6), (.string xc.f7), (.string xc.f8), (.int .i64 xc.f9), (.int .i64 xc.f10), (.int .i64 xc.f11.f0), (.string xc.f11.f1), (.int .i64 xc.f11.f2), (.int .i64 xc.f11.f3), (.int .i64 xc.f12.f0), (.int .i64 xc.f12.f1), (.int .i64 xc.f13), (.slice Ab30 0 cb30), (.int .i64 0), (.int .i64 0), (.int .i64 0), (.slice Ab34 0 cb34), (.slice Ab35 0 cb35), (.slice Ab36 0 cb36), (.int .i64 0), (.slice Ab38 0 cb38), (.slice Ab39 0 cb39)]) rfl (by kernel_rfl) (by rfl) S19.out 1 rfl (Nat.le_of_ble_eq_true rfl) ?_
 intro w20 h_ hu_
 have S21 : Aside0 (St w0 w20 (Blk g7 (pkL x0 x1 x2 x3 xc Aa10 ca10 Aa11 ca11 Aa30 ca30 Aa34 ca34 Aa35 ca35 Aa36 ca36 Aa38 ca38 Aa39 ca39).toArray 47 :: Blk g4 (pkL x0 x1 x2 x3 xc Ab10 cb10 Ab11 cb11 Ab30 cb30 Ab34 cb34 Ab35 cb35 Ab36 cb36 Ab38 cb38 Ab39 cb39).toArray 47 :: Blk ga ((pkL x0 x1 x2 x3 xc Aa10 ca10 Aa11 ca11 Aa30 ca30 Aa34 ca34 Aa35 ca35 Aa36 ca36 Aa38 ca38 Aa39 ca39) ++ ra).toArray 47 :: Blk gb ((pkL x0 x1 x2 x3 xc Ab10 cb10 Ab11 cb11 Ab30 cb30 Ab34 cb34 Ab35 cb35 Ab36 cb36 Ab38 cb38 Ab39 cb39) ++ rb).toArray 47 :: L)) := Aside0.mk h_
 clear h_ hu_
 refine hK.out _ _ ?_
 clear hK K
 refine done_ (by kernel_rfl) ?_
 clear hHeld
 go_upto_region 7 with (fail)
 have cf_22 : w20.cell? ⟨g7, 0, none⟩ = some (.int .i64 x0) := S21.out.cell 0 0 rfl rfl
 have cf_23 : w20.cell? ⟨g4, 0, none⟩ = some (.int .i64 x0) := S21.out.cell 1 0 rfl rfl
 have cf_24 : w20.cell? ⟨g7, 1, none⟩ = some (.int .i64 x1) := S21.out.cell 0 1 rfl rfl
 have cf_25 : w20.cell? ⟨g4, 1, none⟩ = some (.int .i64 x1) := S21.out.cell 1 1 rfl rfl
 have cf_26 : w20.cell? ⟨g7, 2, none⟩ = some (.int .i64 x2) := S21.out.cell 0 2 rfl rfl
 have cf_27 : w20.cell? ⟨g4, 2, none⟩ = some (.int .i64 x2) := S21.out.cell 1 2 rfl rfl
 have cf_28 : w20.cell? ⟨g7, 3, none⟩ = some (.int .i64 x3) := S21.out.cell 0 3 rfl rfl
 have cf_29 : w20.cell? ⟨g4, 3, none⟩ = some (.int .i64 x3) := S21.out.cell 1 3 rfl rfl
 go_upto_region 5 with (first | ((refine gate_ (.load 31 (.tmp 54)) rfl ?_); refine unguard (by rfl) ?_; refine st_load rfl 31 _ rfl rfl S21.out 0 rfl [(.int .i64 0), (.int .i64 0), (.int .i64 0), (.int .i64 0), (.int .i64 0), (.int .i64 0), (.slice Aa10 0 ca10), (.slice Aa11 0 ca11)] rfl Try.underlying31 rfl (by kernel_rfl) ?_) | ((refine gate_ (.load 31 (.tmp 57)) rfl ?_); refine unguard (by rfl) ?_; refine st_load rfl 31 _ rfl rfl S32.out 2 rfl [(.int .i64 0), (.int .i64 0), (.int .i64 0), (.int .i64 0), (.int .i64 0), (.int .i64 0), (.slice Ab10 0 cb10), (.slice Ab11 0 cb11)] rfl Try.underlying31 rfl (by kernel_rfl) ?_) | ((refine gate_ (.load 31 (.tmp 57)) rfl ?_); refine unguard (by rfl) ?_; refine st_load rfl 31 _ rfl rfl S21.out 1 rfl [(.int .i64 0), (.int .i64 0), (.int .i64 0), (.int .i64 0), (.int .i64 0), (.int .i64 0), (.slice Ab10 0 cb10), (.slice Ab11 0 cb11)] rfl Try.underlying31 rfl (by kernel_rfl) ?_) | ((refine gate_dst (N := 56) rfl ?_); refine unguard (by rfl) ?_; refine st_lit ?hg (N := 56) ?hd #[(.int .i64 0), (.int .i64 0), (.int .i64 0), (.int .i64 0), (.int .i64 0), (.int .i64 0), (.slice Aa10 0 ca10), (.slice Aa11 0 ca11)] 31 1 ?hr S21.out ?_; (case hd => rfl); (case hg => rfl); (case hr => first | (go_simp; done) | (go_simp; rfl) | (go_simp; exact ⟨rfl, rfl⟩)); intro g30 w31 hg_ h_ hb_; clear cf_22 cf_23 cf_24 cf_25 cf_26 cf_27 cf_28 cf_29; have S32 := Aside0.mk h_; have BS32 := Aside0.mk hb_; have GS32 := Aside0.mk hg_; clear h_ hb_ hg_) | ((refine gate_dst (N := 59) rfl ?_); refine unguard (by rfl) ?_; refine st_lit ?hg (N := 59) ?hd #[(.int .i64 0), (.int .i64 0), (.int .i64 0), (.int .i64 0), (.int .i64 0), (.int .i64 0), (.slice Ab10 0 cb10), (.slice Ab11 0 cb11)] 31 1 ?hr S32.out ?_; (case hd => rfl); (case hg => rfl); (case hr => first | (go_simp; done) | (go_simp; rfl) | (go_simp; exact ⟨rfl, rfl⟩)); intro g33 w34 hg_ h_ hb_; have S35 := Aside0.mk h_; have BS35 := Aside0.mk hb_; have GS35 := Aside0.mk hg_; clear h_ hb_ hg_) | ((refine gate_ (.load 38 (.tmp 64)) rfl ?_); refine unguard (by rfl) ?_; refine st_load rfl 38 _ rfl rfl S36.out 0 rfl [(.int .i64 xc.f0), (.int .i64 xc.f1), (.int .i64 xc.f2), (.int .i64 xc.f3), (.int .i64 xc.f4), (.string xc.f5), (.string xc.f6), (.string xc.f7), (.string xc.f8), (.int .i64 xc.f9), (.int .i64 xc.f10), (.int .i64 xc.f11.f0), (.string xc.f11.f1), (.int .i64 xc.f11.f2), (.int .i64 xc.f11.f3), (.int .i64 xc.f12.f0), (.int .i64 xc.f12.f1), (.int .i64 xc.f13), (.slice Aa30 0 ca30)] rfl Try.underlying38 rfl (by kernel_rfl) ?_) | ((refine gate_ (.load 38 (.tmp 64)) rfl ?_); refine unguard (by rfl) ?_; refine st_load rfl 38 _ rfl rfl S35.out 2 rfl [(.int .i64 xc.f0), (.int .i64 xc.f1), (.int .i64 xc.f2), (.int .i64 xc.f3), (.int .i64 xc.f4), (.string xc.f5), (.string xc.f6), (.string xc.f7), (.string xc.f8), (.int .i64 xc.f9), (.int .i64 xc.f10), (.int .i64 xc.f11.f0), (.string xc.f11.f1), (.int .i64 xc.f11.f2), (.int .i64 xc.f11.f3), (.int .i64 xc.f12.f0), (.int .i64 xc.f12.f1), (.int .i64 xc.f13), (.slice Aa30 0 ca30)] rfl Try.underlying38 rfl (by kernel_rfl) ?_) | ((refine gate_ (.load 38 (.tmp 64)) rfl ?_); refine unguard (by rfl) ?_; refine st_load rfl 38 _ rfl rfl S32.out 1 rfl [(.int .i64 xc.f0), (.int .i64 xc.f1), (.int .i64 xc.f2), (.int .i64 xc.f3), (.int .i64 xc.f4), (.string xc.f5), (.string xc.f6), (.string xc.f7), (.string xc.f8), (.int .i64 xc.f9), (.int .i64 xc.f10), (.int .i64 xc.f11.f0), (.string xc.f11.f1), (.int .i64 xc.f11.f2), (.int .i64 xc.f11.f3), (.int .i64 xc.f12.f0), (.int .i64 xc.f12.f1), (.int .i64 xc.f13), (.slice Aa30 0 ca30)] rfl Try.underlying38 rfl (by kernel_rfl) ?_) | ((refine gate_ (.load 38 (.tmp 64)) rfl ?_); refine unguard (by rfl) ?_; refine st_load rfl 38 _ rfl rfl S21.out 0 rfl [(.int .i64 xc.f0), (.int .i64 xc.f1), (.int .i64 xc.f2), (.int .i64 xc.f3), (.int .i64 xc.f4), (.string xc.f5), (.string xc.f6), (.string xc.f7), (.string xc.f8), (.int .i64 xc.f9), (.int .i64 xc.f10), (.int .i64 xc.f11.f0), (.string xc.f11.f1), (.int .i64 xc.f11.f2), (.int .i64 xc.f11.f3), (.int .i64 xc.f12.f0), (.int .i64 xc.f12.f1), (.int .i64 xc.f13), (.slice Aa30 0 ca30)] rfl Try.underlying38 rfl (by kernel_rfl) ?_) | ((refine gate_ (.load 38 (.tmp 66)) rfl ?_); refine unguard (by rfl) ?_; refine st_load rfl 38 _ rfl rfl S36.out 1 rfl [(.int .i64 xc.f0), (.int .i64 xc.f1), (.int .i64 xc.f2), (.int .i64 xc.f3), (.int .i64 xc.f4), (.string xc.f5), (.string xc.f6), (.string xc.f7), (.string xc.f8), (.int .i64 xc.f9), (.int .i64 xc.f10), (.int .i64 xc.f11.f0), (.string xc.f11.f1), (.int .i64 xc.f11.f2), (.int .i64 xc.f11.f3), (.int .i64 xc.f12.f0), (.int .i64 xc.f12.f1), (.int .i64 xc.f13), (.slice Ab30 0 cb30)] rfl Try.underlying38 rfl (by kernel_rfl) ?_) | ((refine gate_ (.load 38 (.tmp 66)) rfl ?_); refine unguard (by rfl) ?_; refine st_load rfl 38 _ rfl rfl S35.out 3 rfl [(.int .i64 xc.f0), (.int .i64 xc.f1), (.int .i64 xc.f2), (.int .i64 xc.f3), (.int .i64 xc.f4), (.string xc.f5), (.string xc.f6), (.string xc.f7), (.string xc.f8), (.int .i64 xc.f9), (.int .i64 xc.f10), (.int .i64 xc.f11.f0), (.string xc.f11.f1), (.int .i64 xc.f11.f2), (.int .i64 xc.f11.f3), (.int .i64 xc.f12.f0), (.int .i64 xc.f12.f1), (.int .i64 xc.f13), (.slice Ab30 0 cb30)] rfl Try.underlying38 rfl (by kernel_rfl) ?_) | ((refine gate_ (.load 38 (.tmp 66)) rfl ?_); refine unguard (by rfl) ?_; refine st_load rfl 38 _ rfl rfl S32.out 2 rfl [(.int .i64 xc.f0), (.int .i64 xc.f1), (.int .i64 xc.f2), (.int .i64 xc.f3), (.int .i64 xc.f4), (.string xc.f5), (.string xc.f6), (.string xc.f7), (.string xc.f8), (.int .i64 xc.f9), (.int .i64 xc.f10), (.int .i64 xc.f11.f0), (.string xc.f11.f1), (.int .i64 xc.f11.f2), (.int .i64 xc.f11.f3), (.int .i64 xc.f12.f0), (.int .i64 xc.f12.f1), (.int .i64 xc.f13), (.slice Ab30 0 cb30)] rfl Try.underlying38 rfl (by kernel_rfl) ?_) | ((refine gate_ (.load 38 (.tmp 66)) rfl ?_); refine unguard (by rfl) ?_; refine st_load rfl 38 _ rfl rfl S21.out 1 rfl [(.int .i64 xc.f0), (.int .i64 xc.f1), (.int .i64 xc.f2), (.int .i64 xc.f3), (.int .i64 xc.f4), (.string xc.f5), (.string xc.f6), (.string xc.f7), (.string xc.f8), (.int .i64 xc.f9), (.int .i64 xc.f10), (.int .i64 xc.f11.f0), (.string xc.f11.f1), (.int .i64 xc.f11.f2), (.int .i64 xc.f11.f3), (.int .i64 xc.f12.f0), (.int .i64 xc.f12.f1), (.int .i64 xc.f13), (.slice Ab30 0 cb30)] rfl Try.underlying38 rfl (by kernel_rfl) ?_) | (go_at_call 43; (refine (sameMsgsT w0 _ (Blk g7 (pkL x0 x1 x2 x3 xc Aa10 ca10 Aa11 ca11 Aa30 ca30 Aa34 ca34 Aa35 ca35 Aa36 ca36 Aa38 ca38 Aa39 ca39).toArray 47 :: Blk g4 (pkL x0 x1 x2 x3 xc Ab10 cb10 Ab11 cb11 Ab30 cb30 Ab34 cb34 Ab35 cb35 Ab36 cb36 Ab38 cb38 Ab39 cb39).toArray 47 :: Blk ga ((pkL x0 x1 x2 x3 xc Aa10 ca10 Aa11 ca11 Aa30 ca30 Aa34 ca34 Aa35 ca35 Aa36 ca36 Aa38 ca38 Aa39 ca39) ++ ra).toArray 47 :: Blk gb ((pkL x0 x1 x2 x3 xc Ab10 cb10 Ab11 cb11 Ab30 cb30 Ab34 cb34 Ab35 cb35 Ab36 cb36 Ab38 cb38 Ab39 cb39) ++ rb).toArray 47 :: L) g30 g33 Aa10 Aa11 Ab10 Ab11 ca10 ca11 cb10 cb11 (((((((S35.out).bring 5 rfl).bring 5 rfl).bring 5 rfl).bring 5 rfl).bring 4 rfl).bring 5 rfl)).mono ?_); rintro e1 w37 ⟨rfl, h_⟩; have S36 := Aside0.mk h_; clear h_) | ((refine gate_ (.load 42 (.tmp 72)) rfl ?_); refine unguard (by rfl) ?_; refine st_load rfl 42 _ rfl rfl S38.out 0 rfl [(.int .i64 0), (.int .i64 0), (.int .i64 0), (.slice Aa34 0 ca34), (.slice Aa35 0 ca35), (.slice Aa36 0 ca36)] rfl Try.underlying42 rfl (by kernel_rfl) ?_) | ((refine gate_ (.load 42 (.tmp 72)) rfl ?_); refine unguard (by rfl) ?_; refine st_load rfl 42 _ rfl rfl S36.out 0 rfl [(.int .i64 0), (.int .i64 0), (.int .i64 0), (.slice Aa34 0 ca34), (.slice Aa35 0 ca35), (.slice Aa36 0 ca36)] rfl Try.underlying42 rfl (by kernel_rfl) ?_) | ((refine gate_ (.load 42 (.tmp 72)) rfl ?_); refine unguard (by rfl) ?_; refine st_load rfl 42 _ rfl rfl S35.out 2 rfl [(.int .i64 0), (.int .i64 0), (.int .i64 0), (.slice Aa34 0 ca34), (.slice Aa35 0 ca35), (.slice Aa36 0 ca36)] rfl Try.underlying42 rfl (by kernel_rfl) ?_) | ((refine gate_ (.load 42 (.tmp 72)) rfl ?_); refine unguard (by rfl) ?_; refine st_load rfl 42 _ rfl rfl S32.out 1 rfl [(.int .i64 0), (.int .i64 0), (.int .i64 0), (.slice Aa34 0 ca34), (.slice Aa35 0 ca35), (.slice Aa36 0 ca36)] rfl Try.underlying42 rfl (by kernel_rfl) ?_) | ((refine gate_ (.load 42 (.tmp 72)) rfl ?_); refine unguard (by rfl) ?_; refine st_load rfl 42 _ rfl rfl S21.out 0 rfl [(.int .i64 0), (.int .i64 0), (.int .i64 0), (.slice Aa34 0 ca34), (.slice Aa35 0 ca35), (.slice Aa36 0 ca36)] rfl Try.underlying42 rfl (by kernel_rfl) ?_) | ((refine gate_ (.load 42 (.tmp 74)) rfl ?_); refine unguard (by rfl) ?_; refine st_load rfl 42 _ rfl rfl S38.out 1 rfl [(.int .i64 0), (.int .i64 0), (.int .i64 0), (.slice Ab34 0 cb34), (.slice Ab35 0 cb35), (.slice Ab36 0 cb36)] rfl Try.underlying42 rfl (by kernel_rfl) ?_) | ((refine gate_ (.load 42 (.tmp 74)) rfl ?_); refine unguard (by rfl) ?_; refine st_load rfl 42 _ rfl rfl S36.out 1 rfl [(.int .i64 0), (.int .i64 0), (.int .i64 0), (.slice Ab34 0 cb34), (.slice Ab35 0 cb35), (.slice Ab36 0 cb36)] rfl Try.underlying42 rfl (by kernel_rfl) ?_) | ((refine gate_ (.load 42 (.tmp 74)) rfl ?_); refine unguard (by rfl) ?_; refine st_load rfl 42 _ rfl rfl S35.out 3 rfl [(.int .i64 0), (.int .i64 0), (.int .i64 0), (.slice Ab34 0 cb34), (.slice Ab35 0 cb35), (.slice Ab36 0 cb36)] rfl Try.underlying42 rfl (by kernel_rfl) ?_) | ((refine gate_ (.load 42 (.tmp 74)) rfl ?_); refine unguard (by rfl) ?_; refine st_load rfl 42 _ rfl rfl S32.out 2 rfl [(.int .i64 0), (.int .i64 0), (.int .i64 0), (.slice Ab34 0 cb34), (.slice Ab35 0 cb35), (.slice Ab36 0 cb36)] rfl Try.underlying42 rfl (by kernel_rfl) ?_) | ((refine gate_ (.load 42 (.tmp 74)) rfl ?_); refine unguard (by rfl) ?_; refine st_load rfl 42 _ rfl rfl S21.out 1 rfl [(.int .i64 0), (.int .i64 0), (.int .i64 0), (.slice Ab34 0 cb34), (.slice Ab35 0 cb35), (.slice Ab36 0 cb36)] rfl Try.underlying42 rfl (by kernel_rfl) ?_) | (go_at_call 10; (refine (sameSelfT _ xc Aa30 Ab30 ca30 cb30).mono ?_); rintro e1 w39 ⟨rfl, hb_⟩; have S38 := Aside0.mk (S36.out.below hb_); clear hb_) | ((refine gate_ (.load 45 (.tmp 80)) rfl ?_); refine unguard (by rfl) ?_; refine st_load rfl 45 _ rfl rfl S40.out 0 rfl [(.int .i64 0), (.slice Aa38 0 ca38)] rfl Try.underlying45 rfl (by kernel_rfl) ?_) | ((refine gate_ (.load 45 (.tmp 80)) rfl ?_); refine unguard (by rfl) ?_; refine st_load rfl 45 _ rfl rfl S38.out 0 rfl [(.int .i64 0), (.slice Aa38 0 ca38)] rfl Try.underlying45 rfl (by kernel_rfl) ?_) | ((refine gate_ (.load 45 (.tmp 80)) rfl ?_); refine unguard (by rfl) ?_; refine st_load rfl 45 _ rfl rfl S36.out 0 rfl [(.int .i64 0), (.slice Aa38 0 ca38)] rfl Try.underlying45 rfl (by kernel_rfl) ?_) | ((refine gate_ (.load 45 (.tmp 80)) rfl ?_); refine unguard (by rfl) ?_; refine st_load rfl 45 _ rfl rfl S35.out 2 rfl [(.int .i64 0), (.slice Aa38 0 ca38)] rfl Try.underlying45 rfl (by kernel_rfl) ?_) | ((refine gate_ (.load 45 (.tmp 80)) rfl ?_); refine unguard (by rfl) ?_; refine st_load rfl 45 _ rfl rfl S32.out 1 rfl [(.int .i64 0), (.slice Aa38 0 ca38)] rfl Try.underlying45 rfl (by kernel_rfl) ?_) | ((refine gate_ (.load 45 (.tmp 80)) rfl ?_); refine unguard (by rfl) ?_; refine st_load rfl 45 _ rfl rfl S21.out 0 rfl [(.int .i64 0), (.slice Aa38 0 ca38)] rfl Try.underlying45 rfl (by kernel_rfl) ?_) | ((refine gate_ (.load 45 (.tmp 82)) rfl ?_); refine unguard (by rfl) ?_; refine st_load rfl 45 _ rfl rfl S40.out 1 rfl [(.int .i64 0), (.slice Ab38 0 cb38)] rfl Try.underlying45 rfl (by kernel_rfl) ?_) | ((refine gate_ (.load 45 (.tmp 82)) rfl ?_); refine unguard (by rfl) ?_; refine st_load rfl 45 _ rfl rfl S38.out 1 rfl [(.int .i64 0), (.slice Ab38 0 cb38)] rfl Try.underlying45 rfl (by kernel_rfl) ?_) | ((refine gate_ (.load 45 (.tmp 82)) rfl ?_); refine unguard (by rfl) ?_; refine st_load rfl 45 _ rfl rfl S36.out 1 rfl [(.int .i64 0), (.slice Ab38 0 cb38)] rfl Try.underlying45 rfl (by kernel_rfl) ?_) | ((refine gate_ (.load 45 (.tmp 82)) rfl ?_); refine unguard (by rfl) ?_; refine st_load rfl 45 _ rfl rfl S35.out 3 rfl [(.int .i64 0), (.slice Ab38 0 cb38)] rfl Try.underlying45 rfl (by kernel_rfl) ?_) | ((refine gate_ (.load 45 (.tmp 82)) rfl ?_); refine unguard (by rfl) ?_; refine st_load rfl 45 _ rfl rfl S32.out 2 rfl [(.int .i64 0), (.slice Ab38 0 cb38)] rfl Try.underlying45 rfl (by kernel_rfl) ?_) | ((refine gate_ (.load 45 (.tmp 82)) rfl ?_); refine unguard (by rfl) ?_; refine st_load rfl 45 _ rfl rfl S21.out 1 rfl [(.int .i64 0), (.slice Ab38 0 cb38)] rfl Try.underlying45 rfl (by kernel_rfl) ?_) | (go_at_call 26; (refine (racewayref05_SameReply.calls 9 0 0 0 Aa34 ca34 [] Aa35 ca35 [] Aa36 ca36 [] 0 0 0 Ab34 cb34 [] Ab35 cb35 [] Ab36 cb36 [] true _ (C_zero _ _ _) (Nat.zero_le _) (C_zero _ _ _) (Nat.zero_le _) (C_zero _ _ _) (Nat.zero_le _) (C_zero _ _ _) (Nat.zero_le _) (C_zero _ _ _) (Nat.zero_le _) (C_zero _ _ _) (Nat.zero_le _) reply_nil).mono ?_); rintro e1 w41 ⟨rfl, hb_⟩; have S40 := Aside0.mk (S38.out.below hb_); clear hb_) | (go_at_call 33; (refine (racewayref15_Same.calls 5 0 Aa38 ca38 [] 0 Ab38 cb38 [] true _ (C_zero _ _ _) (Nat.zero_le _) (C_zero _ _ _) (Nat.zero_le _) chart_nil).mono ?_); rintro e1 w43 ⟨rfl, hb_⟩; have S42 := Aside0.mk (S40.out.below hb_); clear hb_; have cf_44 : w43.cell? ⟨g7, 39, none⟩ = some (.slice Aa39 0 ca39) := S42.out.cell 0 39 rfl rfl; have cf_45 : w43.cell? ⟨g4, 39, none⟩ = some (.slice Ab39 0 cb39) := S42.out.cell 1 39 rfl rfl) | (go_at_call 37; (refine (racewayref01_SameTexts.calls 3 Aa39 ca39 [] Ab39 cb39 [] true _ (C_zero _ _ _) (Nat.zero_le _) (C_zero _ _ _) (Nat.zero_le _) texts_nil).mono ?_); rintro e1 w47 ⟨rfl, hb_⟩; clear cf_44 cf_45; have S46 := Aside0.mk (S42.out.below hb_.below); clear hb_))
 go_wp2_with (fail)
 refine round_unroll ?_
 go_upto_region 4 with (fail)
 go_upto_region 9 with (fail)
 go_wp2_with (fail)
 try go_ret
 refine HPOST.out _ _ ?_
 exact ⟨rfl, (((((S46.out).erase 3).erase 2).erase 1).erase 0)⟩
set_option maxHeartbeats 4000000 in
set_option maxRecDepth 100000 in
theorem samePk0 (w0 w : World) (L : List Thing) (A1 A2 : Option Addr) (n1 n2 : Nat) (h : St w0 w L) :
  Calls Try.prog 21 #[.slice A1 0 n1, .slice A2 0 n2] w fun e' w' => e' = .returned (.bool true) ∧ St w0 w' L := by
 have H := Aside0.mk h
 clear h
 refine calls_hide fun R HPOST => ?_
 go_enter Try.func21, Try.ntmps21
 go_upto_region 0 with (fail)
 go_upto_region 1 with (fail)
 go_upto_region 3 with (fail)
 go_wp2_with (fail)
 refine wp_loop_round ?_
 refine round_unroll ?_
 go_upto_region 4 with (fail)
 go_upto_region 9 with (fail)
 go_wp2_with (fail)
 try go_ret
 refine HPOST.out _ _ ?_
 exact ⟨rfl, (H.out)⟩
theorem samePk1 (w0 w : World) (L : List Thing) (ga gb ma mb na nb : Nat) (x0 x1 x2 x3 : Int) (xc : S38) (hx : xc.f14 = []) (h : St w0 w (Row k47 47 (.slice (some ⟨ga, 0, none⟩) ma na) [cmdPk x0 x1 x2 x3 xc] :: Row k47 47 (.slice (some ⟨gb, 0, none⟩) mb nb) [cmdPk x0 x1 x2 x3 xc] :: L)) :
  Calls Try.prog 21 #[.slice (some ⟨ga, 0, none⟩) 1 na, .slice (some ⟨gb, 0, none⟩) 1 nb] w fun e' w' => e' = .returned (.bool true) ∧ St w0 w' L := by
 obtain ⟨cs, ra, hK, h1⟩ := rowBlk h (by decide)
 obtain ⟨cs2, rb, hK2, h2⟩ := rowBlk (h1.bring 1 rfl) (by decide)
 obtain ⟨Aa10, ca10, Aa11, ca11, Aa30, ca30, Aa34, ca34, Aa35, ca35, Aa36, ca36, Aa38, ca38, Aa39, ca39, rfl, _⟩ := k47_open hK
 obtain ⟨Ab10, cb10, Ab11, cb11, Ab30, cb30, Ab34, cb34, Ab35, cb35, Ab36, cb36, Ab38, cb38, Ab39, cb39, rfl, _⟩ := k47_open hK2
 obtain ⟨x5, x6, x7, x8, x9, y5, y6, y7, y8, y9, y10, y11, y12, y13, y14⟩ := xc
 subst hx
 exact samePkB w0 w L ga gb na nb x0 x1 x2 x3 _ Aa10 ca10 Aa11 ca11 Aa30 ca30 Aa34 ca34 Aa35 ca35 Aa36 ca36 Aa38 ca38 Aa39 ca39 Ab10 cb10 Ab11 cb11 Ab30 cb30 Ab34 cb34 Ab35 cb35 Ab36 cb36 Ab38 cb38 Ab39 cb39 ra rb (h2.bring 1 rfl)
end Go.Proofs.Ytonedijkgddepaa.P
