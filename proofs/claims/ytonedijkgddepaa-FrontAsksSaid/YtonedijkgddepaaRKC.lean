/- The reference's Same of a command with itself, by hand. No conditions. -/
import Derived.Test.YtonedijkgddepaaSepK
namespace Go.Proofs.Ytonedijkgddepaa.P
open Go.RowKit Go.Maps Go.Proofs.YtonedijkgddepaaW.PrintWords Go.Proofs.YtonedijkgddepaaW.PrintLast Go.Proofs.YtonedijkgddepaaW.PrintMore
set_option linter.unusedVariables false
set_option linter.unusedSimpArgs false

def cmdQ (c : S38) (A : Option Addr) (n : Nat) : Array Value := #[(.int .i64 c.f0), (.int .i64 c.f1), (.int .i64 c.f2), (.int .i64 c.f3), (.int .i64 c.f4), (.string c.f5), (.string c.f6), (.string c.f7), (.string c.f8), (.int .i64 c.f9), (.int .i64 c.f10), (.int .i64 c.f11.f0), (.string c.f11.f1), (.int .i64 c.f11.f2), (.int .i64 c.f11.f3), (.int .i64 c.f12.f0), (.int .i64 c.f12.f1), (.int .i64 c.f13), (.slice A 0 n)]
set_option maxHeartbeats 4000000 in
set_option maxRecDepth 100000 in
theorem sameSelfT (w : World) (c : S38) (A A2 : Option Addr) (n m : Nat) :
  Calls Try.prog 10 #[.agg (cmdQ c A n), .agg (cmdQ c A2 m)] w fun e' w' => e' = .returned (.bool true) ∧ Below w.heap.size w w' := by
 have H := Aside0.mk (St.start w)
 have hu33 := Try.underlying33
 have hu35 := Try.underlying35
 refine calls_hide fun R HPOST => ?_
 go_enter Try.func10, Try.ntmps10
 go_upto_region 0 with (fail)
 go_upto_region 1 with (first | ((refine gate_dst (N := 2) rfl ?_); refine st_box ?hg (N := 2) ?hd (cmdQ c A n) 38 ?hr H.out ?_; (case hd => rfl); (case hg => rfl); (case hr => first | (go_simp; done) | (go_simp; rfl)); intro g1 w2 hg_ h_ hb_; have S3 := Aside0.mk h_; have BS3 := Aside0.mk hb_; have GS3 := Aside0.mk hg_; clear h_ hb_ hg_) | ((refine gate_dst (N := 3) rfl ?_); refine st_box ?hg (N := 3) ?hd (cmdQ c A2 m) 38 ?hr S3.out ?_; (case hd => rfl); (case hg => rfl); (case hr => first | (go_simp; done) | (go_simp; rfl)); intro g4 w5 hg_ h_ hb_; have S6 := Aside0.mk h_; have BS6 := Aside0.mk hb_; have GS6 := Aside0.mk hg_; clear h_ hb_ hg_))
 have cf_7 : w5.cell? ⟨g1, 18, none⟩ = some (.slice A 0 n) := S6.out.cell 1 18 rfl rfl
 have cf_8 : w5.cell? ⟨g4, 18, none⟩ = some (.slice A2 0 m) := S6.out.cell 0 18 rfl rfl
 go_upto_region 3 with (first | (go_at_call 37; (refine (racewayref01_SameTexts.calls 3 A n [] A2 m [] true _ (C_zero _ _ _) (Nat.zero_le _) (C_zero _ _ _) (Nat.zero_le _) texts_nil).mono ?_); rintro e1 w10 ⟨rfl, hb_⟩; clear cf_7 cf_8; have S9 := Aside0.mk (S6.out.below hb_.below); clear hb_))
 have cf_11 : w10.cell? ⟨g1, 0, none⟩ = some (.int .i64 c.f0) := S9.out.cell 1 0 rfl rfl
 have cf_12 : w10.cell? ⟨g4, 0, none⟩ = some (.int .i64 c.f0) := S9.out.cell 0 0 rfl rfl
 have cf_13 : w10.cell? ⟨g1, 1, none⟩ = some (.int .i64 c.f1) := S9.out.cell 1 1 rfl rfl
 have cf_14 : w10.cell? ⟨g4, 1, none⟩ = some (.int .i64 c.f1) := S9.out.cell 0 1 rfl rfl
 have cf_15 : w10.cell? ⟨g1, 2, none⟩ = some (.int .i64 c.f2) := S9.out.cell 1 2 rfl rfl
 have cf_16 : w10.cell? ⟨g4, 2, none⟩ = some (.int .i64 c.f2) := S9.out.cell 0 2 rfl rfl
 have cf_17 : w10.cell? ⟨g1, 3, none⟩ = some (.int .i64 c.f3) := S9.out.cell 1 3 rfl rfl
 have cf_18 : w10.cell? ⟨g4, 3, none⟩ = some (.int .i64 c.f3) := S9.out.cell 0 3 rfl rfl
 have cf_19 : w10.cell? ⟨g1, 4, none⟩ = some (.int .i64 c.f4) := S9.out.cell 1 4 rfl rfl
 have cf_20 : w10.cell? ⟨g4, 4, none⟩ = some (.int .i64 c.f4) := S9.out.cell 0 4 rfl rfl
 have cf_21 : w10.cell? ⟨g1, 5, none⟩ = some (.string c.f5) := S9.out.cell 1 5 rfl rfl
 have cf_22 : w10.cell? ⟨g4, 5, none⟩ = some (.string c.f5) := S9.out.cell 0 5 rfl rfl
 have cf_23 : w10.cell? ⟨g1, 6, none⟩ = some (.string c.f6) := S9.out.cell 1 6 rfl rfl
 have cf_24 : w10.cell? ⟨g4, 6, none⟩ = some (.string c.f6) := S9.out.cell 0 6 rfl rfl
 have cf_25 : w10.cell? ⟨g1, 7, none⟩ = some (.string c.f7) := S9.out.cell 1 7 rfl rfl
 have cf_26 : w10.cell? ⟨g4, 7, none⟩ = some (.string c.f7) := S9.out.cell 0 7 rfl rfl
 have cf_27 : w10.cell? ⟨g1, 8, none⟩ = some (.string c.f8) := S9.out.cell 1 8 rfl rfl
 have cf_28 : w10.cell? ⟨g4, 8, none⟩ = some (.string c.f8) := S9.out.cell 0 8 rfl rfl
 have cf_29 : w10.cell? ⟨g1, 9, none⟩ = some (.int .i64 c.f9) := S9.out.cell 1 9 rfl rfl
 have cf_30 : w10.cell? ⟨g4, 9, none⟩ = some (.int .i64 c.f9) := S9.out.cell 0 9 rfl rfl
 have cf_31 : w10.cell? ⟨g1, 10, none⟩ = some (.int .i64 c.f10) := S9.out.cell 1 10 rfl rfl
 have cf_32 : w10.cell? ⟨g4, 10, none⟩ = some (.int .i64 c.f10) := S9.out.cell 0 10 rfl rfl
 have cf_33 : w10.cell? ⟨g1, 17, none⟩ = some (.int .i64 c.f13) := S9.out.cell 1 17 rfl rfl
 have cf_34 : w10.cell? ⟨g4, 17, none⟩ = some (.int .i64 c.f13) := S9.out.cell 0 17 rfl rfl
 go_wp2_with (first | ((refine gate_ (.load 33 (.tmp 87)) rfl ?_); refine unguard (by rfl) ?_; refine st_load rfl 33 _ rfl rfl S9.out 1 rfl [(.int .i64 c.f11.f0), (.string c.f11.f1), (.int .i64 c.f11.f2), (.int .i64 c.f11.f3)] rfl Try.underlying33 rfl (by kernel_rfl) ?_) | ((refine gate_ (.load 33 (.tmp 89)) rfl ?_); refine unguard (by rfl) ?_; refine st_load rfl 33 _ rfl rfl S9.out 0 rfl [(.int .i64 c.f11.f0), (.string c.f11.f1), (.int .i64 c.f11.f2), (.int .i64 c.f11.f3)] rfl Try.underlying33 rfl (by kernel_rfl) ?_) | ((refine gate_ (.load 35 (.tmp 94)) rfl ?_); refine unguard (by rfl) ?_; refine st_load rfl 35 _ rfl rfl S9.out 1 rfl [(.int .i64 c.f12.f0), (.int .i64 c.f12.f1)] rfl Try.underlying35 rfl (by kernel_rfl) ?_) | ((refine gate_ (.load 35 (.tmp 96)) rfl ?_); refine unguard (by rfl) ?_; refine st_load rfl 35 _ rfl rfl S9.out 0 rfl [(.int .i64 c.f12.f0), (.int .i64 c.f12.f1)] rfl Try.underlying35 rfl (by kernel_rfl) ?_))
 clear cf_11 cf_12 cf_13 cf_14 cf_15 cf_16 cf_17 cf_18 cf_19 cf_20 cf_21 cf_22 cf_23 cf_24 cf_25 cf_26 cf_27 cf_28 cf_29 cf_30 cf_31 cf_32 cf_33 cf_34
 try go_ret
 refine HPOST.out _ _ ?_
 exact ⟨rfl, S9.out.toBelow 2 rfl⟩
end Go.Proofs.Ytonedijkgddepaa.P
