/- The law FrontAsks, by hand: it returns true. No conditions. -/
import Derived.Test.YtonedijkgddepaaSq
import Derived.Test.YtonedijkgddepaaRM
import Derived.Test.YtonedijkgddepaaRH
import Derived.Test.YtonedijkgddepaaGW
import Derived.Test.YtonedijkgddepaaGB
import Derived.Test.YtonedijkgddepaaSepL
namespace Go.Proofs.Ytonedijkgddepaa.P
open Go.Sq
open Go.RowKit Go.Maps Go.Proofs.YtonedijkgddepaaW.PrintWords Go.Proofs.YtonedijkgddepaaW.PrintLast Go.Proofs.YtonedijkgddepaaW.PrintMore
set_option linter.unusedVariables false
set_option linter.unusedSimpArgs false
theorem heap33 : Kd.Heap k33 := Kd.heap_iso _ (Kd.heap_pair (Kd.heap_int _) (Kd.heap_pair Kd.heap_string (Kd.heap_pair (Kd.heap_int _) (Kd.heap_int _))))
theorem heap35 : Kd.Heap k35 := Kd.heap_iso _ (Kd.heap_pair (Kd.heap_int _) (Kd.heap_int _))
theorem heap108 : Kd.Heap k108 := Kd.heap_iso _ (Kd.heap_pair heap35 (Kd.heap_int _))
theorem heap115 : Kd.Heap k115 := Kd.heap_iso _ (Kd.heap_pair heap33 (Kd.heap_pair Kd.heap_string (Kd.heap_int _)))
theorem Mem.old {w w0 : World} {L : List Thing} (h : Mem w L) (n : Nat) (hx : L[n]? = some (Old w0)) : ∀ k, k < w0.heap.size → w.heap[k]? = w0.heap[k]? := by
 obtain ⟨S, hs⟩ := h
 obtain ⟨_, _, h1, _⟩ := hs.perm (perm_bring L n _ hx)
 exact h1.2.2
theorem newAskerOk (w0 w : World) (L : List Thing) (h : St w0 w L) (id nodes retry : Int) (hc : confOk id nodes retry) :
  Calls Try.prog 18 #[.int .i64 id, .int .i64 nodes, .int .i64 retry] w fun e' w' => ∃ B bl, e' = .returned (.tuple #[.pointer (some ⟨B, 0, none⟩), .int .i64 0]) ∧ St w0 w' (askT B bl 0 (newAs id nodes retry) ++ L) :=
 (newAskerT w0 w L h id nodes retry).mono (fun e' w' hp => hp.elim (fun h => h.2) (fun h => absurd hc h.1))
theorem newAskerBad (w0 w : World) (L : List Thing) (h : St w0 w L) (id nodes retry : Int) (hc : ¬ confOk id nodes retry) :
  Calls Try.prog 18 #[.int .i64 id, .int .i64 nodes, .int .i64 retry] w fun e' w' => e' = .returned (.tuple #[.pointer none, .int .i64 2]) ∧ St w0 w' L :=
 (newAskerT w0 w L h id nodes retry).mono (fun e' w' hp => hp.elim (fun h => absurd h.1 hc) (fun h => h.2))
theorem refNewOk (w0 w : World) (L : List Thing) (h : St w0 w L) (id nodes retry : Int) (hc : confOk id nodes retry) :
  Calls Try.prog 19 #[.int .i64 id, .int .i64 nodes, .int .i64 retry] w fun e' w' => ∃ BR BL, e' = .returned (.tuple #[.pointer (some ⟨BR, 0, none⟩), .int .i64 0]) ∧ St w0 w' (refT BR BL (newAs id nodes retry) ++ L) :=
 (refNew w0 w L h id nodes retry).mono (fun e' w' hp => hp.elim (fun h => h.2) (fun h => absurd hc h.1))
theorem refNewBad (w0 w : World) (L : List Thing) (h : St w0 w L) (id nodes retry : Int) (hc : ¬ confOk id nodes retry) :
  Calls Try.prog 19 #[.int .i64 id, .int .i64 nodes, .int .i64 retry] w fun e' w' => e' = .returned (.tuple #[.pointer none, .int .i64 2]) ∧ St w0 w' L :=
 (refNew w0 w L h id nodes retry).mono (fun e' w' hp => hp.elim (fun h => absurd h.1 hc) (fun h => h.2))
theorem recv2 (w0 w : World) (L : List Thing) (B bl q : Nat) (s : As) (h : St w0 w (askT B bl q s ++ L)) (hk : s.ok q) (p : S47) (vm vv vd vpd : Value) (A3 A5 A7 : Option Addr) (c3 c5 c7 : Nat)
  (hr : ∀ W, Mem W L → (Kd.C k115 W A3 p.f6.f3.length p.f6.f3 ∧ p.f6.f3.length ≤ c3) ∧ Kd.C k35 W A5 p.f6.f5.length p.f6.f5 ∧ p.f6.f5.length ≤ c5) (hl : p.f6.f3.length ≤ 12 ∧ p.f6.f5.length ≤ 12) :
  Calls Try.prog 24 #[.pointer (some ⟨B, 0, none⟩), .agg (pkA p vm vv vd A3 c3 A5 c5 A7 c7 vpd)] w fun e' w' => ∃ A3' d3 A5' d5, e' = .returned (.tuple #[.agg #[.int .i64 (recvV s p).2.1.f0, .int .i64 (recvV s p).2.1.f1, .int .i64 (recvV s p).2.1.f2, .slice A3' (recvV s p).2.1.f3.length d3, .slice none 0 0, .slice A5' (recvV s p).2.1.f5.length d5], .bool (recvV s p).2.2]) ∧ St w0 w' (askT B bl (q + 1) (recvV s p).1 ++ (Row k115 115 (.slice A3' (recvV s p).2.1.f3.length d3) (recvV s p).2.1.f3 :: Row k35 35 (.slice A5' (recvV s p).2.1.f5.length d5) (recvV s p).2.1.f5 :: L)) :=
 (askRecvT w0 w L B bl q s h hk p vm vv vd _ vpd A3 A5 c3 c5 (hr w h.drop.drop.mem).1.2 (hr w h.drop.drop.mem).2.2 (fun W hW => ⟨(hr W hW).1.1, (hr W hW).2.1⟩) (Nat.le_trans hl.1 (by decide)) (Nat.le_trans hl.2 (by decide))).mono (fun e' w' hp => by
  obtain ⟨v3, v5, rfl, h1⟩ := hp
  obtain ⟨a3, d3, rfl, _, _⟩ := h1.row 2 rfl
  obtain ⟨a5, d5, rfl, _, _⟩ := h1.row 3 rfl
  exact ⟨_, _, _, _, rfl, h1⟩)
structure PkOk (P : S47) : Prop where
 f4 : P.f6.f4 = []
 l35 : P.f6.f3.length ≤ 12 ∧ P.f6.f5.length ≤ 12
 l7 : P.f7.f1.length ≤ 20
 data : P.f5.f14 = []
theorem few_l7 (p : S47) : (fewV p).f7.f1.length ≤ 20 := by
 unfold fewV
 simp only [List.length_take]
 omega
theorem few_pk (p : S47) : PkOk (fewV p) := ⟨rfl, few_len p, few_l7 p, rfl⟩
theorem own_pk {s : As} {p : S47} (h : PkOk p) : PkOk (ownV s p) := by
 have e := own_f6 s p
 exact ⟨by rw [e.1]; exact h.f4, by rw [e.1]; exact h.l35, by rw [e.2.1]; exact h.l7, by rw [e.2.2.2]; exact h.data⟩
def FInv (w w' : World) (B bl BR BL i : Nat) : Prop := ∃ s q, As.ok s q ∧ q ≤ i ∧ St w w' (askT B bl q s ++ (refT BR BL s ++ [Old w]))
set_option maxHeartbeats 4000000 in
set_option maxRecDepth 100000 in
theorem frontAsks.calls (w : World) (c0 c1 c2 : Int) (A1 : Option Addr) (n1 : Nat) (acts : List S52) (hr : Kd.C k52 w A1 acts.length acts) :
  Calls Try.prog 5 #[.agg #[.int .i64 c0, .int .i64 c1, .int .i64 c2], .slice A1 acts.length n1] w fun e' w' => e' = .returned (.bool true) ∧ Below w.heap.size w w' := by
 have H := Aside0.mk (St.start w)
 have HR := Aside0.mk hr
 clear hr
 refine calls_hide fun R HPOST => ?_
 rcases Decidable.em (confOk c0 c1 c2) with hc | hc
 ·have HC := Aside0.mk hc
  clear hc
  go_enter Try.func5, Try.ntmps5
  go_upto_region 0 with (fail)
  go_upto_region 1 with (first | ((refine gate_dst (N := 2) rfl ?_); refine st_box ?hg (N := 2) ?hd #[(.int .i64 c0), (.int .i64 c1), (.int .i64 c2)] 70 ?hr H.out ?_; (case hd => rfl); (case hg => rfl); (case hr => first | (go_simp; done) | (go_simp; rfl)); intro g1 w2 hg_ h_ hb_; have S3 := Aside0.mk h_; have BS3 := Aside0.mk hb_; have GS3 := Aside0.mk hg_; clear h_ hb_ hg_))
  have cf_4 : w2.cell? ⟨g1, 0, none⟩ = some (.int .i64 c0) := S3.out.cell 0 0 rfl rfl
  have cf_5 : w2.cell? ⟨g1, 1, none⟩ = some (.int .i64 c1) := S3.out.cell 0 1 rfl rfl
  have cf_6 : w2.cell? ⟨g1, 2, none⟩ = some (.int .i64 c2) := S3.out.cell 0 2 rfl rfl
  go_upto_region 2 with (first | (go_at_call 18; (refine (newAskerOk w _ _ S3.out c0 c1 c2 HC.out).mono ?_); rintro e1 w8 ⟨B, bl, rfl, h_⟩; clear cf_4 cf_5 cf_6; have S7 := Aside0.mk h_; clear h_))
  have cf_9 : w8.cell? ⟨g1, 0, none⟩ = some (.int .i64 c0) := S7.out.cell 2 0 rfl rfl
  have cf_10 : w8.cell? ⟨g1, 1, none⟩ = some (.int .i64 c1) := S7.out.cell 2 1 rfl rfl
  have cf_11 : w8.cell? ⟨g1, 2, none⟩ = some (.int .i64 c2) := S7.out.cell 2 2 rfl rfl
  go_upto_region 3 with (first | (go_at_call 19; (refine (refNewOk w _ _ S7.out c0 c1 c2 HC.out).mono ?_); rintro e1 w13 ⟨BR, BL, rfl, h_⟩; clear cf_9 cf_10 cf_11; have S12 := Aside0.mk h_; clear h_))
  go_upto_region 5 with (fail)
  go_wp2_with (fail)
  go_loopg [9] 60 (fun kq v9 w' => ∃ i : Nat, v9 = .int .i64 i ∧ i ≤ 60 ∧ 60 - i ≤ kq ∧ Aside0 (FInv w w' B bl BR BL i))
  case atStart => exact ⟨0, rfl, by omega, by omega, ⟨_, 0, newAs_ok HC.out, Nat.le_refl 0, ((((((S12.out).erase 4).bring 1 rfl).bring 1 rfl).bring 3 rfl).bring 3 rfl)⟩⟩
  case round =>
   obtain ⟨i, rfl, hi, hg, HI⟩ := hrel
   obtain ⟨s, q, hk, hqi, h_⟩ := HI.out
   have HK := Aside0.mk hk
   have HQ := Aside0.mk (show q ≤ i ∧ q ≤ 60 by omega)
   have SI := Aside0.mk h_
   clear hk hqi h_ HI
   rcases Decidable.em ((i : Int) < (acts.length : Int)) with q14 | q14
   ·have t17 : decide (i < acts.length) = true := decide_eq_true (by omega)
    have t15 : decide ((i : Int) < (acts.length : Int)) = true := decide_eq_true q14
    have Xq14 := Aside0.mk q14
    clear q14
    rcases Decidable.em ((i : Int) < 60) with q18 | q18
    ·have t21 : decide (i < 60) = true := decide_eq_true (by omega)
     have t19 : decide ((i : Int) < 60) = true := decide_eq_true q18
     have Xq18 := Aside0.mk q18
     clear q18
     go_upto_region 6 with (fail)
     go_upto_region 8 with (fail)
     have HLT := Aside0.mk (show i < acts.length ∧ i < 60 by have h1 := Xq14.out; have h2 := Xq18.out; omega)
     obtain ⟨ad, A10, c10, A11, c11, A30, c30, A34, c34, A35, c35, A36, c36, A38, c38, A39, c39, A47, c47, e0, hy, hx1⟩ := act_at HR.out i HLT.out.1
     cases e0
     generalize acts.getD i z52 = x at hy hx1
     have HX := Aside0.mk hx1
     have HY := Aside0.mk (fun j v hv => pw_cell_below (SI.out.toBelow 4 rfl) (hy j v hv))
     clear hy hx1
     go_upto_region 9 with (first | ((refine gate_dst (N := 62) rfl ?_); refine index_at rfl 22 _ _ rfl rfl rfl (by omega) (by have := HLT.out.1; omega) Try.underlying22 (sz := 48) (by kernel_rfl) ?_; rw [Int.toNat_natCast]) | ((refine gate_ (.load 52 (.tmp 62)) rfl ?_); refine load_at rfl 52 _ rfl _ rfl (actL x A10 c10 A11 c11 A30 c30 A34 c34 A35 c35 A36 c36 A38 c38 A39 c39 A47 c47) HY.out Try.underlying52 rfl (by kernel_rfl) ?_) | ((refine gate_dst (N := 10) rfl ?_); refine st_box ?hg (N := 10) ?hd (actL z52 none 0 none 0 none 0 none 0 none 0 none 0 none 0 none 0 none 0).toArray 52 ?hr SI.out ?_; (case hd => rfl); (case hg => rfl); (case hr => first | (go_simp; done) | (go_simp; rfl)); intro g22 w23 hg_ h_ hb_; have S24 := Aside0.mk h_; have BS24 := Aside0.mk hb_; have GS24 := Aside0.mk hg_; clear h_ hb_ hg_) | ((refine gate_ (.store 52 (.tmp 10) (.tmp 63)) rfl ?_); refine st_store rfl rfl 52 _ _ rfl rfl rfl (seg := (actL x A10 c10 A11 c11 A30 c30 A34 c34 A35 c35 A36 c36 A38 c38 A39 c39 A47 c47)) rfl (by kernel_rfl) (by rfl) S24.out 0 rfl (Nat.le_of_ble_eq_true rfl) ?_; intro w25 h_; have S26 : Aside0 (St w w25 (Blk g22 (actL x A10 c10 A11 c11 A30 c30 A34 c34 A35 c35 A36 c36 A38 c38 A39 c39 A47 c47).toArray 52 :: Blk B (askA s bl) 97 :: MapT bl (q) (s).lead :: Blk BR (refA s BL) 87 :: Blk BL (leadA s) 3 :: [Old w])) := Aside0.mk h_; clear h_))
     go_upto_region 10 with (first | ((refine gate_ (.load 47 (.tmp 64)) rfl ?_); refine st_load rfl 47 _ rfl rfl S26.out 0 rfl [(.int .i64 x.f2.f0), (.int .i64 x.f2.f1), (.int .i64 x.f2.f2), (.int .i64 x.f2.f3), (.int .i64 x.f2.f4.f0), (.int .i64 x.f2.f4.f1), (.int .i64 x.f2.f4.f2), (.int .i64 x.f2.f4.f3), (.int .i64 x.f2.f4.f4), (.int .i64 x.f2.f4.f5), (.slice A10 x.f2.f4.f6.length c10), (.slice A11 x.f2.f4.f7.length c11), (.int .i64 x.f2.f5.f0), (.int .i64 x.f2.f5.f1), (.int .i64 x.f2.f5.f2), (.int .i64 x.f2.f5.f3), (.int .i64 x.f2.f5.f4), (.string x.f2.f5.f5), (.string x.f2.f5.f6), (.string x.f2.f5.f7), (.string x.f2.f5.f8), (.int .i64 x.f2.f5.f9), (.int .i64 x.f2.f5.f10), (.int .i64 x.f2.f5.f11.f0), (.string x.f2.f5.f11.f1), (.int .i64 x.f2.f5.f11.f2), (.int .i64 x.f2.f5.f11.f3), (.int .i64 x.f2.f5.f12.f0), (.int .i64 x.f2.f5.f12.f1), (.int .i64 x.f2.f5.f13), (.slice A30 x.f2.f5.f14.length c30), (.int .i64 x.f2.f6.f0), (.int .i64 x.f2.f6.f1), (.int .i64 x.f2.f6.f2), (.slice A34 x.f2.f6.f3.length c34), (.slice A35 x.f2.f6.f4.length c35), (.slice A36 x.f2.f6.f5.length c36), (.int .i64 x.f2.f7.f0), (.slice A38 x.f2.f7.f1.length c38), (.slice A39 x.f2.f8.length c39)] rfl Try.underlying47 rfl (by kernel_rfl) ?_) | (go_at_call 8; (refine (fewT w _ _ S26.out x.f2 A10 A11 A30 A34 A35 A36 A38 A39 c10 c11 c30 c34 c35 c36 c38 c39 (fun W hW => ⟨heap115.C (hW.old 5 rfl) HX.out.2.1, heap35.C (hW.old 5 rfl) HX.out.2.2.2.1, heap108.C (hW.old 5 rfl) HX.out.2.2.2.2.2⟩) HX.out.1 HX.out.2.2.1 HX.out.2.2.2.2.1).mono ?_); rintro e1 w28 ⟨A3, c3, A5, c5, A7, c7, rfl, h_⟩; have S27 := Aside0.mk h_; clear h_) | ((refine gate_dst (N := 11) rfl ?_); refine st_box ?hg (N := 11) ?hd (pkA z47 (.slice none 0 0) (.slice none 0 0) (.slice none 0 0) none 0 none 0 none 0 (.slice none 0 0)) 47 ?hr S27.out ?_; (case hd => rfl); (case hg => rfl); (case hr => first | (go_simp; done) | (go_simp; rfl)); intro g29 w30 hg_ h_ hb_; have S31 := Aside0.mk h_; have BS31 := Aside0.mk hb_; have GS31 := Aside0.mk hg_; clear h_ hb_ hg_) | ((refine gate_ (.store 47 (.tmp 11) (.tmp 66)) rfl ?_); refine st_store rfl rfl 47 _ _ rfl rfl rfl (seg := (pkA (fewV x.f2) (.slice none 0 0) (.slice none 0 0) (.slice none 0 0) A3 c3 A5 c5 A7 c7 (.slice A39 x.f2.f8.length c39)).toList) rfl (by kernel_rfl) (by rfl) S31.out 0 rfl (Nat.le_of_ble_eq_true rfl) ?_; intro w32 h_; have S33 : Aside0 (St w w32 (Blk g29 (pkA (fewV x.f2) (.slice none 0 0) (.slice none 0 0) (.slice none 0 0) A3 c3 A5 c5 A7 c7 (.slice A39 x.f2.f8.length c39)) 47 :: Row k115 115 (.slice A3 (fewV x.f2).f6.f3.length c3) (fewV x.f2).f6.f3 :: Row k35 35 (.slice A5 (fewV x.f2).f6.f5.length c5) (fewV x.f2).f6.f5 :: Row k108 108 (.slice A7 (fewV x.f2).f7.f1.length c7) (fewV x.f2).f7.f1 :: Blk g22 (actL x A10 c10 A11 c11 A30 c30 A34 c34 A35 c35 A36 c36 A38 c38 A39 c39 A47 c47).toArray 52 :: Blk B (askA s bl) 97 :: MapT bl (q) (s).lead :: Blk BR (refA s BL) 87 :: Blk BL (leadA s) 3 :: [Old w])) := Aside0.mk h_; clear h_))
     have cf_34 : w32.cell? ⟨g22, 1, none⟩ = some (.bool x.f1) := S33.out.cell 4 1 rfl rfl
     go_upto_if 68 with (fail)
     clear cf_34
     go_cut [11] (fun v11 w' => v11 = .pointer (some ⟨g29, 0, none⟩) ∧ ∃ P, PkOk P ∧ Aside0 (St w w' (Blk g29 (pkA P (.slice none 0 0) (.slice none 0 0) (.slice none 0 0) A3 c3 A5 c5 A7 c7 (.slice A39 x.f2.f8.length c39)) 47 :: Row k115 115 (.slice A3 P.f6.f3.length c3) P.f6.f3 :: Row k35 35 (.slice A5 P.f6.f5.length c5) P.f6.f5 :: Row k108 108 (.slice A7 P.f7.f1.length c7) P.f7.f1 :: Blk g22 (actL x A10 c10 A11 c11 A30 c30 A34 c34 A35 c35 A36 c36 A38 c38 A39 c39 A47 c47).toArray 52 :: Blk B (askA s bl) 97 :: MapT bl (q) (s).lead :: Blk BR (refA s BL) 87 :: Blk BL (leadA s) 3 :: [Old w])))
     case first =>
      rcases Bool.eq_false_or_eq_true x.f1 with q35 | q35
      ·have Xq35 := Aside0.mk q35
       rw [q35]
       go_upto_region 11 with (fail)
       go_wp2_with (first | ((refine gate_ (.load 47 (.tmp 11)) rfl ?_); refine st_load rfl 47 _ rfl rfl S33.out 0 rfl (pkA (fewV x.f2) (.slice none 0 0) (.slice none 0 0) (.slice none 0 0) A3 c3 A5 c5 A7 c7 (.slice A39 x.f2.f8.length c39)).toList rfl Try.underlying47 rfl (by kernel_rfl) ?_) | (go_at_call 20; (refine (refOwn w _ (Blk g29 (pkA (fewV x.f2) (.slice none 0 0) (.slice none 0 0) (.slice none 0 0) A3 c3 A5 c5 A7 c7 (.slice A39 x.f2.f8.length c39)) 47 :: Row k115 115 (.slice A3 (fewV x.f2).f6.f3.length c3) (fewV x.f2).f6.f3 :: Row k35 35 (.slice A5 (fewV x.f2).f6.f5.length c5) (fewV x.f2).f6.f5 :: Row k108 108 (.slice A7 (fewV x.f2).f7.f1.length c7) (fewV x.f2).f7.f1 :: Blk g22 (actL x A10 c10 A11 c11 A30 c30 A34 c34 A35 c35 A36 c36 A38 c38 A39 c39 A47 c47).toArray 52 :: Blk B (askA s bl) 97 :: MapT bl (q) (s).lead :: [Old w]) BR BL q s ((((((((((S33.out).bring 6 rfl).bring 6 rfl).bring 6 rfl).bring 6 rfl).bring 6 rfl).bring 6 rfl).bring 6 rfl).bring 8 rfl).bring 8 rfl) HK.out (fewV x.f2) A3 A5 A7 A39 c3 c5 c7 x.f2.f8.length c39).mono ?_); rintro e1 w37 ⟨rfl, h_⟩; have S36 := Aside0.mk h_; clear h_) | ((refine gate_ (.store 47 (.tmp 11) (.tmp 71)) rfl ?_); refine st_store rfl rfl 47 _ _ rfl rfl rfl (seg := (pkA (ownV s (fewV x.f2)) (.slice none 0 0) (.slice none 0 0) (.slice none 0 0) A3 c3 A5 c5 A7 c7 (.slice A39 x.f2.f8.length c39)).toList) rfl (by kernel_rfl) (by rfl) S36.out 2 rfl (Nat.le_of_ble_eq_true rfl) ?_; intro w38 h_; have S39 : Aside0 (St w w38 (Blk BR (refA s BL) 87 :: Blk BL (leadA s) 3 :: Blk g29 (pkA (ownV s (fewV x.f2)) (.slice none 0 0) (.slice none 0 0) (.slice none 0 0) A3 c3 A5 c5 A7 c7 (.slice A39 x.f2.f8.length c39)) 47 :: Row k115 115 (.slice A3 (fewV x.f2).f6.f3.length c3) (fewV x.f2).f6.f3 :: Row k35 35 (.slice A5 (fewV x.f2).f6.f5.length c5) (fewV x.f2).f6.f5 :: Row k108 108 (.slice A7 (fewV x.f2).f7.f1.length c7) (fewV x.f2).f7.f1 :: Blk g22 (actL x A10 c10 A11 c11 A30 c30 A34 c34 A35 c35 A36 c36 A38 c38 A39 c39 A47 c47).toArray 52 :: Blk B (askA s bl) 97 :: MapT bl (q) (s).lead :: [Old w])) := Aside0.mk h_; clear h_))
       go_meet
       exact ⟨rfl, _, own_pk (few_pk x.f2), ⟨by rw [(own_f6 s (fewV x.f2)).1, (own_f6 s (fewV x.f2)).2.1]; exact ((((((((((S39.out).bring 1 rfl).bring 1 rfl).bring 8 rfl).bring 8 rfl).bring 8 rfl).bring 8 rfl).bring 8 rfl).bring 8 rfl).bring 8 rfl)⟩⟩
      ·have Xq35 := Aside0.mk q35
       rw [q35]
       go_wp2_with (fail)
       go_meet
       exact ⟨rfl, _, few_pk x.f2, ⟨(S33.out)⟩⟩
     case rest =>
      obtain ⟨rfl, P, hP, h_⟩ := hcut
      have HP := Aside0.mk hP
      have SC := h_
      clear hP h_
      go_upto_region 12 with (fail)
      have cf_40 : wc.cell? ⟨g22, 0, none⟩ = some (.int .i64 x.f0) := SC.out.cell 4 0 rfl rfl
      rcases Decidable.em (x.f0 = 0) with q41 | q41
      ·have t42 : (x.f0 == 0) = true := beq_iff_eq.2 q41
       have u43 : (x.f0 != 0) = false := by rw [bne, t42]; rfl
       have Xq41 := Aside0.mk q41
       clear q41
       go_upto_region 15 with (fail)
       clear cf_40
       go_upto_region 16 with (fail)
       go_upto_region 26 with (first | (go_at_call 22; (refine (askTickT w _ (Blk g29 (pkA P (.slice none 0 0) (.slice none 0 0) (.slice none 0 0) A3 c3 A5 c5 A7 c7 (.slice A39 x.f2.f8.length c39)) 47 :: Row k115 115 (.slice A3 P.f6.f3.length c3) P.f6.f3 :: Row k35 35 (.slice A5 P.f6.f5.length c5) P.f6.f5 :: Row k108 108 (.slice A7 P.f7.f1.length c7) P.f7.f1 :: Blk g22 (actL x A10 c10 A11 c11 A30 c30 A34 c34 A35 c35 A36 c36 A38 c38 A39 c39 A47 c47).toArray 52 :: Blk BR (refA s BL) 87 :: Blk BL (leadA s) 3 :: [Old w]) B bl q s ((((((((((SC.out).bring 8 rfl).bring 8 rfl).bring 6 rfl).bring 6 rfl).bring 6 rfl).bring 6 rfl).bring 6 rfl).bring 8 rfl).bring 8 rfl) HK.out ).mono ?_); rintro e1 w45 ⟨v1, rfl, h_⟩; have S44 := Aside0.mk h_; clear h_) | (go_at_call 23; (refine (refTick w _ (Blk B (askA (tickV s).1 bl) 97 :: MapT bl (q + 1) ((tickV s).1).lead :: Row k47 47 v1 (tickV s).2 :: Blk g29 (pkA P (.slice none 0 0) (.slice none 0 0) (.slice none 0 0) A3 c3 A5 c5 A7 c7 (.slice A39 x.f2.f8.length c39)) 47 :: Row k115 115 (.slice A3 P.f6.f3.length c3) P.f6.f3 :: Row k35 35 (.slice A5 P.f6.f5.length c5) P.f6.f5 :: Row k108 108 (.slice A7 P.f7.f1.length c7) P.f7.f1 :: Blk g22 (actL x A10 c10 A11 c11 A30 c30 A34 c34 A35 c35 A36 c36 A38 c38 A39 c39 A47 c47).toArray 52 :: [Old w]) BR BL q s (((((((((((S44.out).bring 7 rfl).bring 7 rfl).bring 7 rfl).bring 7 rfl).bring 7 rfl).bring 7 rfl).bring 7 rfl).bring 7 rfl).bring 9 rfl).bring 9 rfl) HK.out ).mono ?_); rintro e1 w47 ⟨AT, nT, rfl, h_⟩; have S46 := Aside0.mk h_; clear h_; have HK2 := Aside0.mk (show As.ok (tickV s).1 (q + 1) from (tickV_ok HK.out).mono (Nat.le_succ q) (by have := HQ.out; omega))) | (go_at_call 21; (refine (samePkT w _ (Blk BR (refA (tickV s).1 BL) 87 :: Blk BL (leadA (tickV s).1) 3 :: Blk B (askA (tickV s).1 bl) 97 :: MapT bl (q + 1) ((tickV s).1).lead :: Blk g29 (pkA P (.slice none 0 0) (.slice none 0 0) (.slice none 0 0) A3 c3 A5 c5 A7 c7 (.slice A39 x.f2.f8.length c39)) 47 :: Row k115 115 (.slice A3 P.f6.f3.length c3) P.f6.f3 :: Row k35 35 (.slice A5 P.f6.f5.length c5) P.f6.f5 :: Row k108 108 (.slice A7 P.f7.f1.length c7) P.f7.f1 :: Blk g22 (actL x A10 c10 A11 c11 A30 c30 A34 c34 A35 c35 A36 c36 A38 c38 A39 c39 A47 c47).toArray 52 :: [Old w]) v1 AT nT s q HK.out ((((((((((((S46.out).bring 10 rfl).bring 10 rfl).bring 10 rfl).bring 10 rfl).bring 10 rfl).bring 9 rfl).bring 9 rfl).bring 8 rfl).bring 8 rfl).bring 9 rfl).bring 10 rfl)).mono ?_); rintro e1 w49 ⟨rfl, h_⟩; have S48 := Aside0.mk h_; clear h_))
       have S51 := Aside0.mk S48.out.drew
       refine start_ (n := 16) (S := fun w' => St w w' (Blk BR (refA (tickV s).1 BL) 87 :: [Old w])) (ds := []) (bits 16 0) (by kernel_rfl) rfl rfl ((((((((((S48.out).erase 8).erase 7).erase 6).erase 5).erase 4).erase 3).erase 2).erase 1)).drew (fun hHeld => ?_)
       generalize w49.drew = w50 at S51 hHeld ⊢
       refine pu 0 129 (bits 16 1) ?_ rfl rfl (by kernel_rfl) (fun _ _ _ h => h) (by rfl) ?_ ?_ ?_ ?_
       rotate_left
       ·intro w'; go_simp; with_reducible rfl
       rotate_left
       ·simp only [Act.put, sqA, sqB, sqC, i64_w, i32_w]; rfl
       refine pu 2 131 (bits 16 5) ?_ rfl rfl (by kernel_rfl) (fun _ _ _ h => h) (by rfl) ?_ ?_ ?_ ?_
       rotate_left
       ·intro w'; go_simp; with_reducible rfl
       rotate_left
       ·simp only [Act.put, sqA, sqB, sqC, i64_w, i32_w]; rfl
       refine pu 3 132 (bits 16 13) ?_ rfl rfl (by kernel_rfl) (fun _ _ _ h => h) (by rfl) ?_ ?_ ?_ ?_
       rotate_left
       ·intro w'; go_simp; with_reducible rfl
       rotate_left
       ·simp only [Act.put, sqA, sqB, sqC, i64_w, i32_w]; rfl
       refine pu 4 133 (bits 16 29) ?_ rfl rfl (by kernel_rfl) (fun _ _ _ h => h) (by rfl) ?_ ?_ ?_ ?_
       rotate_left
       ·intro w'; go_simp; with_reducible rfl
       rotate_left
       ·simp only [Act.put, sqA, sqB, sqC, i64_w, i32_w]; rfl
       refine tk 5 134 (bits 16 61) ?_ rfl rfl (by kernel_rfl) (fun _ _ _ h => h) (by rfl) ?_ hHeld ?_ ?_ ?_
       rotate_left
       ·intro w' hw'; have s0 : w'.cell? ⟨BR, 24, none⟩ = some (.bool ((tickV s).1).busy) := hw'.cell 0 24 rfl rfl; go_simp; with_reducible rfl
       rotate_left
       ·simp only [Act.put, sqA, sqB, sqC, i64_w, i32_w]; rfl
       refine one_ (i := 1) (N := some 130) (bits 16 63) rfl rfl (by kernel_rfl) (by decide) (fun K hK => ?_)
       refine goes_ Try.func31 (by kernel_rfl) rfl #[(.pointer (some ⟨B, 0, none⟩))] (by rfl) rfl rfl (by (try simp only [List.map_toArray, List.map_cons, List.map_nil]); first | done | rfl) ?_
       refine (askBusyT w _ (Blk BR (refA (tickV s).1 BL) 87 :: Blk BL (leadA (tickV s).1) 3 :: Blk g29 (pkA P (.slice none 0 0) (.slice none 0 0) (.slice none 0 0) A3 c3 A5 c5 A7 c7 (.slice A39 x.f2.f8.length c39)) 47 :: Row k115 115 (.slice A3 P.f6.f3.length c3) P.f6.f3 :: Row k35 35 (.slice A5 P.f6.f5.length c5) P.f6.f5 :: Row k108 108 (.slice A7 P.f7.f1.length c7) P.f7.f1 :: Blk g22 (actL x A10 c10 A11 c11 A30 c30 A34 c34 A35 c35 A36 c36 A38 c38 A39 c39 A47 c47).toArray 52 :: [Old w]) B bl (q + 1) (tickV s).1 ((((((((((S51.out).bring 8 rfl).bring 8 rfl).bring 8 rfl).bring 8 rfl).bring 8 rfl).bring 6 rfl).bring 6 rfl).bring 8 rfl).bring 8 rfl) HK2.out).mono ?_
       rintro e1 w53 ⟨rfl, h_⟩
       have S52 := Aside0.mk h_
       clear h_
       refine ⟨_, rfl, ?_⟩
       refine hK.out _ _ ((((((((((S52.out).erase 8).erase 7).erase 6).erase 5).erase 4).erase 3).erase 1).erase 0)) ?_
       clear hHeld
       intro hHeld
       clear hK K
       refine norm_ (a' := ?_) ?_ ?_
       rotate_left
       ·show Act.put _ (some 130) _ = _; simp only [Act.put, sqA, sqB, sqC, i64_w, i32_w]; rfl
       refine pu 6 135 (bits 16 127) ?_ rfl rfl (by kernel_rfl) (fun _ _ _ h => h) (by rfl) ?_ ?_ ?_ ?_
       rotate_left
       ·intro w'; go_simp; with_reducible rfl
       rotate_left
       ·simp only [Act.put, sqA, sqB, sqC, i64_w, i32_w]; rfl
       refine pu 7 136 (bits 16 255) ?_ rfl rfl (by kernel_rfl) (fun _ _ _ h => h) (by rfl) ?_ ?_ ?_ ?_
       rotate_left
       ·intro w'; go_simp; with_reducible rfl
       rotate_left
       ·simp only [Act.put, sqA, sqB, sqC, i64_w, i32_w]; rfl
       refine pu 8 137 (bits 16 511) ?_ rfl rfl (by kernel_rfl) (fun _ _ _ h => h) (by rfl) ?_ ?_ ?_ ?_
       rotate_left
       ·intro w'; go_simp; with_reducible rfl
       rotate_left
       ·simp only [Act.put, sqA, sqB, sqC, i64_w, i32_w]; rfl
       refine pu 10 139 (bits 16 1535) ?_ rfl rfl (by kernel_rfl) (fun _ _ _ h => h) (by rfl) ?_ ?_ ?_ ?_
       rotate_left
       ·intro w'; go_simp; with_reducible rfl
       rotate_left
       ·simp only [Act.put, sqA, sqB, sqC, i64_w, i32_w]; rfl
       refine pu 11 140 (bits 16 3583) ?_ rfl rfl (by kernel_rfl) (fun _ _ _ h => h) (by rfl) ?_ ?_ ?_ ?_
       rotate_left
       ·intro w'; go_simp; with_reducible rfl
       rotate_left
       ·simp only [Act.put, sqA, sqB, sqC, i64_w, i32_w]; rfl
       refine pu 12 141 (bits 16 7679) ?_ rfl rfl (by kernel_rfl) (fun _ _ _ h => h) (by rfl) ?_ ?_ ?_ ?_
       rotate_left
       ·intro w'; go_simp; with_reducible rfl
       rotate_left
       ·simp only [Act.put, sqA, sqB, sqC, i64_w, i32_w]; rfl
       refine tk 13 142 (bits 16 15871) ?_ rfl rfl (by kernel_rfl) (fun _ _ _ h => h) (by rfl) ?_ hHeld ?_ ?_ ?_
       rotate_left
       ·intro w' hw'; have s0 : w'.cell? ⟨BR, 3, none⟩ = some (.int .i64 ((tickV s).1).num) := hw'.cell 0 3 rfl rfl; go_simp; with_reducible rfl
       rotate_left
       ·simp only [Act.put, sqA, sqB, sqC, i64_w, i32_w]; rfl
       refine one_ (i := 9) (N := some 138) (bits 16 16383) rfl rfl (by kernel_rfl) (by decide) (fun K hK => ?_)
       refine goes_ Try.func32 (by kernel_rfl) rfl #[(.pointer (some ⟨B, 0, none⟩))] (by rfl) rfl rfl (by (try simp only [List.map_toArray, List.map_cons, List.map_nil]); first | done | rfl) ?_
       refine (askNumT w _ (Blk BR (refA (tickV s).1 BL) 87 :: Blk BL (leadA (tickV s).1) 3 :: Blk g29 (pkA P (.slice none 0 0) (.slice none 0 0) (.slice none 0 0) A3 c3 A5 c5 A7 c7 (.slice A39 x.f2.f8.length c39)) 47 :: Row k115 115 (.slice A3 P.f6.f3.length c3) P.f6.f3 :: Row k35 35 (.slice A5 P.f6.f5.length c5) P.f6.f5 :: Row k108 108 (.slice A7 P.f7.f1.length c7) P.f7.f1 :: Blk g22 (actL x A10 c10 A11 c11 A30 c30 A34 c34 A35 c35 A36 c36 A38 c38 A39 c39 A47 c47).toArray 52 :: [Old w]) B bl (q + 1) (tickV s).1 (S52.out) HK2.out).mono ?_
       rintro e1 w55 ⟨rfl, h_⟩
       have S54 := Aside0.mk h_
       clear h_
       refine ⟨_, rfl, ?_⟩
       refine hK.out _ _ ((((((((((S54.out).erase 8).erase 7).erase 6).erase 5).erase 4).erase 3).erase 1).erase 0)) ?_
       clear hHeld
       intro hHeld
       clear hK K
       refine norm_ (a' := ?_) ?_ ?_
       rotate_left
       ·show Act.put _ (some 138) _ = _; simp only [Act.put, sqA, sqB, sqC, i64_w, i32_w]; rfl
       refine pu 14 143 (bits 16 32767) ?_ rfl rfl (by kernel_rfl) (fun _ _ _ h => h) (by rfl) ?_ ?_ ?_ ?_
       rotate_left
       ·intro w'; go_simp; with_reducible rfl
       rotate_left
       ·simp only [Act.put, sqA, sqB, sqC, i64_w, i32_w]; rfl
       refine pu 15 144 (bits 16 65535) ?_ rfl rfl (by kernel_rfl) (fun _ _ _ h => h) (by rfl) ?_ ?_ ?_ ?_
       rotate_left
       ·intro w'; go_simp; with_reducible rfl
       rotate_left
       ·simp only [Act.put, sqA, sqB, sqC, i64_w, i32_w]; rfl
       refine done_ (by kernel_rfl) ?_
       clear hHeld
       go_upto_region 7 with (fail)
       go_wp2_with (fail)
       go_roundg (60 - (i + 1))
       case measure => have := HLT.out; omega
       case rel => exact ⟨i + 1, by go_num, by have := HLT.out; omega, by have := HLT.out; omega, ⟨(tickV s).1, q + 1, HK2.out, (by have := HQ.out; omega), ((((((S54.out).erase 8).erase 7).erase 6).erase 5).erase 4)⟩⟩
      ·have t42 : (x.f0 == 0) = false := beq_eq_false_iff_ne.2 q41
       have u43 : (x.f0 != 0) = true := by rw [bne, t42]; rfl
       have Xq41 := Aside0.mk q41
       clear q41
       go_upto_region 15 with (fail)
       clear cf_40
       rcases Decidable.em (x.f0 = 1) with q56 | q56
       ·have t57 : (x.f0 == 1) = true := beq_iff_eq.2 q56
        have u58 : (x.f0 != 1) = false := by rw [bne, t57]; rfl
        have Xq56 := Aside0.mk q56
        clear q56
        go_upto_region 18 with (fail)
        go_upto_region 19 with (fail)
        go_upto_region 20 with (first | ((refine gate_ (.load 47 (.tmp 11)) rfl ?_); refine st_load rfl 47 _ rfl rfl SC.out 0 rfl (pkA P (.slice none 0 0) (.slice none 0 0) (.slice none 0 0) A3 c3 A5 c5 A7 c7 (.slice A39 x.f2.f8.length c39)).toList rfl Try.underlying47 rfl (by kernel_rfl) ?_) | (go_at_call 24; (refine (recv2 w _ (Blk g29 (pkA P (.slice none 0 0) (.slice none 0 0) (.slice none 0 0) A3 c3 A5 c5 A7 c7 (.slice A39 x.f2.f8.length c39)) 47 :: Row k115 115 (.slice A3 P.f6.f3.length c3) P.f6.f3 :: Row k35 35 (.slice A5 P.f6.f5.length c5) P.f6.f5 :: Row k108 108 (.slice A7 P.f7.f1.length c7) P.f7.f1 :: Blk g22 (actL x A10 c10 A11 c11 A30 c30 A34 c34 A35 c35 A36 c36 A38 c38 A39 c39 A47 c47).toArray 52 :: Blk BR (refA s BL) 87 :: Blk BL (leadA s) 3 :: [Old w]) B bl q s ((((((((((SC.out).bring 8 rfl).bring 8 rfl).bring 6 rfl).bring 6 rfl).bring 6 rfl).bring 6 rfl).bring 6 rfl).bring 8 rfl).bring 8 rfl) HK.out P (.slice none 0 0) (.slice none 0 0) (.slice none 0 0) (.slice A39 x.f2.f8.length c39) A3 A5 A7 c3 c5 c7 (fun W hW => ⟨⟨(hW.reads 1 rfl).1, (hW.reads 1 rfl).2⟩, (hW.reads 2 rfl).1, (hW.reads 2 rfl).2⟩) HP.out.l35).mono ?_); rintro e1 w60 ⟨B3, e3, B5, e5, rfl, h_⟩; have S59 := Aside0.mk h_; clear h_) | ((refine gate_dst (N := 12) rfl ?_); refine st_box ?hg (N := 12) ?hd #[(.int .i64 0), (.int .i64 0), (.int .i64 0), (.slice none 0 0), (.slice none 0 0), (.slice none 0 0)] 42 ?hr S59.out ?_; (case hd => rfl); (case hg => rfl); (case hr => first | (go_simp; done) | (go_simp; rfl)); intro g61 w62 hg_ h_ hb_; have S63 := Aside0.mk h_; have BS63 := Aside0.mk hb_; have GS63 := Aside0.mk hg_; clear h_ hb_ hg_) | ((refine gate_ (.store 42 (.tmp 12) (.tmp 97)) rfl ?_); refine st_store rfl rfl 42 _ _ rfl rfl rfl (seg := [(.int .i64 (recvV s P).2.1.f0), (.int .i64 (recvV s P).2.1.f1), (.int .i64 (recvV s P).2.1.f2), (.slice B3 (recvV s P).2.1.f3.length e3), (.slice none 0 0), (.slice B5 (recvV s P).2.1.f5.length e5)]) rfl (by kernel_rfl) (by rfl) S63.out 0 rfl (Nat.le_of_ble_eq_true rfl) ?_; intro w64 h_; have S65 : Aside0 (St w w64 (Blk g61 #[(.int .i64 (recvV s P).2.1.f0), (.int .i64 (recvV s P).2.1.f1), (.int .i64 (recvV s P).2.1.f2), (.slice B3 (recvV s P).2.1.f3.length e3), (.slice none 0 0), (.slice B5 (recvV s P).2.1.f5.length e5)] 42 :: Blk B (askA (recvV s P).1 bl) 97 :: MapT bl (q + 1) ((recvV s P).1).lead :: Row k115 115 (.slice B3 (recvV s P).2.1.f3.length e3) (recvV s P).2.1.f3 :: Row k35 35 (.slice B5 (recvV s P).2.1.f5.length e5) (recvV s P).2.1.f5 :: Blk g29 (pkA P (.slice none 0 0) (.slice none 0 0) (.slice none 0 0) A3 c3 A5 c5 A7 c7 (.slice A39 x.f2.f8.length c39)) 47 :: Row k115 115 (.slice A3 P.f6.f3.length c3) P.f6.f3 :: Row k35 35 (.slice A5 P.f6.f5.length c5) P.f6.f5 :: Row k108 108 (.slice A7 P.f7.f1.length c7) P.f7.f1 :: Blk g22 (actL x A10 c10 A11 c11 A30 c30 A34 c34 A35 c35 A36 c36 A38 c38 A39 c39 A47 c47).toArray 52 :: Blk BR (refA s BL) 87 :: Blk BL (leadA s) 3 :: [Old w])) := Aside0.mk h_; clear h_))
        go_upto_region 21 with (first | ((refine gate_ (.load 47 (.tmp 11)) rfl ?_); refine st_load rfl 47 _ rfl rfl S65.out 5 rfl (pkA P (.slice none 0 0) (.slice none 0 0) (.slice none 0 0) A3 c3 A5 c5 A7 c7 (.slice A39 x.f2.f8.length c39)).toList rfl Try.underlying47 rfl (by kernel_rfl) ?_) | (go_at_call 25; (refine (refRecv w _ (Blk g61 #[(.int .i64 (recvV s P).2.1.f0), (.int .i64 (recvV s P).2.1.f1), (.int .i64 (recvV s P).2.1.f2), (.slice B3 (recvV s P).2.1.f3.length e3), (.slice none 0 0), (.slice B5 (recvV s P).2.1.f5.length e5)] 42 :: Blk B (askA (recvV s P).1 bl) 97 :: MapT bl (q + 1) ((recvV s P).1).lead :: Row k115 115 (.slice B3 (recvV s P).2.1.f3.length e3) (recvV s P).2.1.f3 :: Row k35 35 (.slice B5 (recvV s P).2.1.f5.length e5) (recvV s P).2.1.f5 :: Blk g29 (pkA P (.slice none 0 0) (.slice none 0 0) (.slice none 0 0) A3 c3 A5 c5 A7 c7 (.slice A39 x.f2.f8.length c39)) 47 :: Row k115 115 (.slice A3 P.f6.f3.length c3) P.f6.f3 :: Row k35 35 (.slice A5 P.f6.f5.length c5) P.f6.f5 :: Row k108 108 (.slice A7 P.f7.f1.length c7) P.f7.f1 :: Blk g22 (actL x A10 c10 A11 c11 A30 c30 A34 c34 A35 c35 A36 c36 A38 c38 A39 c39 A47 c47).toArray 52 :: [Old w]) BR BL q s (((((((((((((S65.out).bring 9 rfl).bring 9 rfl).bring 9 rfl).bring 9 rfl).bring 9 rfl).bring 9 rfl).bring 9 rfl).bring 9 rfl).bring 9 rfl).bring 9 rfl).bring 11 rfl).bring 11 rfl) HK.out P (.slice none 0 0) (.slice none 0 0) (.slice none 0 0) (.slice A39 x.f2.f8.length c39) A3 A5 A7 c3 c5 c7 HP.out.f4).mono ?_); rintro e1 w67 ⟨G3, G5, m3, m5, rfl, hd_, h_⟩; have S66 := Aside0.mk h_; clear h_; have HD := Aside0.mk hd_; clear hd_; have HK2 := Aside0.mk (show As.ok (recvV s P).1 (q + 1) from (recvV_ok HK.out _).mono (Nat.le_succ q) (by have := HQ.out; omega))) | ((refine gate_dst (N := 14) rfl ?_); refine st_box ?hg (N := 14) ?hd #[(.int .i64 0), (.int .i64 0), (.int .i64 0), (.slice none 0 0), (.slice none 0 0), (.slice none 0 0)] 42 ?hr S66.out ?_; (case hd => rfl); (case hg => rfl); (case hr => first | (go_simp; done) | (go_simp; rfl)); intro g68 w69 hg_ h_ hb_; have S70 := Aside0.mk h_; have BS70 := Aside0.mk hb_; have GS70 := Aside0.mk hg_; clear h_ hb_ hg_) | ((refine gate_ (.store 42 (.tmp 14) (.tmp 103)) rfl ?_); refine st_store rfl rfl 42 _ _ rfl rfl rfl (seg := [(.int .i64 (recvV s P).2.1.f0), (.int .i64 (recvV s P).2.1.f1), (.int .i64 (recvV s P).2.1.f2), (.slice G3 (recvV s P).2.1.f3.length m3), (.slice none 0 0), (.slice G5 (recvV s P).2.1.f5.length m5)]) rfl (by kernel_rfl) (by rfl) S70.out 0 rfl (Nat.le_of_ble_eq_true rfl) ?_; intro w71 h_; have S72 : Aside0 (St w w71 (Blk g68 #[(.int .i64 (recvV s P).2.1.f0), (.int .i64 (recvV s P).2.1.f1), (.int .i64 (recvV s P).2.1.f2), (.slice G3 (recvV s P).2.1.f3.length m3), (.slice none 0 0), (.slice G5 (recvV s P).2.1.f5.length m5)] 42 :: Blk BR (refA (recvV s P).1 BL) 87 :: Blk BL (leadA (recvV s P).1) 3 :: Blk g61 #[(.int .i64 (recvV s P).2.1.f0), (.int .i64 (recvV s P).2.1.f1), (.int .i64 (recvV s P).2.1.f2), (.slice B3 (recvV s P).2.1.f3.length e3), (.slice none 0 0), (.slice B5 (recvV s P).2.1.f5.length e5)] 42 :: Blk B (askA (recvV s P).1 bl) 97 :: MapT bl (q + 1) ((recvV s P).1).lead :: Row k115 115 (.slice B3 (recvV s P).2.1.f3.length e3) (recvV s P).2.1.f3 :: Row k35 35 (.slice B5 (recvV s P).2.1.f5.length e5) (recvV s P).2.1.f5 :: Blk g29 (pkA P (.slice none 0 0) (.slice none 0 0) (.slice none 0 0) A3 c3 A5 c5 A7 c7 (.slice A39 x.f2.f8.length c39)) 47 :: Row k115 115 (.slice A3 P.f6.f3.length c3) P.f6.f3 :: Row k35 35 (.slice A5 P.f6.f5.length c5) P.f6.f5 :: Row k108 108 (.slice A7 P.f7.f1.length c7) P.f7.f1 :: Blk g22 (actL x A10 c10 A11 c11 A30 c30 A34 c34 A35 c35 A36 c36 A38 c38 A39 c39 A47 c47).toArray 52 :: [Old w])) := Aside0.mk h_; clear h_))
        go_upto_region 26 with (first | ((refine gate_ (.load 42 (.tmp 12)) rfl ?_); refine st_load rfl 42 _ rfl rfl S72.out 3 rfl [(.int .i64 (recvV s P).2.1.f0), (.int .i64 (recvV s P).2.1.f1), (.int .i64 (recvV s P).2.1.f2), (.slice B3 (recvV s P).2.1.f3.length e3), (.slice none 0 0), (.slice B5 (recvV s P).2.1.f5.length e5)] rfl Try.underlying42 rfl (by kernel_rfl) ?_) | ((refine gate_ (.load 42 (.tmp 14)) rfl ?_); refine st_load rfl 42 _ rfl rfl S72.out 0 rfl [(.int .i64 (recvV s P).2.1.f0), (.int .i64 (recvV s P).2.1.f1), (.int .i64 (recvV s P).2.1.f2), (.slice G3 (recvV s P).2.1.f3.length m3), (.slice none 0 0), (.slice G5 (recvV s P).2.1.f5.length m5)] rfl Try.underlying42 rfl (by kernel_rfl) ?_) | (go_at_call 26; (refine (replyT w _ (Blk g68 #[(.int .i64 (recvV s P).2.1.f0), (.int .i64 (recvV s P).2.1.f1), (.int .i64 (recvV s P).2.1.f2), (.slice G3 (recvV s P).2.1.f3.length m3), (.slice none 0 0), (.slice G5 (recvV s P).2.1.f5.length m5)] 42 :: Blk BR (refA (recvV s P).1 BL) 87 :: Blk BL (leadA (recvV s P).1) 3 :: Blk g61 #[(.int .i64 (recvV s P).2.1.f0), (.int .i64 (recvV s P).2.1.f1), (.int .i64 (recvV s P).2.1.f2), (.slice B3 (recvV s P).2.1.f3.length e3), (.slice none 0 0), (.slice B5 (recvV s P).2.1.f5.length e5)] 42 :: Blk B (askA (recvV s P).1 bl) 97 :: MapT bl (q + 1) ((recvV s P).1).lead :: Blk g29 (pkA P (.slice none 0 0) (.slice none 0 0) (.slice none 0 0) A3 c3 A5 c5 A7 c7 (.slice A39 x.f2.f8.length c39)) 47 :: Row k115 115 (.slice A3 P.f6.f3.length c3) P.f6.f3 :: Row k35 35 (.slice A5 P.f6.f5.length c5) P.f6.f5 :: Row k108 108 (.slice A7 P.f7.f1.length c7) P.f7.f1 :: Blk g22 (actL x A10 c10 A11 c11 A30 c30 A34 c34 A35 c35 A36 c36 A38 c38 A39 c39 A47 c47).toArray 52 :: [Old w]) (recvV s P).2.1 _ _ G3 G5 m3 m5 (recv_f4 s P HP.out.f4) (recv_len s P HP.out.l35.1 HP.out.l35.2).1 (recv_len s P HP.out.l35.1 HP.out.l35.2).2 ((((((((((((((S72.out).bring 12 rfl).bring 12 rfl).bring 12 rfl).bring 12 rfl).bring 12 rfl).bring 10 rfl).bring 10 rfl).bring 10 rfl).bring 10 rfl).bring 10 rfl).bring 10 rfl).bring 12 rfl).bring 12 rfl) (reply_reads HD.out (fun W hW => ⟨⟨(hW.reads 7 rfl).1, (hW.reads 7 rfl).2⟩, (hW.reads 8 rfl).1, (hW.reads 8 rfl).2⟩))).mono ?_); rintro e1 w74 ⟨rfl, h_⟩; have S73 := Aside0.mk h_; clear h_))
        have S76 := Aside0.mk S73.out.drew
        refine start_ (n := 16) (S := fun w' => St w w' (Blk BR (refA (recvV s P).1 BL) 87 :: [Old w])) (ds := []) (bits 16 0) (by kernel_rfl) rfl rfl ((((((((((((S73.out).erase 10).erase 9).erase 8).erase 7).erase 6).erase 5).erase 4).erase 3).erase 2).erase 0)).drew (fun hHeld => ?_)
        generalize w74.drew = w75 at S76 hHeld ⊢
        refine pu 0 129 (bits 16 1) ?_ rfl rfl (by kernel_rfl) (fun _ _ _ h => h) (by rfl) ?_ ?_ ?_ ?_
        rotate_left
        ·intro w'; go_simp; with_reducible rfl
        rotate_left
        ·simp only [Act.put, sqA, sqB, sqC, i64_w, i32_w]; rfl
        refine pu 2 131 (bits 16 5) ?_ rfl rfl (by kernel_rfl) (fun _ _ _ h => h) (by rfl) ?_ ?_ ?_ ?_
        rotate_left
        ·intro w'; go_simp; with_reducible rfl
        rotate_left
        ·simp only [Act.put, sqA, sqB, sqC, i64_w, i32_w]; rfl
        refine pu 3 132 (bits 16 13) ?_ rfl rfl (by kernel_rfl) (fun _ _ _ h => h) (by rfl) ?_ ?_ ?_ ?_
        rotate_left
        ·intro w'; go_simp; with_reducible rfl
        rotate_left
        ·simp only [Act.put, sqA, sqB, sqC, i64_w, i32_w]; rfl
        refine pu 4 133 (bits 16 29) ?_ rfl rfl (by kernel_rfl) (fun _ _ _ h => h) (by rfl) ?_ ?_ ?_ ?_
        rotate_left
        ·intro w'; go_simp; with_reducible rfl
        rotate_left
        ·simp only [Act.put, sqA, sqB, sqC, i64_w, i32_w]; rfl
        refine tk 5 134 (bits 16 61) ?_ rfl rfl (by kernel_rfl) (fun _ _ _ h => h) (by rfl) ?_ hHeld ?_ ?_ ?_
        rotate_left
        ·intro w' hw'; have s0 : w'.cell? ⟨BR, 24, none⟩ = some (.bool ((recvV s P).1).busy) := hw'.cell 0 24 rfl rfl; go_simp; with_reducible rfl
        rotate_left
        ·simp only [Act.put, sqA, sqB, sqC, i64_w, i32_w]; rfl
        refine one_ (i := 1) (N := some 130) (bits 16 63) rfl rfl (by kernel_rfl) (by decide) (fun K hK => ?_)
        refine goes_ Try.func31 (by kernel_rfl) rfl #[(.pointer (some ⟨B, 0, none⟩))] (by rfl) rfl rfl (by (try simp only [List.map_toArray, List.map_cons, List.map_nil]); first | done | rfl) ?_
        refine (askBusyT w _ (Blk g68 #[(.int .i64 (recvV s P).2.1.f0), (.int .i64 (recvV s P).2.1.f1), (.int .i64 (recvV s P).2.1.f2), (.slice G3 (recvV s P).2.1.f3.length m3), (.slice none 0 0), (.slice G5 (recvV s P).2.1.f5.length m5)] 42 :: Blk BR (refA (recvV s P).1 BL) 87 :: Blk BL (leadA (recvV s P).1) 3 :: Blk g61 #[(.int .i64 (recvV s P).2.1.f0), (.int .i64 (recvV s P).2.1.f1), (.int .i64 (recvV s P).2.1.f2), (.slice B3 (recvV s P).2.1.f3.length e3), (.slice none 0 0), (.slice B5 (recvV s P).2.1.f5.length e5)] 42 :: Blk g29 (pkA P (.slice none 0 0) (.slice none 0 0) (.slice none 0 0) A3 c3 A5 c5 A7 c7 (.slice A39 x.f2.f8.length c39)) 47 :: Row k115 115 (.slice A3 P.f6.f3.length c3) P.f6.f3 :: Row k35 35 (.slice A5 P.f6.f5.length c5) P.f6.f5 :: Row k108 108 (.slice A7 P.f7.f1.length c7) P.f7.f1 :: Blk g22 (actL x A10 c10 A11 c11 A30 c30 A34 c34 A35 c35 A36 c36 A38 c38 A39 c39 A47 c47).toArray 52 :: [Old w]) B bl (q + 1) (recvV s P).1 ((((((((((((S76.out).bring 10 rfl).bring 10 rfl).bring 10 rfl).bring 10 rfl).bring 10 rfl).bring 8 rfl).bring 8 rfl).bring 8 rfl).bring 8 rfl).bring 10 rfl).bring 10 rfl) HK2.out).mono ?_
        rintro e1 w78 ⟨rfl, h_⟩
        have S77 := Aside0.mk h_
        clear h_
        refine ⟨_, rfl, ?_⟩
        refine hK.out _ _ ((((((((((((S77.out).erase 10).erase 9).erase 8).erase 7).erase 6).erase 5).erase 4).erase 2).erase 1).erase 0)) ?_
        clear hHeld
        intro hHeld
        clear hK K
        refine norm_ (a' := ?_) ?_ ?_
        rotate_left
        ·show Act.put _ (some 130) _ = _; simp only [Act.put, sqA, sqB, sqC, i64_w, i32_w]; rfl
        refine pu 6 135 (bits 16 127) ?_ rfl rfl (by kernel_rfl) (fun _ _ _ h => h) (by rfl) ?_ ?_ ?_ ?_
        rotate_left
        ·intro w'; go_simp; with_reducible rfl
        rotate_left
        ·simp only [Act.put, sqA, sqB, sqC, i64_w, i32_w]; rfl
        refine pu 7 136 (bits 16 255) ?_ rfl rfl (by kernel_rfl) (fun _ _ _ h => h) (by rfl) ?_ ?_ ?_ ?_
        rotate_left
        ·intro w'; go_simp; with_reducible rfl
        rotate_left
        ·simp only [Act.put, sqA, sqB, sqC, i64_w, i32_w]; rfl
        refine pu 8 137 (bits 16 511) ?_ rfl rfl (by kernel_rfl) (fun _ _ _ h => h) (by rfl) ?_ ?_ ?_ ?_
        rotate_left
        ·intro w'; go_simp; with_reducible rfl
        rotate_left
        ·simp only [Act.put, sqA, sqB, sqC, i64_w, i32_w]; rfl
        refine pu 10 139 (bits 16 1535) ?_ rfl rfl (by kernel_rfl) (fun _ _ _ h => h) (by rfl) ?_ ?_ ?_ ?_
        rotate_left
        ·intro w'; go_simp; with_reducible rfl
        rotate_left
        ·simp only [Act.put, sqA, sqB, sqC, i64_w, i32_w]; rfl
        refine pu 11 140 (bits 16 3583) ?_ rfl rfl (by kernel_rfl) (fun _ _ _ h => h) (by rfl) ?_ ?_ ?_ ?_
        rotate_left
        ·intro w'; go_simp; with_reducible rfl
        rotate_left
        ·simp only [Act.put, sqA, sqB, sqC, i64_w, i32_w]; rfl
        refine pu 12 141 (bits 16 7679) ?_ rfl rfl (by kernel_rfl) (fun _ _ _ h => h) (by rfl) ?_ ?_ ?_ ?_
        rotate_left
        ·intro w'; go_simp; with_reducible rfl
        rotate_left
        ·simp only [Act.put, sqA, sqB, sqC, i64_w, i32_w]; rfl
        refine tk 13 142 (bits 16 15871) ?_ rfl rfl (by kernel_rfl) (fun _ _ _ h => h) (by rfl) ?_ hHeld ?_ ?_ ?_
        rotate_left
        ·intro w' hw'; have s0 : w'.cell? ⟨BR, 3, none⟩ = some (.int .i64 ((recvV s P).1).num) := hw'.cell 0 3 rfl rfl; go_simp; with_reducible rfl
        rotate_left
        ·simp only [Act.put, sqA, sqB, sqC, i64_w, i32_w]; rfl
        refine one_ (i := 9) (N := some 138) (bits 16 16383) rfl rfl (by kernel_rfl) (by decide) (fun K hK => ?_)
        refine goes_ Try.func32 (by kernel_rfl) rfl #[(.pointer (some ⟨B, 0, none⟩))] (by rfl) rfl rfl (by (try simp only [List.map_toArray, List.map_cons, List.map_nil]); first | done | rfl) ?_
        refine (askNumT w _ (Blk g68 #[(.int .i64 (recvV s P).2.1.f0), (.int .i64 (recvV s P).2.1.f1), (.int .i64 (recvV s P).2.1.f2), (.slice G3 (recvV s P).2.1.f3.length m3), (.slice none 0 0), (.slice G5 (recvV s P).2.1.f5.length m5)] 42 :: Blk BR (refA (recvV s P).1 BL) 87 :: Blk BL (leadA (recvV s P).1) 3 :: Blk g61 #[(.int .i64 (recvV s P).2.1.f0), (.int .i64 (recvV s P).2.1.f1), (.int .i64 (recvV s P).2.1.f2), (.slice B3 (recvV s P).2.1.f3.length e3), (.slice none 0 0), (.slice B5 (recvV s P).2.1.f5.length e5)] 42 :: Blk g29 (pkA P (.slice none 0 0) (.slice none 0 0) (.slice none 0 0) A3 c3 A5 c5 A7 c7 (.slice A39 x.f2.f8.length c39)) 47 :: Row k115 115 (.slice A3 P.f6.f3.length c3) P.f6.f3 :: Row k35 35 (.slice A5 P.f6.f5.length c5) P.f6.f5 :: Row k108 108 (.slice A7 P.f7.f1.length c7) P.f7.f1 :: Blk g22 (actL x A10 c10 A11 c11 A30 c30 A34 c34 A35 c35 A36 c36 A38 c38 A39 c39 A47 c47).toArray 52 :: [Old w]) B bl (q + 1) (recvV s P).1 (S77.out) HK2.out).mono ?_
        rintro e1 w80 ⟨rfl, h_⟩
        have S79 := Aside0.mk h_
        clear h_
        refine ⟨_, rfl, ?_⟩
        refine hK.out _ _ ((((((((((((S79.out).erase 10).erase 9).erase 8).erase 7).erase 6).erase 5).erase 4).erase 2).erase 1).erase 0)) ?_
        clear hHeld
        intro hHeld
        clear hK K
        refine norm_ (a' := ?_) ?_ ?_
        rotate_left
        ·show Act.put _ (some 138) _ = _; simp only [Act.put, sqA, sqB, sqC, i64_w, i32_w]; rfl
        refine pu 14 143 (bits 16 32767) ?_ rfl rfl (by kernel_rfl) (fun _ _ _ h => h) (by rfl) ?_ ?_ ?_ ?_
        rotate_left
        ·intro w'; go_simp; with_reducible rfl
        rotate_left
        ·simp only [Act.put, sqA, sqB, sqC, i64_w, i32_w]; rfl
        refine pu 15 144 (bits 16 65535) ?_ rfl rfl (by kernel_rfl) (fun _ _ _ h => h) (by rfl) ?_ ?_ ?_ ?_
        rotate_left
        ·intro w'; go_simp; with_reducible rfl
        rotate_left
        ·simp only [Act.put, sqA, sqB, sqC, i64_w, i32_w]; rfl
        refine done_ (by kernel_rfl) ?_
        clear hHeld
        go_upto_region 7 with (fail)
        go_wp2_with (fail)
        go_roundg (60 - (i + 1))
        case measure => have := HLT.out; omega
        case rel => exact ⟨i + 1, by go_num, by have := HLT.out; omega, by have := HLT.out; omega, ⟨(recvV s P).1, q + 1, HK2.out, (by have := HQ.out; omega), ((((((((S79.out).erase 10).erase 9).erase 8).erase 7).erase 6).erase 5).erase 2)⟩⟩
       ·have t57 : (x.f0 == 1) = false := beq_eq_false_iff_ne.2 q56
        have u58 : (x.f0 != 1) = true := by rw [bne, t57]; rfl
        have Xq56 := Aside0.mk q56
        clear q56
        go_upto_region 18 with (fail)
        rcases Decidable.em (x.f0 = 2) with q81 | q81
        ·have t82 : (x.f0 == 2) = true := beq_iff_eq.2 q81
         have u83 : (x.f0 != 2) = false := by rw [bne, t82]; rfl
         have Xq81 := Aside0.mk q81
         clear q81
         go_upto_region 23 with (fail)
         go_upto_region 24 with (fail)
         have S85 := Aside0.mk SC.out.drew
         refine start_ (n := 13) (S := fun w' => St w w' (Blk g29 (pkA P (.slice none 0 0) (.slice none 0 0) (.slice none 0 0) A3 c3 A5 c5 A7 c7 (.slice A39 x.f2.f8.length c39)) 47 :: [Old w])) (ds := []) (bits 13 0) (by kernel_rfl) rfl rfl ((((((((((SC.out).erase 8).erase 7).erase 6).erase 5).erase 4).erase 3).erase 2).erase 1)).drew (fun hHeld => ?_)
         generalize wc.drew = w84 at S85 hHeld ⊢
         refine pu 0 116 (bits 13 1) ?_ rfl rfl (by kernel_rfl) (fun _ _ _ h => h) (by rfl) ?_ ?_ ?_ ?_
         rotate_left
         ·intro w'; go_simp; with_reducible rfl
         rotate_left
         ·simp only [Act.put, sqA, sqB, sqC, i64_w, i32_w]; rfl
         refine pu 1 117 (bits 13 3) ?_ rfl rfl (by kernel_rfl) (fun _ _ _ h => h) (by rfl) ?_ ?_ ?_ ?_
         rotate_left
         ·intro w'; go_simp; with_reducible rfl
         rotate_left
         ·simp only [Act.put, sqA, sqB, sqC, i64_w, i32_w]; rfl
         refine pu 3 119 (bits 13 11) ?_ rfl rfl (by kernel_rfl) (fun _ _ _ h => h) (by rfl) ?_ ?_ ?_ ?_
         rotate_left
         ·intro w'; go_simp; with_reducible rfl
         rotate_left
         ·simp only [Act.put, sqA, sqB, sqC, i64_w, i32_w]; rfl
         refine pu 6 122 (bits 13 75) ?_ rfl rfl (by kernel_rfl) (fun _ _ _ h => h) (by rfl) ?_ ?_ ?_ ?_
         rotate_left
         ·intro w'; go_simp; with_reducible rfl
         rotate_left
         ·simp only [Act.put, sqA, sqB, sqC, i64_w, i32_w]; rfl
         refine pu 7 123 (bits 13 203) ?_ rfl rfl (by kernel_rfl) (fun _ _ _ h => h) (by rfl) ?_ ?_ ?_ ?_
         rotate_left
         ·intro w'; go_simp; with_reducible rfl
         rotate_left
         ·simp only [Act.put, sqA, sqB, sqC, i64_w, i32_w]; rfl
         refine pu 9 125 (bits 13 715) ?_ rfl rfl (by kernel_rfl) (fun _ _ _ h => h) (by rfl) ?_ ?_ ?_ ?_
         rotate_left
         ·intro w'; go_simp; with_reducible rfl
         rotate_left
         ·simp only [Act.put, sqA, sqB, sqC, i64_w, i32_w]; rfl
         refine tk 2 118 (bits 13 719) ?_ rfl rfl (by kernel_rfl) (fun _ _ _ h => h) (by rfl) ?_ hHeld ?_ ?_ ?_
         rotate_left
         ·intro w' hw'; have s0 : w'.cell? ⟨g29, 3, none⟩ = some (.int .i64 P.f3) := hw'.cell 0 3 rfl rfl; go_simp; with_reducible rfl
         rotate_left
         ·simp only [Act.put, sqA, sqB, sqC, i64_w, i32_w]; rfl
         refine take_ (i := 4) (N := some 120) (a' := ?_) (bits 13 735) rfl rfl (by kernel_rfl) (fun _ _ _ h => h) (yields_blk (by rfl) 38 _ rfl g29 12 rfl [(.int .i64 P.f5.f0), (.int .i64 P.f5.f1), (.int .i64 P.f5.f2), (.int .i64 P.f5.f3), (.int .i64 P.f5.f4), (.string P.f5.f5), (.string P.f5.f6), (.string P.f5.f7), (.string P.f5.f8), (.int .i64 P.f5.f9), (.int .i64 P.f5.f10), (.int .i64 P.f5.f11.f0), (.string P.f5.f11.f1), (.int .i64 P.f5.f11.f2), (.int .i64 P.f5.f11.f3), (.int .i64 P.f5.f12.f0), (.int .i64 P.f5.f12.f1), (.int .i64 P.f5.f13), (.slice none 0 0)] rfl (fun w' hw' => hw'.blk 0 rfl) Try.underlying38 rfl (by kernel_rfl)) hHeld ?_ ?_
         rotate_left
         ·simp only [Act.put, sqA, sqB, sqC, i64_w, i32_w]; rfl
         refine tk 8 124 (bits 13 991) ?_ rfl rfl (by kernel_rfl) (fun _ _ _ h => h) (by rfl) ?_ hHeld ?_ ?_ ?_
         rotate_left
         ·intro w' hw'; have s0 : w'.cell? ⟨g29, 3, none⟩ = some (.int .i64 P.f3) := hw'.cell 0 3 rfl rfl; go_simp; with_reducible rfl
         rotate_left
         ·simp only [Act.put, sqA, sqB, sqC, i64_w, i32_w]; rfl
         refine take_ (i := 10) (N := some 126) (a' := ?_) (bits 13 2015) rfl rfl (by kernel_rfl) (fun _ _ _ h => h) (yields_blk (by rfl) 38 _ rfl g29 12 rfl [(.int .i64 P.f5.f0), (.int .i64 P.f5.f1), (.int .i64 P.f5.f2), (.int .i64 P.f5.f3), (.int .i64 P.f5.f4), (.string P.f5.f5), (.string P.f5.f6), (.string P.f5.f7), (.string P.f5.f8), (.int .i64 P.f5.f9), (.int .i64 P.f5.f10), (.int .i64 P.f5.f11.f0), (.string P.f5.f11.f1), (.int .i64 P.f5.f11.f2), (.int .i64 P.f5.f11.f3), (.int .i64 P.f5.f12.f0), (.int .i64 P.f5.f12.f1), (.int .i64 P.f5.f13), (.slice none 0 0)] rfl (fun w' hw' => hw'.blk 0 rfl) Try.underlying38 rfl (by kernel_rfl)) hHeld ?_ ?_
         rotate_left
         ·simp only [Act.put, sqA, sqB, sqC, i64_w, i32_w]; rfl
         refine one_ (i := 5) (N := some 121) (bits 13 2047) rfl rfl (by kernel_rfl) (by decide) (fun K hK => ?_)
         refine goes_ Try.func27 (by kernel_rfl) rfl #[(.pointer (some ⟨B, 0, none⟩)), (.int .i64 P.f3), (.agg #[(.int .i64 P.f5.f0), (.int .i64 P.f5.f1), (.int .i64 P.f5.f2), (.int .i64 P.f5.f3), (.int .i64 P.f5.f4), (.string P.f5.f5), (.string P.f5.f6), (.string P.f5.f7), (.string P.f5.f8), (.int .i64 P.f5.f9), (.int .i64 P.f5.f10), (.int .i64 P.f5.f11.f0), (.string P.f5.f11.f1), (.int .i64 P.f5.f11.f2), (.int .i64 P.f5.f11.f3), (.int .i64 P.f5.f12.f0), (.int .i64 P.f5.f12.f1), (.int .i64 P.f5.f13), (.slice none 0 0)])] (by rfl) rfl rfl (by (try simp only [List.map_toArray, List.map_cons, List.map_nil]); first | done | rfl) ?_
         refine (askAskT w _ (Blk g29 (pkA P (.slice none 0 0) (.slice none 0 0) (.slice none 0 0) A3 c3 A5 c5 A7 c7 (.slice A39 x.f2.f8.length c39)) 47 :: Row k115 115 (.slice A3 P.f6.f3.length c3) P.f6.f3 :: Row k35 35 (.slice A5 P.f6.f5.length c5) P.f6.f5 :: Row k108 108 (.slice A7 P.f7.f1.length c7) P.f7.f1 :: Blk g22 (actL x A10 c10 A11 c11 A30 c30 A34 c34 A35 c35 A36 c36 A38 c38 A39 c39 A47 c47).toArray 52 :: Blk BR (refA s BL) 87 :: Blk BL (leadA s) 3 :: [Old w]) B bl q s ((((((((((S85.out).bring 8 rfl).bring 8 rfl).bring 6 rfl).bring 6 rfl).bring 6 rfl).bring 6 rfl).bring 6 rfl).bring 8 rfl).bring 8 rfl) HK.out P.f3 P.f5 HP.out.data).mono ?_
         rintro e1 w87 ⟨rfl, h_⟩
         have S86 := Aside0.mk h_
         clear h_
         refine ⟨_, rfl, ?_⟩
         refine hK.out _ _ ((((((((((S86.out).erase 8).erase 7).erase 6).erase 5).erase 4).erase 3).erase 1).erase 0)) ?_
         clear hHeld
         intro hHeld
         clear hK K
         refine norm_ (a' := ?_) ?_ ?_
         rotate_left
         ·show Act.put _ (some 121) _ = _; simp only [Act.put, sqA, sqB, sqC, i64_w, i32_w]; rfl
         refine one_ (i := 11) (N := some 127) (bits 13 4095) rfl rfl (by kernel_rfl) (by decide) (fun K hK => ?_)
         refine goes_ Try.func28 (by kernel_rfl) rfl #[(.pointer (some ⟨BR, 0, none⟩)), (.int .i64 P.f3), (.agg #[(.int .i64 P.f5.f0), (.int .i64 P.f5.f1), (.int .i64 P.f5.f2), (.int .i64 P.f5.f3), (.int .i64 P.f5.f4), (.string P.f5.f5), (.string P.f5.f6), (.string P.f5.f7), (.string P.f5.f8), (.int .i64 P.f5.f9), (.int .i64 P.f5.f10), (.int .i64 P.f5.f11.f0), (.string P.f5.f11.f1), (.int .i64 P.f5.f11.f2), (.int .i64 P.f5.f11.f3), (.int .i64 P.f5.f12.f0), (.int .i64 P.f5.f12.f1), (.int .i64 P.f5.f13), (.slice none 0 0)])] (by rfl) rfl rfl (by (try simp only [List.map_toArray, List.map_cons, List.map_nil]); first | done | rfl) ?_
         refine (refAsk w _ (Blk B (askA (askV s P.f3 P.f5).2 bl) 97 :: MapT bl (q + 1) ((askV s P.f3 P.f5).2).lead :: Blk g29 (pkA P (.slice none 0 0) (.slice none 0 0) (.slice none 0 0) A3 c3 A5 c5 A7 c7 (.slice A39 x.f2.f8.length c39)) 47 :: Row k115 115 (.slice A3 P.f6.f3.length c3) P.f6.f3 :: Row k35 35 (.slice A5 P.f6.f5.length c5) P.f6.f5 :: Row k108 108 (.slice A7 P.f7.f1.length c7) P.f7.f1 :: Blk g22 (actL x A10 c10 A11 c11 A30 c30 A34 c34 A35 c35 A36 c36 A38 c38 A39 c39 A47 c47).toArray 52 :: [Old w]) BR BL q s ((((((((((S86.out).bring 6 rfl).bring 6 rfl).bring 6 rfl).bring 6 rfl).bring 6 rfl).bring 6 rfl).bring 6 rfl).bring 8 rfl).bring 8 rfl) HK.out P.f3 P.f5).mono ?_
         rintro e1 w89 ⟨rfl, h_⟩
         have S88 := Aside0.mk h_
         clear h_
         have HK2 := Aside0.mk (show As.ok (askV s P.f3 P.f5).2 (q + 1) from askV_ok HK.out (by have := HQ.out; omega) _ _ HP.out.data)
         refine ⟨_, rfl, ?_⟩
         refine hK.out _ _ ((((((((((S88.out).erase 8).erase 7).erase 6).erase 5).erase 3).erase 2).erase 1).erase 0)) ?_
         clear hHeld
         intro hHeld
         clear hK K
         refine norm_ (a' := ?_) ?_ ?_
         rotate_left
         ·show Act.put _ (some 127) _ = _; simp only [Act.put, sqA, sqB, sqC, i64_w, i32_w]; rfl
         refine pu 12 128 (bits 13 8191) ?_ rfl rfl (by kernel_rfl) (fun _ _ _ h => h) (by rfl) ?_ ?_ ?_ ?_
         rotate_left
         ·intro w'; go_simp; with_reducible rfl
         rotate_left
         ·simp only [Act.put, sqA, sqB, sqC, i64_w, i32_w]; rfl
         refine done_ (by kernel_rfl) ?_
         clear hHeld
         go_upto_region 26 with (fail)
         have S91 := Aside0.mk S88.out.drew
         refine start_ (n := 16) (S := fun w' => St w w' (Blk BR (refA (askV s P.f3 P.f5).2 BL) 87 :: [Old w])) (ds := []) (bits 16 0) (by kernel_rfl) rfl rfl ((((((((((S88.out).erase 8).erase 7).erase 6).erase 5).erase 4).erase 3).erase 2).erase 1)).drew (fun hHeld => ?_)
         generalize w89.drew = w90 at S91 hHeld ⊢
         refine pu 0 129 (bits 16 1) ?_ rfl rfl (by kernel_rfl) (fun _ _ _ h => h) (by rfl) ?_ ?_ ?_ ?_
         rotate_left
         ·intro w'; go_simp; with_reducible rfl
         rotate_left
         ·simp only [Act.put, sqA, sqB, sqC, i64_w, i32_w]; rfl
         refine pu 2 131 (bits 16 5) ?_ rfl rfl (by kernel_rfl) (fun _ _ _ h => h) (by rfl) ?_ ?_ ?_ ?_
         rotate_left
         ·intro w'; go_simp; with_reducible rfl
         rotate_left
         ·simp only [Act.put, sqA, sqB, sqC, i64_w, i32_w]; rfl
         refine pu 3 132 (bits 16 13) ?_ rfl rfl (by kernel_rfl) (fun _ _ _ h => h) (by rfl) ?_ ?_ ?_ ?_
         rotate_left
         ·intro w'; go_simp; with_reducible rfl
         rotate_left
         ·simp only [Act.put, sqA, sqB, sqC, i64_w, i32_w]; rfl
         refine pu 4 133 (bits 16 29) ?_ rfl rfl (by kernel_rfl) (fun _ _ _ h => h) (by rfl) ?_ ?_ ?_ ?_
         rotate_left
         ·intro w'; go_simp; with_reducible rfl
         rotate_left
         ·simp only [Act.put, sqA, sqB, sqC, i64_w, i32_w]; rfl
         refine tk 5 134 (bits 16 61) ?_ rfl rfl (by kernel_rfl) (fun _ _ _ h => h) (by rfl) ?_ hHeld ?_ ?_ ?_
         rotate_left
         ·intro w' hw'; have s0 : w'.cell? ⟨BR, 24, none⟩ = some (.bool ((askV s P.f3 P.f5).2).busy) := hw'.cell 0 24 rfl rfl; go_simp; with_reducible rfl
         rotate_left
         ·simp only [Act.put, sqA, sqB, sqC, i64_w, i32_w]; rfl
         refine one_ (i := 1) (N := some 130) (bits 16 63) rfl rfl (by kernel_rfl) (by decide) (fun K hK => ?_)
         refine goes_ Try.func31 (by kernel_rfl) rfl #[(.pointer (some ⟨B, 0, none⟩))] (by rfl) rfl rfl (by (try simp only [List.map_toArray, List.map_cons, List.map_nil]); first | done | rfl) ?_
         refine (askBusyT w _ (Blk BR (refA (askV s P.f3 P.f5).2 BL) 87 :: Blk BL (leadA (askV s P.f3 P.f5).2) 3 :: Blk g29 (pkA P (.slice none 0 0) (.slice none 0 0) (.slice none 0 0) A3 c3 A5 c5 A7 c7 (.slice A39 x.f2.f8.length c39)) 47 :: Row k115 115 (.slice A3 P.f6.f3.length c3) P.f6.f3 :: Row k35 35 (.slice A5 P.f6.f5.length c5) P.f6.f5 :: Row k108 108 (.slice A7 P.f7.f1.length c7) P.f7.f1 :: Blk g22 (actL x A10 c10 A11 c11 A30 c30 A34 c34 A35 c35 A36 c36 A38 c38 A39 c39 A47 c47).toArray 52 :: [Old w]) B bl (q + 1) (askV s P.f3 P.f5).2 ((((((((((S91.out).bring 8 rfl).bring 8 rfl).bring 8 rfl).bring 8 rfl).bring 8 rfl).bring 6 rfl).bring 6 rfl).bring 8 rfl).bring 8 rfl) HK2.out).mono ?_
         rintro e1 w93 ⟨rfl, h_⟩
         have S92 := Aside0.mk h_
         clear h_
         refine ⟨_, rfl, ?_⟩
         refine hK.out _ _ ((((((((((S92.out).erase 8).erase 7).erase 6).erase 5).erase 4).erase 3).erase 1).erase 0)) ?_
         clear hHeld
         intro hHeld
         clear hK K
         refine norm_ (a' := ?_) ?_ ?_
         rotate_left
         ·show Act.put _ (some 130) _ = _; simp only [Act.put, sqA, sqB, sqC, i64_w, i32_w]; rfl
         refine pu 6 135 (bits 16 127) ?_ rfl rfl (by kernel_rfl) (fun _ _ _ h => h) (by rfl) ?_ ?_ ?_ ?_
         rotate_left
         ·intro w'; go_simp; with_reducible rfl
         rotate_left
         ·simp only [Act.put, sqA, sqB, sqC, i64_w, i32_w]; rfl
         refine pu 7 136 (bits 16 255) ?_ rfl rfl (by kernel_rfl) (fun _ _ _ h => h) (by rfl) ?_ ?_ ?_ ?_
         rotate_left
         ·intro w'; go_simp; with_reducible rfl
         rotate_left
         ·simp only [Act.put, sqA, sqB, sqC, i64_w, i32_w]; rfl
         refine pu 8 137 (bits 16 511) ?_ rfl rfl (by kernel_rfl) (fun _ _ _ h => h) (by rfl) ?_ ?_ ?_ ?_
         rotate_left
         ·intro w'; go_simp; with_reducible rfl
         rotate_left
         ·simp only [Act.put, sqA, sqB, sqC, i64_w, i32_w]; rfl
         refine pu 10 139 (bits 16 1535) ?_ rfl rfl (by kernel_rfl) (fun _ _ _ h => h) (by rfl) ?_ ?_ ?_ ?_
         rotate_left
         ·intro w'; go_simp; with_reducible rfl
         rotate_left
         ·simp only [Act.put, sqA, sqB, sqC, i64_w, i32_w]; rfl
         refine pu 11 140 (bits 16 3583) ?_ rfl rfl (by kernel_rfl) (fun _ _ _ h => h) (by rfl) ?_ ?_ ?_ ?_
         rotate_left
         ·intro w'; go_simp; with_reducible rfl
         rotate_left
         ·simp only [Act.put, sqA, sqB, sqC, i64_w, i32_w]; rfl
         refine pu 12 141 (bits 16 7679) ?_ rfl rfl (by kernel_rfl) (fun _ _ _ h => h) (by rfl) ?_ ?_ ?_ ?_
         rotate_left
         ·intro w'; go_simp; with_reducible rfl
         rotate_left
         ·simp only [Act.put, sqA, sqB, sqC, i64_w, i32_w]; rfl
         refine tk 13 142 (bits 16 15871) ?_ rfl rfl (by kernel_rfl) (fun _ _ _ h => h) (by rfl) ?_ hHeld ?_ ?_ ?_
         rotate_left
         ·intro w' hw'; have s0 : w'.cell? ⟨BR, 3, none⟩ = some (.int .i64 ((askV s P.f3 P.f5).2).num) := hw'.cell 0 3 rfl rfl; go_simp; with_reducible rfl
         rotate_left
         ·simp only [Act.put, sqA, sqB, sqC, i64_w, i32_w]; rfl
         refine one_ (i := 9) (N := some 138) (bits 16 16383) rfl rfl (by kernel_rfl) (by decide) (fun K hK => ?_)
         refine goes_ Try.func32 (by kernel_rfl) rfl #[(.pointer (some ⟨B, 0, none⟩))] (by rfl) rfl rfl (by (try simp only [List.map_toArray, List.map_cons, List.map_nil]); first | done | rfl) ?_
         refine (askNumT w _ (Blk BR (refA (askV s P.f3 P.f5).2 BL) 87 :: Blk BL (leadA (askV s P.f3 P.f5).2) 3 :: Blk g29 (pkA P (.slice none 0 0) (.slice none 0 0) (.slice none 0 0) A3 c3 A5 c5 A7 c7 (.slice A39 x.f2.f8.length c39)) 47 :: Row k115 115 (.slice A3 P.f6.f3.length c3) P.f6.f3 :: Row k35 35 (.slice A5 P.f6.f5.length c5) P.f6.f5 :: Row k108 108 (.slice A7 P.f7.f1.length c7) P.f7.f1 :: Blk g22 (actL x A10 c10 A11 c11 A30 c30 A34 c34 A35 c35 A36 c36 A38 c38 A39 c39 A47 c47).toArray 52 :: [Old w]) B bl (q + 1) (askV s P.f3 P.f5).2 (S92.out) HK2.out).mono ?_
         rintro e1 w95 ⟨rfl, h_⟩
         have S94 := Aside0.mk h_
         clear h_
         refine ⟨_, rfl, ?_⟩
         refine hK.out _ _ ((((((((((S94.out).erase 8).erase 7).erase 6).erase 5).erase 4).erase 3).erase 1).erase 0)) ?_
         clear hHeld
         intro hHeld
         clear hK K
         refine norm_ (a' := ?_) ?_ ?_
         rotate_left
         ·show Act.put _ (some 138) _ = _; simp only [Act.put, sqA, sqB, sqC, i64_w, i32_w]; rfl
         refine pu 14 143 (bits 16 32767) ?_ rfl rfl (by kernel_rfl) (fun _ _ _ h => h) (by rfl) ?_ ?_ ?_ ?_
         rotate_left
         ·intro w'; go_simp; with_reducible rfl
         rotate_left
         ·simp only [Act.put, sqA, sqB, sqC, i64_w, i32_w]; rfl
         refine pu 15 144 (bits 16 65535) ?_ rfl rfl (by kernel_rfl) (fun _ _ _ h => h) (by rfl) ?_ ?_ ?_ ?_
         rotate_left
         ·intro w'; go_simp; with_reducible rfl
         rotate_left
         ·simp only [Act.put, sqA, sqB, sqC, i64_w, i32_w]; rfl
         refine done_ (by kernel_rfl) ?_
         clear hHeld
         go_upto_region 7 with (fail)
         go_wp2_with (fail)
         go_roundg (60 - (i + 1))
         case measure => have := HLT.out; omega
         case rel => exact ⟨i + 1, by go_num, by have := HLT.out; omega, by have := HLT.out; omega, ⟨(askV s P.f3 P.f5).2, q + 1, HK2.out, (by have := HQ.out; omega), ((((((S94.out).erase 8).erase 7).erase 6).erase 5).erase 4)⟩⟩
        ·have t82 : (x.f0 == 2) = false := beq_eq_false_iff_ne.2 q81
         have u83 : (x.f0 != 2) = true := by rw [bne, t82]; rfl
         have Xq81 := Aside0.mk q81
         clear q81
         go_upto_region 23 with (fail)
         go_upto_region 13 with (fail)
         have S97 := Aside0.mk SC.out.drew
         refine start_ (n := 9) (S := fun w' => St w w' (Blk g29 (pkA P (.slice none 0 0) (.slice none 0 0) (.slice none 0 0) A3 c3 A5 c5 A7 c7 (.slice A39 x.f2.f8.length c39)) 47 :: [Old w])) (ds := []) (bits 9 0) (by kernel_rfl) rfl rfl ((((((((((SC.out).erase 8).erase 7).erase 6).erase 5).erase 4).erase 3).erase 2).erase 1)).drew (fun hHeld => ?_)
         generalize wc.drew = w96 at S97 hHeld ⊢
         refine pu 0 74 (bits 9 1) ?_ rfl rfl (by kernel_rfl) (fun _ _ _ h => h) (by rfl) ?_ ?_ ?_ ?_
         rotate_left
         ·intro w'; go_simp; with_reducible rfl
         rotate_left
         ·simp only [Act.put, sqA, sqB, sqC, i64_w, i32_w]; rfl
         refine pu 1 75 (bits 9 3) ?_ rfl rfl (by kernel_rfl) (fun _ _ _ h => h) (by rfl) ?_ ?_ ?_ ?_
         rotate_left
         ·intro w'; go_simp; with_reducible rfl
         rotate_left
         ·simp only [Act.put, sqA, sqB, sqC, i64_w, i32_w]; rfl
         refine pu 4 78 (bits 9 19) ?_ rfl rfl (by kernel_rfl) (fun _ _ _ h => h) (by rfl) ?_ ?_ ?_ ?_
         rotate_left
         ·intro w'; go_simp; with_reducible rfl
         rotate_left
         ·simp only [Act.put, sqA, sqB, sqC, i64_w, i32_w]; rfl
         refine pu 5 79 (bits 9 51) ?_ rfl rfl (by kernel_rfl) (fun _ _ _ h => h) (by rfl) ?_ ?_ ?_ ?_
         rotate_left
         ·intro w'; go_simp; with_reducible rfl
         rotate_left
         ·simp only [Act.put, sqA, sqB, sqC, i64_w, i32_w]; rfl
         refine tk 2 76 (bits 9 55) ?_ rfl rfl (by kernel_rfl) (fun _ _ _ h => h) (by rfl) ?_ hHeld ?_ ?_ ?_
         rotate_left
         ·intro w' hw'; have s0 : w'.cell? ⟨g29, 3, none⟩ = some (.int .i64 P.f3) := hw'.cell 0 3 rfl rfl; go_simp; with_reducible rfl
         rotate_left
         ·simp only [Act.put, sqA, sqB, sqC, i64_w, i32_w]; rfl
         refine tk 6 80 (bits 9 119) ?_ rfl rfl (by kernel_rfl) (fun _ _ _ h => h) (by rfl) ?_ hHeld ?_ ?_ ?_
         rotate_left
         ·intro w' hw'; have s0 : w'.cell? ⟨g29, 3, none⟩ = some (.int .i64 P.f3) := hw'.cell 0 3 rfl rfl; go_simp; with_reducible rfl
         rotate_left
         ·simp only [Act.put, sqA, sqB, sqC, i64_w, i32_w]; rfl
         refine one_ (i := 3) (N := some 77) (bits 9 127) rfl rfl (by kernel_rfl) (by decide) (fun K hK => ?_)
         refine goes_ Try.func29 (by kernel_rfl) rfl #[(.pointer (some ⟨B, 0, none⟩)), (.int .i64 P.f3)] (by rfl) rfl rfl (by (try simp only [List.map_toArray, List.map_cons, List.map_nil]); first | done | rfl) ?_
         refine (askTurnT w _ (Blk g29 (pkA P (.slice none 0 0) (.slice none 0 0) (.slice none 0 0) A3 c3 A5 c5 A7 c7 (.slice A39 x.f2.f8.length c39)) 47 :: Row k115 115 (.slice A3 P.f6.f3.length c3) P.f6.f3 :: Row k35 35 (.slice A5 P.f6.f5.length c5) P.f6.f5 :: Row k108 108 (.slice A7 P.f7.f1.length c7) P.f7.f1 :: Blk g22 (actL x A10 c10 A11 c11 A30 c30 A34 c34 A35 c35 A36 c36 A38 c38 A39 c39 A47 c47).toArray 52 :: Blk BR (refA s BL) 87 :: Blk BL (leadA s) 3 :: [Old w]) B bl q s ((((((((((S97.out).bring 8 rfl).bring 8 rfl).bring 6 rfl).bring 6 rfl).bring 6 rfl).bring 6 rfl).bring 6 rfl).bring 8 rfl).bring 8 rfl) HK.out P.f3).mono ?_
         rintro e1 w99 ⟨rfl, h_⟩
         have S98 := Aside0.mk h_
         clear h_
         refine ⟨_, rfl, ?_⟩
         refine hK.out _ _ ((((((((((S98.out).erase 8).erase 7).erase 6).erase 5).erase 4).erase 3).erase 1).erase 0)) ?_
         clear hHeld
         intro hHeld
         clear hK K
         refine norm_ (a' := ?_) ?_ ?_
         rotate_left
         ·show Act.put _ (some 77) _ = _; simp only [Act.put, sqA, sqB, sqC, i64_w, i32_w]; rfl
         refine one_ (i := 7) (N := some 81) (bits 9 255) rfl rfl (by kernel_rfl) (by decide) (fun K hK => ?_)
         refine goes_ Try.func30 (by kernel_rfl) rfl #[(.pointer (some ⟨BR, 0, none⟩)), (.int .i64 P.f3)] (by rfl) rfl rfl (by (try simp only [List.map_toArray, List.map_cons, List.map_nil]); first | done | rfl) ?_
         refine (refTurn w _ (Blk B (askA (turnV s P.f3).2 bl) 97 :: MapT bl (q) ((turnV s P.f3).2).lead :: Blk g29 (pkA P (.slice none 0 0) (.slice none 0 0) (.slice none 0 0) A3 c3 A5 c5 A7 c7 (.slice A39 x.f2.f8.length c39)) 47 :: Row k115 115 (.slice A3 P.f6.f3.length c3) P.f6.f3 :: Row k35 35 (.slice A5 P.f6.f5.length c5) P.f6.f5 :: Row k108 108 (.slice A7 P.f7.f1.length c7) P.f7.f1 :: Blk g22 (actL x A10 c10 A11 c11 A30 c30 A34 c34 A35 c35 A36 c36 A38 c38 A39 c39 A47 c47).toArray 52 :: [Old w]) BR BL q s ((((((((((S98.out).bring 6 rfl).bring 6 rfl).bring 6 rfl).bring 6 rfl).bring 6 rfl).bring 6 rfl).bring 6 rfl).bring 8 rfl).bring 8 rfl) HK.out P.f3).mono ?_
         rintro e1 w101 ⟨rfl, h_⟩
         have S100 := Aside0.mk h_
         clear h_
         have HK2 := Aside0.mk (show As.ok (turnV s P.f3).2 (q) from turnV_ok HK.out _)
         refine ⟨_, rfl, ?_⟩
         refine hK.out _ _ ((((((((((S100.out).erase 8).erase 7).erase 6).erase 5).erase 3).erase 2).erase 1).erase 0)) ?_
         clear hHeld
         intro hHeld
         clear hK K
         refine norm_ (a' := ?_) ?_ ?_
         rotate_left
         ·show Act.put _ (some 81) _ = _; simp only [Act.put, sqA, sqB, sqC, i64_w, i32_w]; rfl
         refine pu 8 82 (bits 9 511) ?_ rfl rfl (by kernel_rfl) (fun _ _ _ h => h) (by rfl) ?_ ?_ ?_ ?_
         rotate_left
         ·intro w'; go_simp; with_reducible rfl
         rotate_left
         ·simp only [Act.put, sqA, sqB, sqC, i64_w, i32_w]; rfl
         refine done_ (by kernel_rfl) ?_
         clear hHeld
         go_upto_region 26 with (fail)
         have S103 := Aside0.mk S100.out.drew
         refine start_ (n := 16) (S := fun w' => St w w' (Blk BR (refA (turnV s P.f3).2 BL) 87 :: [Old w])) (ds := []) (bits 16 0) (by kernel_rfl) rfl rfl ((((((((((S100.out).erase 8).erase 7).erase 6).erase 5).erase 4).erase 3).erase 2).erase 1)).drew (fun hHeld => ?_)
         generalize w101.drew = w102 at S103 hHeld ⊢
         refine pu 0 129 (bits 16 1) ?_ rfl rfl (by kernel_rfl) (fun _ _ _ h => h) (by rfl) ?_ ?_ ?_ ?_
         rotate_left
         ·intro w'; go_simp; with_reducible rfl
         rotate_left
         ·simp only [Act.put, sqA, sqB, sqC, i64_w, i32_w]; rfl
         refine pu 2 131 (bits 16 5) ?_ rfl rfl (by kernel_rfl) (fun _ _ _ h => h) (by rfl) ?_ ?_ ?_ ?_
         rotate_left
         ·intro w'; go_simp; with_reducible rfl
         rotate_left
         ·simp only [Act.put, sqA, sqB, sqC, i64_w, i32_w]; rfl
         refine pu 3 132 (bits 16 13) ?_ rfl rfl (by kernel_rfl) (fun _ _ _ h => h) (by rfl) ?_ ?_ ?_ ?_
         rotate_left
         ·intro w'; go_simp; with_reducible rfl
         rotate_left
         ·simp only [Act.put, sqA, sqB, sqC, i64_w, i32_w]; rfl
         refine pu 4 133 (bits 16 29) ?_ rfl rfl (by kernel_rfl) (fun _ _ _ h => h) (by rfl) ?_ ?_ ?_ ?_
         rotate_left
         ·intro w'; go_simp; with_reducible rfl
         rotate_left
         ·simp only [Act.put, sqA, sqB, sqC, i64_w, i32_w]; rfl
         refine tk 5 134 (bits 16 61) ?_ rfl rfl (by kernel_rfl) (fun _ _ _ h => h) (by rfl) ?_ hHeld ?_ ?_ ?_
         rotate_left
         ·intro w' hw'; have s0 : w'.cell? ⟨BR, 24, none⟩ = some (.bool ((turnV s P.f3).2).busy) := hw'.cell 0 24 rfl rfl; go_simp; with_reducible rfl
         rotate_left
         ·simp only [Act.put, sqA, sqB, sqC, i64_w, i32_w]; rfl
         refine one_ (i := 1) (N := some 130) (bits 16 63) rfl rfl (by kernel_rfl) (by decide) (fun K hK => ?_)
         refine goes_ Try.func31 (by kernel_rfl) rfl #[(.pointer (some ⟨B, 0, none⟩))] (by rfl) rfl rfl (by (try simp only [List.map_toArray, List.map_cons, List.map_nil]); first | done | rfl) ?_
         refine (askBusyT w _ (Blk BR (refA (turnV s P.f3).2 BL) 87 :: Blk BL (leadA (turnV s P.f3).2) 3 :: Blk g29 (pkA P (.slice none 0 0) (.slice none 0 0) (.slice none 0 0) A3 c3 A5 c5 A7 c7 (.slice A39 x.f2.f8.length c39)) 47 :: Row k115 115 (.slice A3 P.f6.f3.length c3) P.f6.f3 :: Row k35 35 (.slice A5 P.f6.f5.length c5) P.f6.f5 :: Row k108 108 (.slice A7 P.f7.f1.length c7) P.f7.f1 :: Blk g22 (actL x A10 c10 A11 c11 A30 c30 A34 c34 A35 c35 A36 c36 A38 c38 A39 c39 A47 c47).toArray 52 :: [Old w]) B bl (q) (turnV s P.f3).2 ((((((((((S103.out).bring 8 rfl).bring 8 rfl).bring 8 rfl).bring 8 rfl).bring 8 rfl).bring 6 rfl).bring 6 rfl).bring 8 rfl).bring 8 rfl) HK2.out).mono ?_
         rintro e1 w105 ⟨rfl, h_⟩
         have S104 := Aside0.mk h_
         clear h_
         refine ⟨_, rfl, ?_⟩
         refine hK.out _ _ ((((((((((S104.out).erase 8).erase 7).erase 6).erase 5).erase 4).erase 3).erase 1).erase 0)) ?_
         clear hHeld
         intro hHeld
         clear hK K
         refine norm_ (a' := ?_) ?_ ?_
         rotate_left
         ·show Act.put _ (some 130) _ = _; simp only [Act.put, sqA, sqB, sqC, i64_w, i32_w]; rfl
         refine pu 6 135 (bits 16 127) ?_ rfl rfl (by kernel_rfl) (fun _ _ _ h => h) (by rfl) ?_ ?_ ?_ ?_
         rotate_left
         ·intro w'; go_simp; with_reducible rfl
         rotate_left
         ·simp only [Act.put, sqA, sqB, sqC, i64_w, i32_w]; rfl
         refine pu 7 136 (bits 16 255) ?_ rfl rfl (by kernel_rfl) (fun _ _ _ h => h) (by rfl) ?_ ?_ ?_ ?_
         rotate_left
         ·intro w'; go_simp; with_reducible rfl
         rotate_left
         ·simp only [Act.put, sqA, sqB, sqC, i64_w, i32_w]; rfl
         refine pu 8 137 (bits 16 511) ?_ rfl rfl (by kernel_rfl) (fun _ _ _ h => h) (by rfl) ?_ ?_ ?_ ?_
         rotate_left
         ·intro w'; go_simp; with_reducible rfl
         rotate_left
         ·simp only [Act.put, sqA, sqB, sqC, i64_w, i32_w]; rfl
         refine pu 10 139 (bits 16 1535) ?_ rfl rfl (by kernel_rfl) (fun _ _ _ h => h) (by rfl) ?_ ?_ ?_ ?_
         rotate_left
         ·intro w'; go_simp; with_reducible rfl
         rotate_left
         ·simp only [Act.put, sqA, sqB, sqC, i64_w, i32_w]; rfl
         refine pu 11 140 (bits 16 3583) ?_ rfl rfl (by kernel_rfl) (fun _ _ _ h => h) (by rfl) ?_ ?_ ?_ ?_
         rotate_left
         ·intro w'; go_simp; with_reducible rfl
         rotate_left
         ·simp only [Act.put, sqA, sqB, sqC, i64_w, i32_w]; rfl
         refine pu 12 141 (bits 16 7679) ?_ rfl rfl (by kernel_rfl) (fun _ _ _ h => h) (by rfl) ?_ ?_ ?_ ?_
         rotate_left
         ·intro w'; go_simp; with_reducible rfl
         rotate_left
         ·simp only [Act.put, sqA, sqB, sqC, i64_w, i32_w]; rfl
         refine tk 13 142 (bits 16 15871) ?_ rfl rfl (by kernel_rfl) (fun _ _ _ h => h) (by rfl) ?_ hHeld ?_ ?_ ?_
         rotate_left
         ·intro w' hw'; have s0 : w'.cell? ⟨BR, 3, none⟩ = some (.int .i64 ((turnV s P.f3).2).num) := hw'.cell 0 3 rfl rfl; go_simp; with_reducible rfl
         rotate_left
         ·simp only [Act.put, sqA, sqB, sqC, i64_w, i32_w]; rfl
         refine one_ (i := 9) (N := some 138) (bits 16 16383) rfl rfl (by kernel_rfl) (by decide) (fun K hK => ?_)
         refine goes_ Try.func32 (by kernel_rfl) rfl #[(.pointer (some ⟨B, 0, none⟩))] (by rfl) rfl rfl (by (try simp only [List.map_toArray, List.map_cons, List.map_nil]); first | done | rfl) ?_
         refine (askNumT w _ (Blk BR (refA (turnV s P.f3).2 BL) 87 :: Blk BL (leadA (turnV s P.f3).2) 3 :: Blk g29 (pkA P (.slice none 0 0) (.slice none 0 0) (.slice none 0 0) A3 c3 A5 c5 A7 c7 (.slice A39 x.f2.f8.length c39)) 47 :: Row k115 115 (.slice A3 P.f6.f3.length c3) P.f6.f3 :: Row k35 35 (.slice A5 P.f6.f5.length c5) P.f6.f5 :: Row k108 108 (.slice A7 P.f7.f1.length c7) P.f7.f1 :: Blk g22 (actL x A10 c10 A11 c11 A30 c30 A34 c34 A35 c35 A36 c36 A38 c38 A39 c39 A47 c47).toArray 52 :: [Old w]) B bl (q) (turnV s P.f3).2 (S104.out) HK2.out).mono ?_
         rintro e1 w107 ⟨rfl, h_⟩
         have S106 := Aside0.mk h_
         clear h_
         refine ⟨_, rfl, ?_⟩
         refine hK.out _ _ ((((((((((S106.out).erase 8).erase 7).erase 6).erase 5).erase 4).erase 3).erase 1).erase 0)) ?_
         clear hHeld
         intro hHeld
         clear hK K
         refine norm_ (a' := ?_) ?_ ?_
         rotate_left
         ·show Act.put _ (some 138) _ = _; simp only [Act.put, sqA, sqB, sqC, i64_w, i32_w]; rfl
         refine pu 14 143 (bits 16 32767) ?_ rfl rfl (by kernel_rfl) (fun _ _ _ h => h) (by rfl) ?_ ?_ ?_ ?_
         rotate_left
         ·intro w'; go_simp; with_reducible rfl
         rotate_left
         ·simp only [Act.put, sqA, sqB, sqC, i64_w, i32_w]; rfl
         refine pu 15 144 (bits 16 65535) ?_ rfl rfl (by kernel_rfl) (fun _ _ _ h => h) (by rfl) ?_ ?_ ?_ ?_
         rotate_left
         ·intro w'; go_simp; with_reducible rfl
         rotate_left
         ·simp only [Act.put, sqA, sqB, sqC, i64_w, i32_w]; rfl
         refine done_ (by kernel_rfl) ?_
         clear hHeld
         go_upto_region 7 with (fail)
         go_wp2_with (fail)
         go_roundg (60 - (i + 1))
         case measure => have := HLT.out; omega
         case rel => exact ⟨i + 1, by go_num, by have := HLT.out; omega, by have := HLT.out; omega, ⟨(turnV s P.f3).2, q, HK2.out, (by have := HQ.out; omega), ((((((S106.out).erase 8).erase 7).erase 6).erase 5).erase 4)⟩⟩
    ·have t21 : decide (i < 60) = false := decide_eq_false (by omega)
     have t19 : decide ((i : Int) < 60) = false := decide_eq_false q18
     have Xq18 := Aside0.mk q18
     clear q18
     go_upto_region 6 with (fail)
     go_upto_region 28 with (fail)
     go_wp2_with (first | (go_at_call 14; (with_reducible refine (worksT w _ _ SI.out).mono ?_); rintro e1 w109 ⟨rfl, h_⟩; have S108 := Aside0.mk h_; clear h_))
     try go_ret
     refine HPOST.out _ _ ?_
     exact ⟨rfl, S108.out.toBelow 4 rfl⟩
   ·have t17 : decide (i < acts.length) = false := decide_eq_false (by omega)
    have t15 : decide ((i : Int) < (acts.length : Int)) = false := decide_eq_false q14
    have Xq14 := Aside0.mk q14
    clear q14
    go_upto_region 6 with (fail)
    go_upto_region 28 with (fail)
    go_wp2_with (first | (go_at_call 14; (with_reducible refine (worksT w _ _ SI.out).mono ?_); rintro e1 w111 ⟨rfl, h_⟩; have S110 := Aside0.mk h_; clear h_))
    try go_ret
    refine HPOST.out _ _ ?_
    exact ⟨rfl, S110.out.toBelow 4 rfl⟩
 ·have HC := Aside0.mk hc
  clear hc
  go_enter Try.func5, Try.ntmps5
  go_upto_region 0 with (fail)
  go_upto_region 1 with (first | ((refine gate_dst (N := 2) rfl ?_); refine st_box ?hg (N := 2) ?hd #[(.int .i64 c0), (.int .i64 c1), (.int .i64 c2)] 70 ?hr H.out ?_; (case hd => rfl); (case hg => rfl); (case hr => first | (go_simp; done) | (go_simp; rfl)); intro g1 w2 hg_ h_ hb_; have S3 := Aside0.mk h_; have BS3 := Aside0.mk hb_; have GS3 := Aside0.mk hg_; clear h_ hb_ hg_))
  have cf_4 : w2.cell? ⟨g1, 0, none⟩ = some (.int .i64 c0) := S3.out.cell 0 0 rfl rfl
  have cf_5 : w2.cell? ⟨g1, 1, none⟩ = some (.int .i64 c1) := S3.out.cell 0 1 rfl rfl
  have cf_6 : w2.cell? ⟨g1, 2, none⟩ = some (.int .i64 c2) := S3.out.cell 0 2 rfl rfl
  go_upto_region 2 with (first | (go_at_call 18; (refine (newAskerBad w _ _ S3.out c0 c1 c2 HC.out).mono ?_); rintro e1 w8 ⟨rfl, h_⟩; clear cf_4 cf_5 cf_6; have S7 := Aside0.mk h_; clear h_))
  have cf_9 : w8.cell? ⟨g1, 0, none⟩ = some (.int .i64 c0) := S7.out.cell 0 0 rfl rfl
  have cf_10 : w8.cell? ⟨g1, 1, none⟩ = some (.int .i64 c1) := S7.out.cell 0 1 rfl rfl
  have cf_11 : w8.cell? ⟨g1, 2, none⟩ = some (.int .i64 c2) := S7.out.cell 0 2 rfl rfl
  go_upto_region 3 with (first | (go_at_call 19; (refine (refNewBad w _ _ S7.out c0 c1 c2 HC.out).mono ?_); rintro e1 w13 ⟨rfl, h_⟩; clear cf_9 cf_10 cf_11; have S12 := Aside0.mk h_; clear h_))
  go_upto_region 5 with (fail)
  go_wp2_with (fail)
  refine wp_loop_round ?_
  refine round_unroll ?_
  rcases Decidable.em (0 < (acts.length : Int)) with q14 | q14
  ·have t17 : decide (0 < acts.length) = true := decide_eq_true (by omega)
   have t15 : decide (0 < (acts.length : Int)) = true := decide_eq_true q14
   have Xq14 := Aside0.mk q14
   clear q14
   go_upto_region 6 with (fail)
   go_upto_region 28 with (fail)
   go_wp2_with (first | (go_at_call 14; (with_reducible refine (worksT w _ _ S12.out).mono ?_); rintro e1 w19 ⟨rfl, h_⟩; have S18 := Aside0.mk h_; clear h_))
   try go_ret
   refine HPOST.out _ _ ?_
   exact ⟨rfl, S18.out.toBelow 1 rfl⟩
  ·have t17 : decide (0 < acts.length) = false := decide_eq_false (by omega)
   have t15 : decide (0 < (acts.length : Int)) = false := decide_eq_false q14
   have Xq14 := Aside0.mk q14
   clear q14
   go_upto_region 6 with (fail)
   go_upto_region 28 with (fail)
   go_wp2_with (first | (go_at_call 14; (with_reducible refine (worksT w _ _ S12.out).mono ?_); rintro e1 w21 ⟨rfl, h_⟩; have S20 := Aside0.mk h_; clear h_))
   try go_ret
   refine HPOST.out _ _ ?_
   exact ⟨rfl, S20.out.toBelow 1 rfl⟩
end Go.Proofs.Ytonedijkgddepaa.P
