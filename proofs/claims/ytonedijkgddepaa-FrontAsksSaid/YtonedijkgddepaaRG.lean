/- The reference's asker, by hand: Recv, own, NewAsker. No conditions. -/
import Derived.Test.YtonedijkgddepaaSq
import Derived.Test.YtonedijkgddepaaRF
namespace Go.Proofs.Ytonedijkgddepaa.P
open Go.Sq
open Go.RowKit Go.Maps Go.Proofs.YtonedijkgddepaaW.PrintWords Go.Proofs.YtonedijkgddepaaW.PrintLast Go.Proofs.YtonedijkgddepaaW.PrintMore
set_option linter.unusedVariables false
set_option linter.unusedSimpArgs false

def RRecvP (w0 : World) (L : List Thing) (BR BL : Nat) (A3 A5 : Option Addr) (c3 c5 : Nat) (p : S47) (x : As × S42 × Bool) (e' : Ending) (w' : World) : Prop := ∃ B3 B5 d3 d5, e' = .returned (.tuple #[.agg #[.int .i64 x.2.1.f0, .int .i64 x.2.1.f1, .int .i64 x.2.1.f2, .slice B3 x.2.1.f3.length d3, .slice none 0 0, .slice B5 x.2.1.f5.length d5], .bool x.2.2]) ∧ ((x.2.1 = p.f6 ∧ B3 = A3 ∧ d3 = c3 ∧ B5 = A5 ∧ d5 = c5) ∨ (x.2.1 = z42 ∧ B3 = none ∧ d3 = 0 ∧ B5 = none ∧ d5 = 0)) ∧ St w0 w' (refT BR BL x.1 ++ L)
def ownV (s : As) (p : S47) : S47 := if p.f0 = 3 then { p with f2 := -s.id, f3 := s.group, f5 := { p.f5 with f1 := s.id, f2 := s.num } } else { p with f2 := -s.id }
def RNewP (w0 : World) (L : List Thing) (id nodes retry : Int) (e' : Ending) (w' : World) : Prop := (confOk id nodes retry ∧ ∃ BR BL, e' = .returned (.tuple #[.pointer (some ⟨BR, 0, none⟩), .int .i64 0]) ∧ St w0 w' (refT BR BL (newAs id nodes retry) ++ L)) ∨ (¬ confOk id nodes retry ∧ e' = .returned (.tuple #[.pointer none, .int .i64 2]) ∧ St w0 w' L)
set_option maxHeartbeats 4000000 in
set_option maxRecDepth 100000 in
theorem refRecv (w0 w : World) (L : List Thing) (BR BL q : Nat) (s : As) (h : St w0 w (refT BR BL s ++ L)) (hk : s.ok q) (p : S47) (vm vv vd vpd : Value) (A3 A5 A7 : Option Addr) (c3 c5 c7 : Nat) (hz4 : p.f6.f4 = []) :
  Calls Try.prog 25 #[.pointer (some ⟨BR, 0, none⟩), .agg (pkA p vm vv vd A3 c3 A5 c5 A7 c7 vpd)] w fun e' w' => RRecvP w0 L BR BL A3 A5 c3 c5 p (recvV s p) e' w' := by
 have H := Aside0.mk h
 have HK := Aside0.mk hk
 have HZ := Aside0.mk hz4
 have HKF := Aside0.mk (sentF_ok hk)
 have hng := neg_w hk.id1
 have hw1 : s.num = s.num := rfl
 have HW1 := Aside0.mk (fun (h1 : 1 ≤ p.f6.f2) (h2 : p.f6.f2 ≤ s.nodes) => (show wrap64 (p.f6.f2 - 1) = p.f6.f2 - 1 by have := hk.nodes1; unfold wrap64; omega))
 clear hz4 hw1
 clear h hk
 refine calls_hide fun R HPOST => ?_
 go_enter Try.func25, Try.ntmps25
 go_upto_region 0 with (fail)
 rcases Bool.eq_false_or_eq_true s.busy with q7 | q7
 ·have Xq7 := Aside0.mk q7
  rcases Decidable.em (p.f0 = 3) with q8 | q8
  ·have t9 : (p.f0 == 3) = true := beq_iff_eq.2 q8
   have u10 : (p.f0 != 3) = false := by rw [bne, t9]; rfl
   have Xq8 := Aside0.mk q8
   clear q8
   rcases Decidable.em (p.f2 = (-s.id)) with q11 | q11
   ·have t12 : (p.f2 == (-s.id)) = true := beq_iff_eq.2 q11
    have u13 : (p.f2 != (-s.id)) = false := by rw [bne, t12]; rfl
    have Xq11 := Aside0.mk q11
    clear q11
    rcases Decidable.em (p.f3 = s.group) with q14 | q14
    ·have t15 : (p.f3 == s.group) = true := beq_iff_eq.2 q14
     have u16 : (p.f3 != s.group) = false := by rw [bne, t15]; rfl
     have Xq14 := Aside0.mk q14
     clear q14
     rcases Decidable.em (p.f5.f1 = s.id) with q17 | q17
     ·have t18 : (p.f5.f1 == s.id) = true := beq_iff_eq.2 q17
      have u19 : (p.f5.f1 != s.id) = false := by rw [bne, t18]; rfl
      have Xq17 := Aside0.mk q17
      clear q17
      rcases Decidable.em (p.f5.f2 = s.num) with q20 | q20
      ·have t21 : (p.f5.f2 == s.num) = true := beq_iff_eq.2 q20
       have u22 : (p.f5.f2 != s.num) = false := by rw [bne, t21]; rfl
       have Xq20 := Aside0.mk q20
       clear q20
       go_upto_region 1 with (first | ((with_reducible refine gate_dst (N := 3) rfl ?_); (try simp only [hng]); refine st_box ?hg (N := 3) ?hd (pkA p vm vv vd A3 c3 A5 c5 A7 c7 vpd) 47 ?hr H.out ?_; (case hd => rfl); (case hg => rfl); (case hr => first | (go_simp; done) | (go_simp; rfl)); intro g1 w2 hg_ h_ hb_; have S3 := Aside0.mk h_; have BS3 := Aside0.mk hb_; have GS3 := Aside0.mk hg_; clear h_ hb_ hg_) | ((with_reducible refine gate_dst (N := 4) rfl ?_); (try simp only [hng]); refine st_box ?hg (N := 4) ?hd #[(.int .i64 0), (.int .i64 0), (.int .i64 0), (.slice none 0 0), (.slice none 0 0), (.slice none 0 0)] 42 ?hr S3.out ?_; (case hd => rfl); (case hg => rfl); (case hr => first | (go_simp; done) | (go_simp; rfl)); intro g4 w5 hg_ h_ hb_; have S6 := Aside0.mk h_; have BS6 := Aside0.mk hb_; have GS6 := Aside0.mk hg_; clear h_ hb_ hg_))
       have c23 : w5.cell? ⟨BR, 24, none⟩ = some (.bool true) := (show w5.cell? ⟨BR, 24, none⟩ = some (.bool s.busy) from S6.out.cell 2 24 rfl rfl).trans (by rw [q7])
       have c24 : w5.cell? ⟨g1, 0, none⟩ = some (.int .i64 p.f0) := S6.out.cell 1 0 rfl rfl
       have c25 : w5.cell? ⟨g1, 2, none⟩ = some (.int .i64 p.f2) := S6.out.cell 1 2 rfl rfl
       have c26 : w5.cell? ⟨BR, 0, none⟩ = some (.int .i64 s.id) := S6.out.cell 2 0 rfl rfl
       have c27 : w5.cell? ⟨g1, 3, none⟩ = some (.int .i64 p.f3) := S6.out.cell 1 3 rfl rfl
       have c28 : w5.cell? ⟨BR, 4, none⟩ = some (.int .i64 s.group) := S6.out.cell 2 4 rfl rfl
       have c29 : w5.cell? ⟨g1, 13, none⟩ = some (.int .i64 p.f5.f1) := S6.out.cell 1 13 rfl rfl
       have c30 : w5.cell? ⟨g1, 14, none⟩ = some (.int .i64 p.f5.f2) := S6.out.cell 1 14 rfl rfl
       have c31 : w5.cell? ⟨BR, 3, none⟩ = some (.int .i64 s.num) := S6.out.cell 2 3 rfl rfl
       go_quiet (fail)
       have S33 := Aside0.mk (S6.out.drewN nq)
       generalize w5.drewN nq = w32 at S33 ⊢
       clear c23 c24 c25 c26 c27 c28 c29 c30 c31
       rcases Decidable.em (p.f6.f0 = 15) with q34 | q34
       ·have t35 : (p.f6.f0 == 15) = true := beq_iff_eq.2 q34
        have u36 : (p.f6.f0 != 15) = false := by rw [bne, t35]; rfl
        have Xq34 := Aside0.mk q34
        clear q34
        go_upto_region 3 with (fail)
        have c37 : w32.cell? ⟨g1, 31, none⟩ = some (.int .i64 p.f6.f0) := S33.out.cell 1 31 rfl rfl
        go_upto_region 4 with (fail)
        clear c37
        rcases Decidable.em (1 ≤ p.f6.f2) with q40 | q40
        ·have t41 : decide (1 ≤ p.f6.f2) = true := decide_eq_true q40
         have Xq40 := Aside0.mk q40
         clear q40
         rcases Decidable.em (p.f6.f2 ≤ s.nodes) with q43 | q43
         ·have t44 : decide (p.f6.f2 ≤ s.nodes) = true := decide_eq_true q43
          have Xq43 := Aside0.mk q43
          clear q43
          go_upto_region 5 with (first | ((with_reducible refine gate_ (.store 4 (.tmp 62) (.const (.bool false))) rfl ?_); (try simp only [hng]); refine st_store rfl rfl 4 _ _ rfl rfl rfl (seg := [(.bool false)]) rfl (by kernel_rfl) (by rfl) S33.out 2 rfl (Nat.le_of_ble_eq_true rfl) ?_; intro w38 h_; have S39 : Aside0 (St w0 w38 (Blk g4 #[(.int .i64 0), (.int .i64 0), (.int .i64 0), (.slice none 0 0), (.slice none 0 0), (.slice none 0 0)] 42 :: Blk g1 (pkA p vm vv vd A3 c3 A5 c5 A7 c7 vpd) 47 :: Blk BR (refA { s with sent := false } BL) 87 :: Blk BL (leadA { s with sent := false }) 3 :: L)) := Aside0.mk h_; clear h_))
          have c46 : w38.cell? ⟨g1, 33, none⟩ = some (.int .i64 p.f6.f2) := S39.out.cell 1 33 rfl rfl
          have c47 : w38.cell? ⟨BR, 1, none⟩ = some (.int .i64 s.nodes) := S39.out.cell 2 1 rfl rfl
          go_quiet (fail)
          have S49 := Aside0.mk (S39.out.drewN nq)
          generalize w38.drewN nq = w48 at S49 ⊢
          clear c46 c47
          go_upto_region 6 with (fail)
          have hw1 := HW1.out Xq40.out Xq43.out
          have S51 := Aside0.mk S49.out.drew
          refine start_ (n := 14) (S := fun w' => St w0 w' (Blk g4 #[(.int .i64 0), (.int .i64 0), (.int .i64 0), (.slice none 0 0), (.slice none 0 0), (.slice none 0 0)] 42 :: Blk g1 (pkA p vm vv vd A3 c3 A5 c5 A7 c7 vpd) 47 :: Blk BR (refA { s with sent := false } BL) 87 :: Blk BL (leadA { s with sent := false }) 3 :: L)) (ds := [13]) (bits 14 0) (by kernel_rfl) rfl rfl (S49.out).drew (fun hHeld => ?_)
          generalize w48.drew = w50 at S51 hHeld ⊢
          refine pu 0 77 (bits 14 1) ?_ rfl rfl (by kernel_rfl) (fun _ _ _ h => h) (by rfl) ?_ ?_ ?_ ?_
          rotate_left
          ·intro w'; go_simp; with_reducible rfl
          rotate_left
          ·simp only [Act.put, sqA, sqB, sqC, i64_w, i32_w, hw1]; rfl
          refine pu 1 78 (bits 14 3) ?_ rfl rfl (by kernel_rfl) (fun _ _ _ h => h) (by rfl) ?_ ?_ ?_ ?_
          rotate_left
          ·intro w'; go_simp; with_reducible rfl
          rotate_left
          ·simp only [Act.put, sqA, sqB, sqC, i64_w, i32_w, hw1]; rfl
          refine pu 2 79 (bits 14 7) ?_ rfl rfl (by kernel_rfl) (fun _ _ _ h => h) (by rfl) ?_ ?_ ?_ ?_
          rotate_left
          ·intro w'; go_simp; with_reducible rfl
          rotate_left
          ·simp only [Act.put, sqA, sqB, sqC, i64_w, i32_w, hw1]; rfl
          refine pu 4 81 (bits 14 23) ?_ rfl rfl (by kernel_rfl) (fun _ _ _ h => h) (by rfl) ?_ ?_ ?_ ?_
          rotate_left
          ·intro w'; go_simp; with_reducible rfl
          rotate_left
          ·simp only [Act.put, sqA, sqB, sqC, i64_w, i32_w, hw1]; rfl
          refine pu 5 82 (bits 14 55) ?_ rfl rfl (by kernel_rfl) (fun _ _ _ h => h) (by rfl) ?_ ?_ ?_ ?_
          rotate_left
          ·intro w'; go_simp; with_reducible rfl
          rotate_left
          ·simp only [Act.put, sqA, sqB, sqC, i64_w, i32_w, hw1]; rfl
          refine pu 6 83 (bits 14 119) ?_ rfl rfl (by kernel_rfl) (fun _ _ _ h => h) (by rfl) ?_ ?_ ?_ ?_
          rotate_left
          ·intro w'; go_simp; with_reducible rfl
          rotate_left
          ·simp only [Act.put, sqA, sqB, sqC, i64_w, i32_w, hw1]; rfl
          refine pu 8 85 (bits 14 375) ?_ rfl rfl (by kernel_rfl) (fun _ _ _ h => h) (by rfl) ?_ ?_ ?_ ?_
          rotate_left
          ·intro w'; go_simp; with_reducible rfl
          rotate_left
          ·simp only [Act.put, sqA, sqB, sqC, i64_w, i32_w, hw1]; rfl
          refine pu 9 86 (bits 14 887) ?_ rfl rfl (by kernel_rfl) (fun _ _ _ h => h) (by rfl) ?_ ?_ ?_ ?_
          rotate_left
          ·intro w'; go_simp; with_reducible rfl
          rotate_left
          ·simp only [Act.put, sqA, sqB, sqC, i64_w, i32_w, hw1]; rfl
          refine tk 3 80 (bits 14 895) ?_ rfl rfl (by kernel_rfl) (fun _ _ _ h => h) (by rfl) ?_ hHeld ?_ ?_ ?_
          rotate_left
          ·intro w' hw'; have s0 : w'.cell? ⟨BR, 27, none⟩ = some (.slice (some ⟨BL, 0, none⟩) 7 7) := hw'.cell 2 27 rfl rfl; go_simp; with_reducible rfl
          rotate_left
          ·simp only [Act.put, sqA, sqB, sqC, i64_w, i32_w, hw1]; rfl
          refine tk 7 84 (bits 14 1023) ?_ rfl rfl (by kernel_rfl) (fun _ _ _ h => h) (by rfl) ?_ hHeld ?_ ?_ ?_
          rotate_left
          ·intro w' hw'; have s0 : w'.cell? ⟨BR, 4, none⟩ = some (.int .i64 s.group) := hw'.cell 2 4 rfl rfl; go_simp; with_reducible rfl
          rotate_left
          ·simp only [Act.put, sqA, sqB, sqC, i64_w, i32_w, hw1]; rfl
          refine tk 10 87 (bits 14 2047) ?_ rfl rfl (by kernel_rfl) (fun _ _ _ h => h) (by rfl) ?_ hHeld ?_ ?_ ?_
          rotate_left
          ·intro w' hw'; have s0 : w'.cell? ⟨g1, 33, none⟩ = some (.int .i64 p.f6.f2) := hw'.cell 1 33 rfl rfl; go_simp; with_reducible rfl
          rotate_left
          ·simp only [Act.put, sqA, sqB, sqC, i64_w, i32_w, hw1]; rfl
          refine pu 11 88 (bits 14 4095) ?_ rfl rfl (by kernel_rfl) (fun _ _ _ h => h) (by rfl) ?_ ?_ ?_ ?_
          rotate_left
          ·intro w'; go_simp; with_reducible rfl
          rotate_left
          ·simp only [Act.put, sqA, sqB, sqC, i64_w, i32_w, hw1]; rfl
          refine pure_ (i := 12) (N := some 89) (a' := ?_) (bits 14 8191) rfl rfl (by kernel_rfl) (fun _ _ _ h => h) (yields_index (by rfl) 63 _ _ rfl rfl rfl HK.out.group1.1 (by have := HK.out.group1.2; omega) Try.underlying63 (sz := 1) (by kernel_rfl) (o' := s.group.toNat) (by simp)) ?_ ?_
          rotate_left
          ·simp only [Act.put, sqA, sqB, sqC, i64_w, i32_w, hw1]; rfl
          refine last_ (i := 13) (N := none) (bits 14 16383) rfl rfl (by kernel_rfl) (by decide) (fun K hK => ?_)
          refine st_store_step (by rfl) rfl 3 _ _ rfl rfl rfl (seg := [(.int .i64 (p.f6.f2 - 1))]) rfl (by kernel_rfl) (by rfl) S51.out 3 rfl (lead_fit HK.out.group1) ?_
          intro w52 h_ hu_
          have S53 : Aside0 (St w0 w52 (Blk g4 #[(.int .i64 0), (.int .i64 0), (.int .i64 0), (.slice none 0 0), (.slice none 0 0), (.slice none 0 0)] 42 :: Blk g1 (pkA p vm vv vd A3 c3 A5 c5 A7 c7 vpd) 47 :: Blk BR (refA { s with sent := false, lead := putM s.group (p.f6.f2 - 1) s.lead } BL) 87 :: Blk BL (leadA { s with sent := false, lead := putM s.group (p.f6.f2 - 1) s.lead }) 3 :: L)) := Aside0.mk (h_.recell 3 rfl (lead_set (g := s.group) { s with sent := false } ({ s with sent := false, lead := putM s.group (p.f6.f2 - 1) s.lead }) HK.out.group1 rfl))
          clear h_ hu_
          refine hK.out _ _ ?_
          clear hK K
          refine done_ (by kernel_rfl) ?_
          clear hHeld
          go_upto_region 8 with (fail)
          go_wp2_with (first | ((with_reducible refine gate_ (.store 42 (.tmp 4) (.tmp 92)) rfl ?_); (try simp only [hng]); refine st_store rfl rfl 42 _ _ rfl rfl rfl (seg := [(.int .i64 0), (.int .i64 0), (.int .i64 0), (.slice none 0 0), (.slice none 0 0), (.slice none 0 0)]) rfl (by kernel_rfl) (by rfl) S53.out 0 rfl (Nat.le_of_ble_eq_true rfl) ?_; intro w54 h_; have S55 : Aside0 (St w0 w54 (Blk g4 #[(.int .i64 0), (.int .i64 0), (.int .i64 0), (.slice none 0 0), (.slice none 0 0), (.slice none 0 0)] 42 :: Blk g1 (pkA p vm vv vd A3 c3 A5 c5 A7 c7 vpd) 47 :: Blk BR (refA { s with sent := false, lead := putM s.group (p.f6.f2 - 1) s.lead } BL) 87 :: Blk BL (leadA { s with sent := false, lead := putM s.group (p.f6.f2 - 1) s.lead }) 3 :: L)) := Aside0.mk h_; clear h_))
          refine bodyPost_ret (results_ct rfl _ _ g4 42 #[(.int .i64 0), (.int .i64 0), (.int .i64 0), (.slice none 0 0), (.slice none 0 0), (.slice none 0 0)] (0, 0) _ rfl (S55.out.blk 0 rfl) Try.underlying42 rfl (by kernel_rfl)) rfl ?_
          have HH := Aside0.mk (show hit s p from ⟨q7, Xq8.out, Xq11.out, Xq14.out, Xq17.out, Xq20.out⟩)
          have HLV := Aside0.mk (show leadV s p.f6.f2 = { s with sent := false, lead := putM s.group (p.f6.f2 - 1) s.lead } by unfold leadV; rw [if_pos ⟨Xq40.out, Xq43.out⟩])
          have HV := Aside0.mk (show recvV s p = ({ s with sent := false, lead := putM s.group (p.f6.f2 - 1) s.lead }, z42, false) by unfold recvV; rw [if_pos HH.out, if_pos Xq34.out, HLV.out])
          refine HPOST.out _ _ ?_
          unfold RRecvP
          rw [HV.out]
          exact ⟨_, _, _, _, rfl, Or.inr ⟨rfl, rfl, rfl, rfl, rfl⟩, (((S55.out).erase 1).erase 0)⟩
         ·have t44 : decide (p.f6.f2 ≤ s.nodes) = false := decide_eq_false q43
          have Xq43 := Aside0.mk q43
          clear q43
          go_upto_region 5 with (first | ((with_reducible refine gate_ (.store 4 (.tmp 62) (.const (.bool false))) rfl ?_); (try simp only [hng]); refine st_store rfl rfl 4 _ _ rfl rfl rfl (seg := [(.bool false)]) rfl (by kernel_rfl) (by rfl) S33.out 2 rfl (Nat.le_of_ble_eq_true rfl) ?_; intro w38 h_; have S39 : Aside0 (St w0 w38 (Blk g4 #[(.int .i64 0), (.int .i64 0), (.int .i64 0), (.slice none 0 0), (.slice none 0 0), (.slice none 0 0)] 42 :: Blk g1 (pkA p vm vv vd A3 c3 A5 c5 A7 c7 vpd) 47 :: Blk BR (refA { s with sent := false } BL) 87 :: Blk BL (leadA { s with sent := false }) 3 :: L)) := Aside0.mk h_; clear h_))
          have c56 : w38.cell? ⟨g1, 33, none⟩ = some (.int .i64 p.f6.f2) := S39.out.cell 1 33 rfl rfl
          have c57 : w38.cell? ⟨BR, 1, none⟩ = some (.int .i64 s.nodes) := S39.out.cell 2 1 rfl rfl
          go_quiet (fail)
          have S59 := Aside0.mk (S39.out.drewN nq)
          generalize w38.drewN nq = w58 at S59 ⊢
          clear c56 c57
          go_upto_region 7 with (fail)
          go_upto_region 8 with (first | (go_at_call 46; (try simp only [hng]); (with_reducible refine (refNext w0 _ (Blk g4 #[(.int .i64 0), (.int .i64 0), (.int .i64 0), (.slice none 0 0), (.slice none 0 0), (.slice none 0 0)] 42 :: Blk g1 (pkA p vm vv vd A3 c3 A5 c5 A7 c7 vpd) 47 :: L) BR BL q { s with sent := false } (((((S59.out).bring 1 rfl).bring 1 rfl).bring 3 rfl).bring 3 rfl) HKF.out).mono ?_); rintro e1 w61 ⟨rfl, h_⟩; have S60 := Aside0.mk h_; clear h_))
          go_wp2_with (first | ((with_reducible refine gate_ (.store 42 (.tmp 4) (.tmp 92)) rfl ?_); (try simp only [hng]); refine st_store rfl rfl 42 _ _ rfl rfl rfl (seg := [(.int .i64 0), (.int .i64 0), (.int .i64 0), (.slice none 0 0), (.slice none 0 0), (.slice none 0 0)]) rfl (by kernel_rfl) (by rfl) S60.out 2 rfl (Nat.le_of_ble_eq_true rfl) ?_; intro w62 h_; have S63 : Aside0 (St w0 w62 (Blk BR (refA (nextV { s with sent := false }) BL) 87 :: Blk BL (leadA (nextV { s with sent := false })) 3 :: Blk g4 #[(.int .i64 0), (.int .i64 0), (.int .i64 0), (.slice none 0 0), (.slice none 0 0), (.slice none 0 0)] 42 :: Blk g1 (pkA p vm vv vd A3 c3 A5 c5 A7 c7 vpd) 47 :: L)) := Aside0.mk h_; clear h_))
          refine bodyPost_ret (results_ct rfl _ _ g4 42 #[(.int .i64 0), (.int .i64 0), (.int .i64 0), (.slice none 0 0), (.slice none 0 0), (.slice none 0 0)] (0, 0) _ rfl (S63.out.blk 2 rfl) Try.underlying42 rfl (by kernel_rfl)) rfl ?_
          have HH := Aside0.mk (show hit s p from ⟨q7, Xq8.out, Xq11.out, Xq14.out, Xq17.out, Xq20.out⟩)
          have HLV := Aside0.mk (show leadV s p.f6.f2 = nextV { s with sent := false } by unfold leadV; rw [if_neg (fun h => (by have h1 := h.1; have h2 := h.2; have h3 := Xq43.out; omega))])
          have HV := Aside0.mk (show recvV s p = (nextV { s with sent := false }, z42, false) by unfold recvV; rw [if_pos HH.out, if_pos Xq34.out, HLV.out])
          refine HPOST.out _ _ ?_
          unfold RRecvP
          rw [HV.out]
          exact ⟨_, _, _, _, rfl, Or.inr ⟨rfl, rfl, rfl, rfl, rfl⟩, (((S63.out).erase 3).erase 2)⟩
        ·have t41 : decide (1 ≤ p.f6.f2) = false := decide_eq_false q40
         have Xq40 := Aside0.mk q40
         clear q40
         go_upto_region 5 with (first | ((with_reducible refine gate_ (.store 4 (.tmp 62) (.const (.bool false))) rfl ?_); (try simp only [hng]); refine st_store rfl rfl 4 _ _ rfl rfl rfl (seg := [(.bool false)]) rfl (by kernel_rfl) (by rfl) S33.out 2 rfl (Nat.le_of_ble_eq_true rfl) ?_; intro w38 h_; have S39 : Aside0 (St w0 w38 (Blk g4 #[(.int .i64 0), (.int .i64 0), (.int .i64 0), (.slice none 0 0), (.slice none 0 0), (.slice none 0 0)] 42 :: Blk g1 (pkA p vm vv vd A3 c3 A5 c5 A7 c7 vpd) 47 :: Blk BR (refA { s with sent := false } BL) 87 :: Blk BL (leadA { s with sent := false }) 3 :: L)) := Aside0.mk h_; clear h_))
         have c64 : w38.cell? ⟨g1, 33, none⟩ = some (.int .i64 p.f6.f2) := S39.out.cell 1 33 rfl rfl
         go_quiet (fail)
         have S66 := Aside0.mk (S39.out.drewN nq)
         generalize w38.drewN nq = w65 at S66 ⊢
         clear c64
         go_upto_region 7 with (fail)
         go_upto_region 8 with (first | (go_at_call 46; (try simp only [hng]); (with_reducible refine (refNext w0 _ (Blk g4 #[(.int .i64 0), (.int .i64 0), (.int .i64 0), (.slice none 0 0), (.slice none 0 0), (.slice none 0 0)] 42 :: Blk g1 (pkA p vm vv vd A3 c3 A5 c5 A7 c7 vpd) 47 :: L) BR BL q { s with sent := false } (((((S66.out).bring 1 rfl).bring 1 rfl).bring 3 rfl).bring 3 rfl) HKF.out).mono ?_); rintro e1 w68 ⟨rfl, h_⟩; have S67 := Aside0.mk h_; clear h_))
         go_wp2_with (first | ((with_reducible refine gate_ (.store 42 (.tmp 4) (.tmp 92)) rfl ?_); (try simp only [hng]); refine st_store rfl rfl 42 _ _ rfl rfl rfl (seg := [(.int .i64 0), (.int .i64 0), (.int .i64 0), (.slice none 0 0), (.slice none 0 0), (.slice none 0 0)]) rfl (by kernel_rfl) (by rfl) S67.out 2 rfl (Nat.le_of_ble_eq_true rfl) ?_; intro w69 h_; have S70 : Aside0 (St w0 w69 (Blk BR (refA (nextV { s with sent := false }) BL) 87 :: Blk BL (leadA (nextV { s with sent := false })) 3 :: Blk g4 #[(.int .i64 0), (.int .i64 0), (.int .i64 0), (.slice none 0 0), (.slice none 0 0), (.slice none 0 0)] 42 :: Blk g1 (pkA p vm vv vd A3 c3 A5 c5 A7 c7 vpd) 47 :: L)) := Aside0.mk h_; clear h_))
         refine bodyPost_ret (results_ct rfl _ _ g4 42 #[(.int .i64 0), (.int .i64 0), (.int .i64 0), (.slice none 0 0), (.slice none 0 0), (.slice none 0 0)] (0, 0) _ rfl (S70.out.blk 2 rfl) Try.underlying42 rfl (by kernel_rfl)) rfl ?_
         have HH := Aside0.mk (show hit s p from ⟨q7, Xq8.out, Xq11.out, Xq14.out, Xq17.out, Xq20.out⟩)
         have HLV := Aside0.mk (show leadV s p.f6.f2 = nextV { s with sent := false } by unfold leadV; rw [if_neg (fun h => (by have h1 := h.1; have h2 := h.2; have h3 := Xq40.out; omega))])
         have HV := Aside0.mk (show recvV s p = (nextV { s with sent := false }, z42, false) by unfold recvV; rw [if_pos HH.out, if_pos Xq34.out, HLV.out])
         refine HPOST.out _ _ ?_
         unfold RRecvP
         rw [HV.out]
         exact ⟨_, _, _, _, rfl, Or.inr ⟨rfl, rfl, rfl, rfl, rfl⟩, (((S70.out).erase 3).erase 2)⟩
       ·have t35 : (p.f6.f0 == 15) = false := beq_eq_false_iff_ne.2 q34
        have u36 : (p.f6.f0 != 15) = true := by rw [bne, t35]; rfl
        have Xq34 := Aside0.mk q34
        clear q34
        go_upto_region 3 with (fail)
        have c71 : w32.cell? ⟨g1, 31, none⟩ = some (.int .i64 p.f6.f0) := S33.out.cell 1 31 rfl rfl
        go_upto_region 9 with (fail)
        clear c71
        go_upto_region 10 with (first | ((with_reducible refine gate_ (.store 4 (.tmp 95) (.const (.bool false))) rfl ?_); (try simp only [hng]); refine st_store rfl rfl 4 _ _ rfl rfl rfl (seg := [(.bool false)]) rfl (by kernel_rfl) (by rfl) S33.out 2 rfl (Nat.le_of_ble_eq_true rfl) ?_; intro w72 h_; have S73 : Aside0 (St w0 w72 (Blk g4 #[(.int .i64 0), (.int .i64 0), (.int .i64 0), (.slice none 0 0), (.slice none 0 0), (.slice none 0 0)] 42 :: Blk g1 (pkA p vm vv vd A3 c3 A5 c5 A7 c7 vpd) 47 :: Blk BR (refA { s with busy := false } BL) 87 :: Blk BL (leadA { s with busy := false }) 3 :: L)) := Aside0.mk h_; clear h_))
        go_wp2_with (first | ((with_reducible refine gate_ (.load 42 (.tmp 96)) rfl ?_); refine st_load rfl 42 _ rfl rfl S73.out 1 rfl [(.int .i64 p.f6.f0), (.int .i64 p.f6.f1), (.int .i64 p.f6.f2), (.slice A3 p.f6.f3.length c3), (.slice none 0 0), (.slice A5 p.f6.f5.length c5)] rfl Try.underlying42 rfl (by kernel_rfl) ?_) | ((with_reducible refine gate_ (.store 42 (.tmp 4) (.tmp 97)) rfl ?_); (try simp only [hng]); refine st_store rfl rfl 42 _ _ rfl rfl rfl (seg := [(.int .i64 p.f6.f0), (.int .i64 p.f6.f1), (.int .i64 p.f6.f2), (.slice A3 p.f6.f3.length c3), (.slice none 0 0), (.slice A5 p.f6.f5.length c5)]) rfl (by kernel_rfl) (by rfl) S73.out 0 rfl (Nat.le_of_ble_eq_true rfl) ?_; intro w74 h_; have S75 : Aside0 (St w0 w74 (Blk g4 #[(.int .i64 p.f6.f0), (.int .i64 p.f6.f1), (.int .i64 p.f6.f2), (.slice A3 p.f6.f3.length c3), (.slice none 0 0), (.slice A5 p.f6.f5.length c5)] 42 :: Blk g1 (pkA p vm vv vd A3 c3 A5 c5 A7 c7 vpd) 47 :: Blk BR (refA { s with busy := false } BL) 87 :: Blk BL (leadA { s with busy := false }) 3 :: L)) := Aside0.mk h_; clear h_))
        refine bodyPost_ret (results_ct rfl _ _ g4 42 #[(.int .i64 p.f6.f0), (.int .i64 p.f6.f1), (.int .i64 p.f6.f2), (.slice A3 p.f6.f3.length c3), (.slice none 0 0), (.slice A5 p.f6.f5.length c5)] (0, 0) _ rfl (S75.out.blk 0 rfl) Try.underlying42 rfl (by kernel_rfl)) rfl ?_
        have HH := Aside0.mk (show hit s p from ⟨q7, Xq8.out, Xq11.out, Xq14.out, Xq17.out, Xq20.out⟩)
        have HV := Aside0.mk (show recvV s p = ({ s with busy := false }, p.f6, true) by unfold recvV; rw [if_pos HH.out, if_neg Xq34.out])
        refine HPOST.out _ _ ?_
        unfold RRecvP
        rw [HV.out]
        exact ⟨_, _, _, _, rfl, Or.inl ⟨rfl, rfl, rfl, rfl, rfl⟩, (((S75.out).erase 1).erase 0)⟩
      ·have t21 : (p.f5.f2 == s.num) = false := beq_eq_false_iff_ne.2 q20
       have u22 : (p.f5.f2 != s.num) = true := by rw [bne, t21]; rfl
       have Xq20 := Aside0.mk q20
       clear q20
       go_upto_region 1 with (first | ((with_reducible refine gate_dst (N := 3) rfl ?_); (try simp only [hng]); refine st_box ?hg (N := 3) ?hd (pkA p vm vv vd A3 c3 A5 c5 A7 c7 vpd) 47 ?hr H.out ?_; (case hd => rfl); (case hg => rfl); (case hr => first | (go_simp; done) | (go_simp; rfl)); intro g1 w2 hg_ h_ hb_; have S3 := Aside0.mk h_; have BS3 := Aside0.mk hb_; have GS3 := Aside0.mk hg_; clear h_ hb_ hg_) | ((with_reducible refine gate_dst (N := 4) rfl ?_); (try simp only [hng]); refine st_box ?hg (N := 4) ?hd #[(.int .i64 0), (.int .i64 0), (.int .i64 0), (.slice none 0 0), (.slice none 0 0), (.slice none 0 0)] 42 ?hr S3.out ?_; (case hd => rfl); (case hg => rfl); (case hr => first | (go_simp; done) | (go_simp; rfl)); intro g4 w5 hg_ h_ hb_; have S6 := Aside0.mk h_; have BS6 := Aside0.mk hb_; have GS6 := Aside0.mk hg_; clear h_ hb_ hg_))
       have c76 : w5.cell? ⟨BR, 24, none⟩ = some (.bool true) := (show w5.cell? ⟨BR, 24, none⟩ = some (.bool s.busy) from S6.out.cell 2 24 rfl rfl).trans (by rw [q7])
       have c77 : w5.cell? ⟨g1, 0, none⟩ = some (.int .i64 p.f0) := S6.out.cell 1 0 rfl rfl
       have c78 : w5.cell? ⟨g1, 2, none⟩ = some (.int .i64 p.f2) := S6.out.cell 1 2 rfl rfl
       have c79 : w5.cell? ⟨BR, 0, none⟩ = some (.int .i64 s.id) := S6.out.cell 2 0 rfl rfl
       have c80 : w5.cell? ⟨g1, 3, none⟩ = some (.int .i64 p.f3) := S6.out.cell 1 3 rfl rfl
       have c81 : w5.cell? ⟨BR, 4, none⟩ = some (.int .i64 s.group) := S6.out.cell 2 4 rfl rfl
       have c82 : w5.cell? ⟨g1, 13, none⟩ = some (.int .i64 p.f5.f1) := S6.out.cell 1 13 rfl rfl
       have c83 : w5.cell? ⟨g1, 14, none⟩ = some (.int .i64 p.f5.f2) := S6.out.cell 1 14 rfl rfl
       have c84 : w5.cell? ⟨BR, 3, none⟩ = some (.int .i64 s.num) := S6.out.cell 2 3 rfl rfl
       go_quiet (fail)
       have S86 := Aside0.mk (S6.out.drewN nq)
       generalize w5.drewN nq = w85 at S86 ⊢
       clear c76 c77 c78 c79 c80 c81 c82 c83 c84
       go_upto_region 2 with (fail)
       go_wp2_with (first | ((with_reducible refine gate_ (.store 42 (.tmp 4) (.tmp 55)) rfl ?_); (try simp only [hng]); refine st_store rfl rfl 42 _ _ rfl rfl rfl (seg := [(.int .i64 0), (.int .i64 0), (.int .i64 0), (.slice none 0 0), (.slice none 0 0), (.slice none 0 0)]) rfl (by kernel_rfl) (by rfl) S86.out 0 rfl (Nat.le_of_ble_eq_true rfl) ?_; intro w87 h_; have S88 : Aside0 (St w0 w87 (Blk g4 #[(.int .i64 0), (.int .i64 0), (.int .i64 0), (.slice none 0 0), (.slice none 0 0), (.slice none 0 0)] 42 :: Blk g1 (pkA p vm vv vd A3 c3 A5 c5 A7 c7 vpd) 47 :: Blk BR (refA s BL) 87 :: Blk BL (leadA s) 3 :: L)) := Aside0.mk h_; clear h_))
       refine bodyPost_ret (results_ct rfl _ _ g4 42 #[(.int .i64 0), (.int .i64 0), (.int .i64 0), (.slice none 0 0), (.slice none 0 0), (.slice none 0 0)] (0, 0) _ rfl (S88.out.blk 0 rfl) Try.underlying42 rfl (by kernel_rfl)) rfl ?_
       have HV := Aside0.mk (show recvV s p = (s, z42, false) by unfold recvV; rw [if_neg (show ¬ hit s p from fun h => Xq20.out h.2.2.2.2.2)])
       refine HPOST.out _ _ ?_
       unfold RRecvP
       rw [HV.out]
       exact ⟨_, _, _, _, rfl, Or.inr ⟨rfl, rfl, rfl, rfl, rfl⟩, (((S88.out).erase 1).erase 0)⟩
     ·have t18 : (p.f5.f1 == s.id) = false := beq_eq_false_iff_ne.2 q17
      have u19 : (p.f5.f1 != s.id) = true := by rw [bne, t18]; rfl
      have Xq17 := Aside0.mk q17
      clear q17
      go_upto_region 1 with (first | ((with_reducible refine gate_dst (N := 3) rfl ?_); (try simp only [hng]); refine st_box ?hg (N := 3) ?hd (pkA p vm vv vd A3 c3 A5 c5 A7 c7 vpd) 47 ?hr H.out ?_; (case hd => rfl); (case hg => rfl); (case hr => first | (go_simp; done) | (go_simp; rfl)); intro g1 w2 hg_ h_ hb_; have S3 := Aside0.mk h_; have BS3 := Aside0.mk hb_; have GS3 := Aside0.mk hg_; clear h_ hb_ hg_) | ((with_reducible refine gate_dst (N := 4) rfl ?_); (try simp only [hng]); refine st_box ?hg (N := 4) ?hd #[(.int .i64 0), (.int .i64 0), (.int .i64 0), (.slice none 0 0), (.slice none 0 0), (.slice none 0 0)] 42 ?hr S3.out ?_; (case hd => rfl); (case hg => rfl); (case hr => first | (go_simp; done) | (go_simp; rfl)); intro g4 w5 hg_ h_ hb_; have S6 := Aside0.mk h_; have BS6 := Aside0.mk hb_; have GS6 := Aside0.mk hg_; clear h_ hb_ hg_))
      have c89 : w5.cell? ⟨BR, 24, none⟩ = some (.bool true) := (show w5.cell? ⟨BR, 24, none⟩ = some (.bool s.busy) from S6.out.cell 2 24 rfl rfl).trans (by rw [q7])
      have c90 : w5.cell? ⟨g1, 0, none⟩ = some (.int .i64 p.f0) := S6.out.cell 1 0 rfl rfl
      have c91 : w5.cell? ⟨g1, 2, none⟩ = some (.int .i64 p.f2) := S6.out.cell 1 2 rfl rfl
      have c92 : w5.cell? ⟨BR, 0, none⟩ = some (.int .i64 s.id) := S6.out.cell 2 0 rfl rfl
      have c93 : w5.cell? ⟨g1, 3, none⟩ = some (.int .i64 p.f3) := S6.out.cell 1 3 rfl rfl
      have c94 : w5.cell? ⟨BR, 4, none⟩ = some (.int .i64 s.group) := S6.out.cell 2 4 rfl rfl
      have c95 : w5.cell? ⟨g1, 13, none⟩ = some (.int .i64 p.f5.f1) := S6.out.cell 1 13 rfl rfl
      go_quiet (fail)
      have S97 := Aside0.mk (S6.out.drewN nq)
      generalize w5.drewN nq = w96 at S97 ⊢
      clear c89 c90 c91 c92 c93 c94 c95
      go_upto_region 2 with (fail)
      go_wp2_with (first | ((with_reducible refine gate_ (.store 42 (.tmp 4) (.tmp 55)) rfl ?_); (try simp only [hng]); refine st_store rfl rfl 42 _ _ rfl rfl rfl (seg := [(.int .i64 0), (.int .i64 0), (.int .i64 0), (.slice none 0 0), (.slice none 0 0), (.slice none 0 0)]) rfl (by kernel_rfl) (by rfl) S97.out 0 rfl (Nat.le_of_ble_eq_true rfl) ?_; intro w98 h_; have S99 : Aside0 (St w0 w98 (Blk g4 #[(.int .i64 0), (.int .i64 0), (.int .i64 0), (.slice none 0 0), (.slice none 0 0), (.slice none 0 0)] 42 :: Blk g1 (pkA p vm vv vd A3 c3 A5 c5 A7 c7 vpd) 47 :: Blk BR (refA s BL) 87 :: Blk BL (leadA s) 3 :: L)) := Aside0.mk h_; clear h_))
      refine bodyPost_ret (results_ct rfl _ _ g4 42 #[(.int .i64 0), (.int .i64 0), (.int .i64 0), (.slice none 0 0), (.slice none 0 0), (.slice none 0 0)] (0, 0) _ rfl (S99.out.blk 0 rfl) Try.underlying42 rfl (by kernel_rfl)) rfl ?_
      have HV := Aside0.mk (show recvV s p = (s, z42, false) by unfold recvV; rw [if_neg (show ¬ hit s p from fun h => Xq17.out h.2.2.2.2.1)])
      refine HPOST.out _ _ ?_
      unfold RRecvP
      rw [HV.out]
      exact ⟨_, _, _, _, rfl, Or.inr ⟨rfl, rfl, rfl, rfl, rfl⟩, (((S99.out).erase 1).erase 0)⟩
    ·have t15 : (p.f3 == s.group) = false := beq_eq_false_iff_ne.2 q14
     have u16 : (p.f3 != s.group) = true := by rw [bne, t15]; rfl
     have Xq14 := Aside0.mk q14
     clear q14
     go_upto_region 1 with (first | ((with_reducible refine gate_dst (N := 3) rfl ?_); (try simp only [hng]); refine st_box ?hg (N := 3) ?hd (pkA p vm vv vd A3 c3 A5 c5 A7 c7 vpd) 47 ?hr H.out ?_; (case hd => rfl); (case hg => rfl); (case hr => first | (go_simp; done) | (go_simp; rfl)); intro g1 w2 hg_ h_ hb_; have S3 := Aside0.mk h_; have BS3 := Aside0.mk hb_; have GS3 := Aside0.mk hg_; clear h_ hb_ hg_) | ((with_reducible refine gate_dst (N := 4) rfl ?_); (try simp only [hng]); refine st_box ?hg (N := 4) ?hd #[(.int .i64 0), (.int .i64 0), (.int .i64 0), (.slice none 0 0), (.slice none 0 0), (.slice none 0 0)] 42 ?hr S3.out ?_; (case hd => rfl); (case hg => rfl); (case hr => first | (go_simp; done) | (go_simp; rfl)); intro g4 w5 hg_ h_ hb_; have S6 := Aside0.mk h_; have BS6 := Aside0.mk hb_; have GS6 := Aside0.mk hg_; clear h_ hb_ hg_))
     have c100 : w5.cell? ⟨BR, 24, none⟩ = some (.bool true) := (show w5.cell? ⟨BR, 24, none⟩ = some (.bool s.busy) from S6.out.cell 2 24 rfl rfl).trans (by rw [q7])
     have c101 : w5.cell? ⟨g1, 0, none⟩ = some (.int .i64 p.f0) := S6.out.cell 1 0 rfl rfl
     have c102 : w5.cell? ⟨g1, 2, none⟩ = some (.int .i64 p.f2) := S6.out.cell 1 2 rfl rfl
     have c103 : w5.cell? ⟨BR, 0, none⟩ = some (.int .i64 s.id) := S6.out.cell 2 0 rfl rfl
     have c104 : w5.cell? ⟨g1, 3, none⟩ = some (.int .i64 p.f3) := S6.out.cell 1 3 rfl rfl
     have c105 : w5.cell? ⟨BR, 4, none⟩ = some (.int .i64 s.group) := S6.out.cell 2 4 rfl rfl
     go_quiet (fail)
     have S107 := Aside0.mk (S6.out.drewN nq)
     generalize w5.drewN nq = w106 at S107 ⊢
     clear c100 c101 c102 c103 c104 c105
     go_upto_region 2 with (fail)
     go_wp2_with (first | ((with_reducible refine gate_ (.store 42 (.tmp 4) (.tmp 55)) rfl ?_); (try simp only [hng]); refine st_store rfl rfl 42 _ _ rfl rfl rfl (seg := [(.int .i64 0), (.int .i64 0), (.int .i64 0), (.slice none 0 0), (.slice none 0 0), (.slice none 0 0)]) rfl (by kernel_rfl) (by rfl) S107.out 0 rfl (Nat.le_of_ble_eq_true rfl) ?_; intro w108 h_; have S109 : Aside0 (St w0 w108 (Blk g4 #[(.int .i64 0), (.int .i64 0), (.int .i64 0), (.slice none 0 0), (.slice none 0 0), (.slice none 0 0)] 42 :: Blk g1 (pkA p vm vv vd A3 c3 A5 c5 A7 c7 vpd) 47 :: Blk BR (refA s BL) 87 :: Blk BL (leadA s) 3 :: L)) := Aside0.mk h_; clear h_))
     refine bodyPost_ret (results_ct rfl _ _ g4 42 #[(.int .i64 0), (.int .i64 0), (.int .i64 0), (.slice none 0 0), (.slice none 0 0), (.slice none 0 0)] (0, 0) _ rfl (S109.out.blk 0 rfl) Try.underlying42 rfl (by kernel_rfl)) rfl ?_
     have HV := Aside0.mk (show recvV s p = (s, z42, false) by unfold recvV; rw [if_neg (show ¬ hit s p from fun h => Xq14.out h.2.2.2.1)])
     refine HPOST.out _ _ ?_
     unfold RRecvP
     rw [HV.out]
     exact ⟨_, _, _, _, rfl, Or.inr ⟨rfl, rfl, rfl, rfl, rfl⟩, (((S109.out).erase 1).erase 0)⟩
   ·have t12 : (p.f2 == (-s.id)) = false := beq_eq_false_iff_ne.2 q11
    have u13 : (p.f2 != (-s.id)) = true := by rw [bne, t12]; rfl
    have Xq11 := Aside0.mk q11
    clear q11
    go_upto_region 1 with (first | ((with_reducible refine gate_dst (N := 3) rfl ?_); (try simp only [hng]); refine st_box ?hg (N := 3) ?hd (pkA p vm vv vd A3 c3 A5 c5 A7 c7 vpd) 47 ?hr H.out ?_; (case hd => rfl); (case hg => rfl); (case hr => first | (go_simp; done) | (go_simp; rfl)); intro g1 w2 hg_ h_ hb_; have S3 := Aside0.mk h_; have BS3 := Aside0.mk hb_; have GS3 := Aside0.mk hg_; clear h_ hb_ hg_) | ((with_reducible refine gate_dst (N := 4) rfl ?_); (try simp only [hng]); refine st_box ?hg (N := 4) ?hd #[(.int .i64 0), (.int .i64 0), (.int .i64 0), (.slice none 0 0), (.slice none 0 0), (.slice none 0 0)] 42 ?hr S3.out ?_; (case hd => rfl); (case hg => rfl); (case hr => first | (go_simp; done) | (go_simp; rfl)); intro g4 w5 hg_ h_ hb_; have S6 := Aside0.mk h_; have BS6 := Aside0.mk hb_; have GS6 := Aside0.mk hg_; clear h_ hb_ hg_))
    have c110 : w5.cell? ⟨BR, 24, none⟩ = some (.bool true) := (show w5.cell? ⟨BR, 24, none⟩ = some (.bool s.busy) from S6.out.cell 2 24 rfl rfl).trans (by rw [q7])
    have c111 : w5.cell? ⟨g1, 0, none⟩ = some (.int .i64 p.f0) := S6.out.cell 1 0 rfl rfl
    have c112 : w5.cell? ⟨g1, 2, none⟩ = some (.int .i64 p.f2) := S6.out.cell 1 2 rfl rfl
    have c113 : w5.cell? ⟨BR, 0, none⟩ = some (.int .i64 s.id) := S6.out.cell 2 0 rfl rfl
    go_quiet (fail)
    have S115 := Aside0.mk (S6.out.drewN nq)
    generalize w5.drewN nq = w114 at S115 ⊢
    clear c110 c111 c112 c113
    go_upto_region 2 with (fail)
    go_wp2_with (first | ((with_reducible refine gate_ (.store 42 (.tmp 4) (.tmp 55)) rfl ?_); (try simp only [hng]); refine st_store rfl rfl 42 _ _ rfl rfl rfl (seg := [(.int .i64 0), (.int .i64 0), (.int .i64 0), (.slice none 0 0), (.slice none 0 0), (.slice none 0 0)]) rfl (by kernel_rfl) (by rfl) S115.out 0 rfl (Nat.le_of_ble_eq_true rfl) ?_; intro w116 h_; have S117 : Aside0 (St w0 w116 (Blk g4 #[(.int .i64 0), (.int .i64 0), (.int .i64 0), (.slice none 0 0), (.slice none 0 0), (.slice none 0 0)] 42 :: Blk g1 (pkA p vm vv vd A3 c3 A5 c5 A7 c7 vpd) 47 :: Blk BR (refA s BL) 87 :: Blk BL (leadA s) 3 :: L)) := Aside0.mk h_; clear h_))
    refine bodyPost_ret (results_ct rfl _ _ g4 42 #[(.int .i64 0), (.int .i64 0), (.int .i64 0), (.slice none 0 0), (.slice none 0 0), (.slice none 0 0)] (0, 0) _ rfl (S117.out.blk 0 rfl) Try.underlying42 rfl (by kernel_rfl)) rfl ?_
    have HV := Aside0.mk (show recvV s p = (s, z42, false) by unfold recvV; rw [if_neg (show ¬ hit s p from fun h => Xq11.out h.2.2.1)])
    refine HPOST.out _ _ ?_
    unfold RRecvP
    rw [HV.out]
    exact ⟨_, _, _, _, rfl, Or.inr ⟨rfl, rfl, rfl, rfl, rfl⟩, (((S117.out).erase 1).erase 0)⟩
  ·have t9 : (p.f0 == 3) = false := beq_eq_false_iff_ne.2 q8
   have u10 : (p.f0 != 3) = true := by rw [bne, t9]; rfl
   have Xq8 := Aside0.mk q8
   clear q8
   go_upto_region 1 with (first | ((with_reducible refine gate_dst (N := 3) rfl ?_); (try simp only [hng]); refine st_box ?hg (N := 3) ?hd (pkA p vm vv vd A3 c3 A5 c5 A7 c7 vpd) 47 ?hr H.out ?_; (case hd => rfl); (case hg => rfl); (case hr => first | (go_simp; done) | (go_simp; rfl)); intro g1 w2 hg_ h_ hb_; have S3 := Aside0.mk h_; have BS3 := Aside0.mk hb_; have GS3 := Aside0.mk hg_; clear h_ hb_ hg_) | ((with_reducible refine gate_dst (N := 4) rfl ?_); (try simp only [hng]); refine st_box ?hg (N := 4) ?hd #[(.int .i64 0), (.int .i64 0), (.int .i64 0), (.slice none 0 0), (.slice none 0 0), (.slice none 0 0)] 42 ?hr S3.out ?_; (case hd => rfl); (case hg => rfl); (case hr => first | (go_simp; done) | (go_simp; rfl)); intro g4 w5 hg_ h_ hb_; have S6 := Aside0.mk h_; have BS6 := Aside0.mk hb_; have GS6 := Aside0.mk hg_; clear h_ hb_ hg_))
   have c118 : w5.cell? ⟨BR, 24, none⟩ = some (.bool true) := (show w5.cell? ⟨BR, 24, none⟩ = some (.bool s.busy) from S6.out.cell 2 24 rfl rfl).trans (by rw [q7])
   have c119 : w5.cell? ⟨g1, 0, none⟩ = some (.int .i64 p.f0) := S6.out.cell 1 0 rfl rfl
   go_quiet (fail)
   have S121 := Aside0.mk (S6.out.drewN nq)
   generalize w5.drewN nq = w120 at S121 ⊢
   clear c118 c119
   go_upto_region 2 with (fail)
   go_wp2_with (first | ((with_reducible refine gate_ (.store 42 (.tmp 4) (.tmp 55)) rfl ?_); (try simp only [hng]); refine st_store rfl rfl 42 _ _ rfl rfl rfl (seg := [(.int .i64 0), (.int .i64 0), (.int .i64 0), (.slice none 0 0), (.slice none 0 0), (.slice none 0 0)]) rfl (by kernel_rfl) (by rfl) S121.out 0 rfl (Nat.le_of_ble_eq_true rfl) ?_; intro w122 h_; have S123 : Aside0 (St w0 w122 (Blk g4 #[(.int .i64 0), (.int .i64 0), (.int .i64 0), (.slice none 0 0), (.slice none 0 0), (.slice none 0 0)] 42 :: Blk g1 (pkA p vm vv vd A3 c3 A5 c5 A7 c7 vpd) 47 :: Blk BR (refA s BL) 87 :: Blk BL (leadA s) 3 :: L)) := Aside0.mk h_; clear h_))
   refine bodyPost_ret (results_ct rfl _ _ g4 42 #[(.int .i64 0), (.int .i64 0), (.int .i64 0), (.slice none 0 0), (.slice none 0 0), (.slice none 0 0)] (0, 0) _ rfl (S123.out.blk 0 rfl) Try.underlying42 rfl (by kernel_rfl)) rfl ?_
   have HV := Aside0.mk (show recvV s p = (s, z42, false) by unfold recvV; rw [if_neg (show ¬ hit s p from fun h => Xq8.out h.2.1)])
   refine HPOST.out _ _ ?_
   unfold RRecvP
   rw [HV.out]
   exact ⟨_, _, _, _, rfl, Or.inr ⟨rfl, rfl, rfl, rfl, rfl⟩, (((S123.out).erase 1).erase 0)⟩
 ·have Xq7 := Aside0.mk q7
  go_upto_region 1 with (first | ((with_reducible refine gate_dst (N := 3) rfl ?_); (try simp only [hng]); refine st_box ?hg (N := 3) ?hd (pkA p vm vv vd A3 c3 A5 c5 A7 c7 vpd) 47 ?hr H.out ?_; (case hd => rfl); (case hg => rfl); (case hr => first | (go_simp; done) | (go_simp; rfl)); intro g1 w2 hg_ h_ hb_; have S3 := Aside0.mk h_; have BS3 := Aside0.mk hb_; have GS3 := Aside0.mk hg_; clear h_ hb_ hg_) | ((with_reducible refine gate_dst (N := 4) rfl ?_); (try simp only [hng]); refine st_box ?hg (N := 4) ?hd #[(.int .i64 0), (.int .i64 0), (.int .i64 0), (.slice none 0 0), (.slice none 0 0), (.slice none 0 0)] 42 ?hr S3.out ?_; (case hd => rfl); (case hg => rfl); (case hr => first | (go_simp; done) | (go_simp; rfl)); intro g4 w5 hg_ h_ hb_; have S6 := Aside0.mk h_; have BS6 := Aside0.mk hb_; have GS6 := Aside0.mk hg_; clear h_ hb_ hg_))
  have c124 : w5.cell? ⟨BR, 24, none⟩ = some (.bool false) := (show w5.cell? ⟨BR, 24, none⟩ = some (.bool s.busy) from S6.out.cell 2 24 rfl rfl).trans (by rw [q7])
  go_quiet (fail)
  have S126 := Aside0.mk (S6.out.drewN nq)
  generalize w5.drewN nq = w125 at S126 ⊢
  clear c124
  go_upto_region 2 with (fail)
  go_wp2_with (first | ((with_reducible refine gate_ (.store 42 (.tmp 4) (.tmp 55)) rfl ?_); (try simp only [hng]); refine st_store rfl rfl 42 _ _ rfl rfl rfl (seg := [(.int .i64 0), (.int .i64 0), (.int .i64 0), (.slice none 0 0), (.slice none 0 0), (.slice none 0 0)]) rfl (by kernel_rfl) (by rfl) S126.out 0 rfl (Nat.le_of_ble_eq_true rfl) ?_; intro w127 h_; have S128 : Aside0 (St w0 w127 (Blk g4 #[(.int .i64 0), (.int .i64 0), (.int .i64 0), (.slice none 0 0), (.slice none 0 0), (.slice none 0 0)] 42 :: Blk g1 (pkA p vm vv vd A3 c3 A5 c5 A7 c7 vpd) 47 :: Blk BR (refA s BL) 87 :: Blk BL (leadA s) 3 :: L)) := Aside0.mk h_; clear h_))
  refine bodyPost_ret (results_ct rfl _ _ g4 42 #[(.int .i64 0), (.int .i64 0), (.int .i64 0), (.slice none 0 0), (.slice none 0 0), (.slice none 0 0)] (0, 0) _ rfl (S128.out.blk 0 rfl) Try.underlying42 rfl (by kernel_rfl)) rfl ?_
  have HV := Aside0.mk (show recvV s p = (s, z42, false) by unfold recvV; rw [if_neg (show ¬ hit s p from fun h => (by have h9 := h.1; rw [q7] at h9; cases h9))])
  refine HPOST.out _ _ ?_
  unfold RRecvP
  rw [HV.out]
  exact ⟨_, _, _, _, rfl, Or.inr ⟨rfl, rfl, rfl, rfl, rfl⟩, (((S128.out).erase 1).erase 0)⟩
set_option maxHeartbeats 4000000 in
set_option maxRecDepth 100000 in
theorem refOwn (w0 w : World) (L : List Thing) (BR BL q : Nat) (s : As) (h : St w0 w (refT BR BL s ++ L)) (hk : s.ok q) (p : S47) (A3 A5 A7 A8 : Option Addr) (c3 c5 c7 n8 c8 : Nat) :
  Calls Try.prog 20 #[.agg (pkA p (.slice none 0 0) (.slice none 0 0) (.slice none 0 0) A3 c3 A5 c5 A7 c7 (.slice A8 n8 c8)), .pointer (some ⟨BR, 0, none⟩)] w fun e' w' => e' = .returned (.agg (pkA (ownV s p) (.slice none 0 0) (.slice none 0 0) (.slice none 0 0) A3 c3 A5 c5 A7 c7 (.slice A8 n8 c8))) ∧ St w0 w' (refT BR BL s ++ L) := by
 have H := Aside0.mk h
 have HK := Aside0.mk hk
 have hng := neg_w hk.id1
 clear h hk
 refine calls_hide fun R HPOST => ?_
 go_enter Try.func20, Try.ntmps20
 go_upto_region 0 with (fail)
 go_upto_region 1 with (first | ((with_reducible refine gate_dst (N := 2) rfl ?_); (try simp only [hng]); refine st_box ?hg (N := 2) ?hd (pkA p (.slice none 0 0) (.slice none 0 0) (.slice none 0 0) A3 c3 A5 c5 A7 c7 (.slice A8 n8 c8)) 47 ?hr H.out ?_; (case hd => rfl); (case hg => rfl); (case hr => first | (go_simp; done) | (go_simp; rfl)); intro g1 w2 hg_ h_ hb_; have S3 := Aside0.mk h_; have BS3 := Aside0.mk hb_; have GS3 := Aside0.mk hg_; clear h_ hb_ hg_) | ((with_reducible refine gate_dst (N := 4) rfl ?_); (try simp only [hng]); refine st_box ?hg (N := 4) ?hd (pkA z47 (.slice none 0 0) (.slice none 0 0) (.slice none 0 0) none 0 none 0 none 0 (.slice none 0 0)) 47 ?hr S3.out ?_; (case hd => rfl); (case hg => rfl); (case hr => first | (go_simp; done) | (go_simp; rfl)); intro g4 w5 hg_ h_ hb_; have S6 := Aside0.mk h_; have BS6 := Aside0.mk hb_; have GS6 := Aside0.mk hg_; clear h_ hb_ hg_))
 have c7 : w5.cell? ⟨BR, 0, none⟩ = some (.int .i64 s.id) := S6.out.cell 2 0 rfl rfl
 rcases Decidable.em (p.f0 = 3) with q10 | q10
 ·have t11 : (p.f0 == 3) = true := beq_iff_eq.2 q10
  have u12 : (p.f0 != 3) = false := by rw [bne, t11]; rfl
  have Xq10 := Aside0.mk q10
  clear q10
  go_upto_region 2 with (first | ((with_reducible refine gate_ (.store 3 (.tmp 10) (.tmp 9)) rfl ?_); (try simp only [hng]); refine st_store rfl rfl 3 _ _ rfl rfl rfl (seg := [(.int .i64 (-s.id))]) rfl (by kernel_rfl) (by rfl) S6.out 1 rfl (Nat.le_of_ble_eq_true rfl) ?_; intro w8 h_; clear c7; have S9 : Aside0 (St w0 w8 (Blk g4 (pkA z47 (.slice none 0 0) (.slice none 0 0) (.slice none 0 0) none 0 none 0 none 0 (.slice none 0 0)) 47 :: Blk g1 (pkA { p with f2 := (-s.id) } (.slice none 0 0) (.slice none 0 0) (.slice none 0 0) A3 c3 A5 c5 A7 c7 (.slice A8 n8 c8)) 47 :: Blk BR (refA s BL) 87 :: Blk BL (leadA s) 3 :: L)) := Aside0.mk h_; clear h_))
  have c13 : w8.cell? ⟨g1, 0, none⟩ = some (.int .i64 p.f0) := S9.out.cell 1 0 rfl rfl
  go_upto_region 3 with (fail)
  clear c13
  have S15 := Aside0.mk S9.out.drew
  refine start_ (n := 20) (S := fun w' => St w0 w' (Blk g4 (pkA z47 (.slice none 0 0) (.slice none 0 0) (.slice none 0 0) none 0 none 0 none 0 (.slice none 0 0)) 47 :: Blk BR (refA s BL) 87 :: Blk BL (leadA s) 3 :: L)) (ds := [19]) (bits 20 0) (by kernel_rfl) rfl rfl (((S9.out).erase 1)).drew (fun hHeld => ?_)
  generalize w8.drew = w14 at S15 hHeld ⊢
  refine pu 0 14 (bits 20 1) ?_ rfl rfl (by kernel_rfl) (fun _ _ _ h => h) (by rfl) ?_ ?_ ?_ ?_
  rotate_left
  ·intro w'; go_simp; with_reducible rfl
  rotate_left
  ·simp only [Act.put, sqA, sqB, sqC, i64_w, i32_w]; rfl
  refine pu 1 15 (bits 20 3) ?_ rfl rfl (by kernel_rfl) (fun _ _ _ h => h) (by rfl) ?_ ?_ ?_ ?_
  rotate_left
  ·intro w'; go_simp; with_reducible rfl
  rotate_left
  ·simp only [Act.put, sqA, sqB, sqC, i64_w, i32_w]; rfl
  refine pu 2 16 (bits 20 7) ?_ rfl rfl (by kernel_rfl) (fun _ _ _ h => h) (by rfl) ?_ ?_ ?_ ?_
  rotate_left
  ·intro w'; go_simp; with_reducible rfl
  rotate_left
  ·simp only [Act.put, sqA, sqB, sqC, i64_w, i32_w]; rfl
  refine pu 4 18 (bits 20 23) ?_ rfl rfl (by kernel_rfl) (fun _ _ _ h => h) (by rfl) ?_ ?_ ?_ ?_
  rotate_left
  ·intro w'; go_simp; with_reducible rfl
  rotate_left
  ·simp only [Act.put, sqA, sqB, sqC, i64_w, i32_w]; rfl
  refine pu 5 19 (bits 20 55) ?_ rfl rfl (by kernel_rfl) (fun _ _ _ h => h) (by rfl) ?_ ?_ ?_ ?_
  rotate_left
  ·intro w'; go_simp; with_reducible rfl
  rotate_left
  ·simp only [Act.put, sqA, sqB, sqC, i64_w, i32_w]; rfl
  refine pu 6 20 (bits 20 119) ?_ rfl rfl (by kernel_rfl) (fun _ _ _ h => h) (by rfl) ?_ ?_ ?_ ?_
  rotate_left
  ·intro w'; go_simp; with_reducible rfl
  rotate_left
  ·simp only [Act.put, sqA, sqB, sqC, i64_w, i32_w]; rfl
  refine pu 8 22 (bits 20 375) ?_ rfl rfl (by kernel_rfl) (fun _ _ _ h => h) (by rfl) ?_ ?_ ?_ ?_
  rotate_left
  ·intro w'; go_simp; with_reducible rfl
  rotate_left
  ·simp only [Act.put, sqA, sqB, sqC, i64_w, i32_w]; rfl
  refine pu 9 23 (bits 20 887) ?_ rfl rfl (by kernel_rfl) (fun _ _ _ h => h) (by rfl) ?_ ?_ ?_ ?_
  rotate_left
  ·intro w'; go_simp; with_reducible rfl
  rotate_left
  ·simp only [Act.put, sqA, sqB, sqC, i64_w, i32_w]; rfl
  refine pu 10 24 (bits 20 1911) ?_ rfl rfl (by kernel_rfl) (fun _ _ _ h => h) (by rfl) ?_ ?_ ?_ ?_
  rotate_left
  ·intro w'; go_simp; with_reducible rfl
  rotate_left
  ·simp only [Act.put, sqA, sqB, sqC, i64_w, i32_w]; rfl
  refine tk 3 17 (bits 20 1919) ?_ rfl rfl (by kernel_rfl) (fun _ _ _ h => h) (by rfl) ?_ hHeld ?_ ?_ ?_
  rotate_left
  ·intro w' hw'; have s0 : w'.cell? ⟨BR, 4, none⟩ = some (.int .i64 s.group) := hw'.cell 1 4 rfl rfl; go_simp; with_reducible rfl
  rotate_left
  ·simp only [Act.put, sqA, sqB, sqC, i64_w, i32_w]; rfl
  refine pu 12 26 (bits 20 6015) ?_ rfl rfl (by kernel_rfl) (fun _ _ _ h => h) (by rfl) ?_ ?_ ?_ ?_
  rotate_left
  ·intro w'; go_simp; with_reducible rfl
  rotate_left
  ·simp only [Act.put, sqA, sqB, sqC, i64_w, i32_w]; rfl
  refine tk 7 21 (bits 20 6143) ?_ rfl rfl (by kernel_rfl) (fun _ _ _ h => h) (by rfl) ?_ hHeld ?_ ?_ ?_
  rotate_left
  ·intro w' hw'; have s0 : w'.cell? ⟨BR, 0, none⟩ = some (.int .i64 s.id) := hw'.cell 1 0 rfl rfl; go_simp; with_reducible rfl
  rotate_left
  ·simp only [Act.put, sqA, sqB, sqC, i64_w, i32_w]; rfl
  refine tk 11 25 (bits 20 8191) ?_ rfl rfl (by kernel_rfl) (fun _ _ _ h => h) (by rfl) ?_ hHeld ?_ ?_ ?_
  rotate_left
  ·intro w' hw'; have s0 : w'.cell? ⟨BR, 3, none⟩ = some (.int .i64 s.num) := hw'.cell 1 3 rfl rfl; go_simp; with_reducible rfl
  rotate_left
  ·simp only [Act.put, sqA, sqB, sqC, i64_w, i32_w]; rfl
  refine one_ (i := 13) (N := none) (bits 20 16383) rfl rfl (by kernel_rfl) (by decide) (fun K hK => ?_)
  refine st_store_step (by rfl) rfl 3 _ _ rfl rfl rfl (seg := [(.int .i64 s.group)]) rfl (by kernel_rfl) (by rfl) S15.out 1 rfl (Nat.le_of_ble_eq_true rfl) ?_
  intro w16 h_ hu_
  have S17 : Aside0 (St w0 w16 (Blk g4 (pkA z47 (.slice none 0 0) (.slice none 0 0) (.slice none 0 0) none 0 none 0 none 0 (.slice none 0 0)) 47 :: Blk g1 (pkA { p with f2 := (-s.id), f3 := s.group } (.slice none 0 0) (.slice none 0 0) (.slice none 0 0) A3 c3 A5 c5 A7 c7 (.slice A8 n8 c8)) 47 :: Blk BR (refA s BL) 87 :: Blk BL (leadA s) 3 :: L)) := Aside0.mk h_
  clear h_ hu_
  refine hK.out _ _ (((S17.out).erase 1)) ?_
  clear hHeld
  intro hHeld
  clear hK K
  refine pu 14 27 (bits 20 32767) ?_ rfl rfl (by kernel_rfl) (fun _ _ _ h => h) (by rfl) ?_ ?_ ?_ ?_
  rotate_left
  ·intro w'; go_simp; with_reducible rfl
  rotate_left
  ·simp only [Act.put, sqA, sqB, sqC, i64_w, i32_w]; rfl
  refine pu 15 28 (bits 20 65535) ?_ rfl rfl (by kernel_rfl) (fun _ _ _ h => h) (by rfl) ?_ ?_ ?_ ?_
  rotate_left
  ·intro w'; go_simp; with_reducible rfl
  rotate_left
  ·simp only [Act.put, sqA, sqB, sqC, i64_w, i32_w]; rfl
  refine one_ (i := 16) (N := none) (bits 20 131071) rfl rfl (by kernel_rfl) (by decide) (fun K hK => ?_)
  refine st_store_step (by rfl) rfl 3 _ _ rfl rfl rfl (seg := [(.int .i64 s.id)]) rfl (by kernel_rfl) (by rfl) S17.out 1 rfl (Nat.le_of_ble_eq_true rfl) ?_
  intro w18 h_ hu_
  have S19 : Aside0 (St w0 w18 (Blk g4 (pkA z47 (.slice none 0 0) (.slice none 0 0) (.slice none 0 0) none 0 none 0 none 0 (.slice none 0 0)) 47 :: Blk g1 (pkA { p with f2 := (-s.id), f3 := s.group, f5 := { p.f5 with f1 := s.id } } (.slice none 0 0) (.slice none 0 0) (.slice none 0 0) A3 c3 A5 c5 A7 c7 (.slice A8 n8 c8)) 47 :: Blk BR (refA s BL) 87 :: Blk BL (leadA s) 3 :: L)) := Aside0.mk h_
  clear h_ hu_
  refine hK.out _ _ (((S19.out).erase 1)) ?_
  clear hHeld
  intro hHeld
  clear hK K
  refine pu 17 29 (bits 20 262143) ?_ rfl rfl (by kernel_rfl) (fun _ _ _ h => h) (by rfl) ?_ ?_ ?_ ?_
  rotate_left
  ·intro w'; go_simp; with_reducible rfl
  rotate_left
  ·simp only [Act.put, sqA, sqB, sqC, i64_w, i32_w]; rfl
  refine pu 18 30 (bits 20 524287) ?_ rfl rfl (by kernel_rfl) (fun _ _ _ h => h) (by rfl) ?_ ?_ ?_ ?_
  rotate_left
  ·intro w'; go_simp; with_reducible rfl
  rotate_left
  ·simp only [Act.put, sqA, sqB, sqC, i64_w, i32_w]; rfl
  refine last_ (i := 19) (N := none) (bits 20 1048575) rfl rfl (by kernel_rfl) (by decide) (fun K hK => ?_)
  refine st_store_step (by rfl) rfl 3 _ _ rfl rfl rfl (seg := [(.int .i64 s.num)]) rfl (by kernel_rfl) (by rfl) S19.out 1 rfl (Nat.le_of_ble_eq_true rfl) ?_
  intro w20 h_ hu_
  have S21 : Aside0 (St w0 w20 (Blk g4 (pkA z47 (.slice none 0 0) (.slice none 0 0) (.slice none 0 0) none 0 none 0 none 0 (.slice none 0 0)) 47 :: Blk g1 (pkA { p with f2 := (-s.id), f3 := s.group, f5 := { p.f5 with f1 := s.id, f2 := s.num } } (.slice none 0 0) (.slice none 0 0) (.slice none 0 0) A3 c3 A5 c5 A7 c7 (.slice A8 n8 c8)) 47 :: Blk BR (refA s BL) 87 :: Blk BL (leadA s) 3 :: L)) := Aside0.mk h_
  clear h_ hu_
  refine hK.out _ _ ?_
  clear hK K
  refine done_ (by kernel_rfl) ?_
  clear hHeld
  go_upto_region 4 with (fail)
  go_wp2_with (first | ((with_reducible refine gate_ (.load 47 (.tmp 2)) rfl ?_); refine st_load rfl 47 _ rfl rfl S21.out 1 rfl [(.int .i64 p.f0), (.int .i64 p.f1), (.int .i64 (-s.id)), (.int .i64 s.group), (.int .i64 p.f4.f0), (.int .i64 p.f4.f1), (.int .i64 p.f4.f2), (.int .i64 p.f4.f3), (.int .i64 p.f4.f4), (.int .i64 p.f4.f5), (.slice none 0 0), (.slice none 0 0), (.int .i64 p.f5.f0), (.int .i64 s.id), (.int .i64 s.num), (.int .i64 p.f5.f3), (.int .i64 p.f5.f4), (.string p.f5.f5), (.string p.f5.f6), (.string p.f5.f7), (.string p.f5.f8), (.int .i64 p.f5.f9), (.int .i64 p.f5.f10), (.int .i64 p.f5.f11.f0), (.string p.f5.f11.f1), (.int .i64 p.f5.f11.f2), (.int .i64 p.f5.f11.f3), (.int .i64 p.f5.f12.f0), (.int .i64 p.f5.f12.f1), (.int .i64 p.f5.f13), (.slice none 0 0), (.int .i64 p.f6.f0), (.int .i64 p.f6.f1), (.int .i64 p.f6.f2), (.slice A3 p.f6.f3.length c3), (.slice none 0 0), (.slice A5 p.f6.f5.length c5), (.int .i64 p.f7.f0), (.slice A7 p.f7.f1.length c7), (.slice A8 n8 c8)] rfl Try.underlying47 rfl (by kernel_rfl) ?_) | ((with_reducible refine gate_ (.store 47 (.tmp 4) (.tmp 31)) rfl ?_); (try simp only [hng]); refine st_store rfl rfl 47 _ _ rfl rfl rfl (seg := [(.int .i64 p.f0), (.int .i64 p.f1), (.int .i64 (-s.id)), (.int .i64 s.group), (.int .i64 p.f4.f0), (.int .i64 p.f4.f1), (.int .i64 p.f4.f2), (.int .i64 p.f4.f3), (.int .i64 p.f4.f4), (.int .i64 p.f4.f5), (.slice none 0 0), (.slice none 0 0), (.int .i64 p.f5.f0), (.int .i64 s.id), (.int .i64 s.num), (.int .i64 p.f5.f3), (.int .i64 p.f5.f4), (.string p.f5.f5), (.string p.f5.f6), (.string p.f5.f7), (.string p.f5.f8), (.int .i64 p.f5.f9), (.int .i64 p.f5.f10), (.int .i64 p.f5.f11.f0), (.string p.f5.f11.f1), (.int .i64 p.f5.f11.f2), (.int .i64 p.f5.f11.f3), (.int .i64 p.f5.f12.f0), (.int .i64 p.f5.f12.f1), (.int .i64 p.f5.f13), (.slice none 0 0), (.int .i64 p.f6.f0), (.int .i64 p.f6.f1), (.int .i64 p.f6.f2), (.slice A3 p.f6.f3.length c3), (.slice none 0 0), (.slice A5 p.f6.f5.length c5), (.int .i64 p.f7.f0), (.slice A7 p.f7.f1.length c7), (.slice A8 n8 c8)]) rfl (by kernel_rfl) (by rfl) S21.out 0 rfl (Nat.le_of_ble_eq_true rfl) ?_; intro w22 h_; have S23 : Aside0 (St w0 w22 (Blk g4 (pkA { p with f2 := (-s.id), f3 := s.group, f5 := { p.f5 with f1 := s.id, f2 := s.num } } (.slice none 0 0) (.slice none 0 0) (.slice none 0 0) A3 c3 A5 c5 A7 c7 (.slice A8 n8 c8)) 47 :: Blk g1 (pkA { p with f2 := (-s.id), f3 := s.group, f5 := { p.f5 with f1 := s.id, f2 := s.num } } (.slice none 0 0) (.slice none 0 0) (.slice none 0 0) A3 c3 A5 c5 A7 c7 (.slice A8 n8 c8)) 47 :: Blk BR (refA s BL) 87 :: Blk BL (leadA s) 3 :: L)) := Aside0.mk h_; clear h_))
  have HV := Aside0.mk (show ownV s p = { p with f2 := -s.id, f3 := s.group, f5 := { p.f5 with f1 := s.id, f2 := s.num } } by unfold ownV; rw [if_pos Xq10.out])
  refine bodyPost_ret (results_cell_row rfl _ _ g4 47 (pkA { p with f2 := (-s.id), f3 := s.group, f5 := { p.f5 with f1 := s.id, f2 := s.num } } (.slice none 0 0) (.slice none 0 0) (.slice none 0 0) A3 c3 A5 c5 A7 c7 (.slice A8 n8 c8)) (0, 0) _ rfl (S23.out.blk 0 rfl) Try.underlying47 rfl (by kernel_rfl)) rfl ?_
  refine HPOST.out _ _ ?_
  rw [HV.out]
  exact ⟨rfl, (((S23.out).erase 1).erase 0)⟩
 ·have t11 : (p.f0 == 3) = false := beq_eq_false_iff_ne.2 q10
  have u12 : (p.f0 != 3) = true := by rw [bne, t11]; rfl
  have Xq10 := Aside0.mk q10
  clear q10
  go_upto_region 2 with (first | ((with_reducible refine gate_ (.store 3 (.tmp 10) (.tmp 9)) rfl ?_); (try simp only [hng]); refine st_store rfl rfl 3 _ _ rfl rfl rfl (seg := [(.int .i64 (-s.id))]) rfl (by kernel_rfl) (by rfl) S6.out 1 rfl (Nat.le_of_ble_eq_true rfl) ?_; intro w8 h_; clear c7; have S9 : Aside0 (St w0 w8 (Blk g4 (pkA z47 (.slice none 0 0) (.slice none 0 0) (.slice none 0 0) none 0 none 0 none 0 (.slice none 0 0)) 47 :: Blk g1 (pkA { p with f2 := (-s.id) } (.slice none 0 0) (.slice none 0 0) (.slice none 0 0) A3 c3 A5 c5 A7 c7 (.slice A8 n8 c8)) 47 :: Blk BR (refA s BL) 87 :: Blk BL (leadA s) 3 :: L)) := Aside0.mk h_; clear h_))
  have c24 : w8.cell? ⟨g1, 0, none⟩ = some (.int .i64 p.f0) := S9.out.cell 1 0 rfl rfl
  go_upto_region 4 with (fail)
  clear c24
  go_wp2_with (first | ((with_reducible refine gate_ (.load 47 (.tmp 2)) rfl ?_); refine st_load rfl 47 _ rfl rfl S9.out 1 rfl [(.int .i64 p.f0), (.int .i64 p.f1), (.int .i64 (-s.id)), (.int .i64 p.f3), (.int .i64 p.f4.f0), (.int .i64 p.f4.f1), (.int .i64 p.f4.f2), (.int .i64 p.f4.f3), (.int .i64 p.f4.f4), (.int .i64 p.f4.f5), (.slice none 0 0), (.slice none 0 0), (.int .i64 p.f5.f0), (.int .i64 p.f5.f1), (.int .i64 p.f5.f2), (.int .i64 p.f5.f3), (.int .i64 p.f5.f4), (.string p.f5.f5), (.string p.f5.f6), (.string p.f5.f7), (.string p.f5.f8), (.int .i64 p.f5.f9), (.int .i64 p.f5.f10), (.int .i64 p.f5.f11.f0), (.string p.f5.f11.f1), (.int .i64 p.f5.f11.f2), (.int .i64 p.f5.f11.f3), (.int .i64 p.f5.f12.f0), (.int .i64 p.f5.f12.f1), (.int .i64 p.f5.f13), (.slice none 0 0), (.int .i64 p.f6.f0), (.int .i64 p.f6.f1), (.int .i64 p.f6.f2), (.slice A3 p.f6.f3.length c3), (.slice none 0 0), (.slice A5 p.f6.f5.length c5), (.int .i64 p.f7.f0), (.slice A7 p.f7.f1.length c7), (.slice A8 n8 c8)] rfl Try.underlying47 rfl (by kernel_rfl) ?_) | ((with_reducible refine gate_ (.store 47 (.tmp 4) (.tmp 31)) rfl ?_); (try simp only [hng]); refine st_store rfl rfl 47 _ _ rfl rfl rfl (seg := [(.int .i64 p.f0), (.int .i64 p.f1), (.int .i64 (-s.id)), (.int .i64 p.f3), (.int .i64 p.f4.f0), (.int .i64 p.f4.f1), (.int .i64 p.f4.f2), (.int .i64 p.f4.f3), (.int .i64 p.f4.f4), (.int .i64 p.f4.f5), (.slice none 0 0), (.slice none 0 0), (.int .i64 p.f5.f0), (.int .i64 p.f5.f1), (.int .i64 p.f5.f2), (.int .i64 p.f5.f3), (.int .i64 p.f5.f4), (.string p.f5.f5), (.string p.f5.f6), (.string p.f5.f7), (.string p.f5.f8), (.int .i64 p.f5.f9), (.int .i64 p.f5.f10), (.int .i64 p.f5.f11.f0), (.string p.f5.f11.f1), (.int .i64 p.f5.f11.f2), (.int .i64 p.f5.f11.f3), (.int .i64 p.f5.f12.f0), (.int .i64 p.f5.f12.f1), (.int .i64 p.f5.f13), (.slice none 0 0), (.int .i64 p.f6.f0), (.int .i64 p.f6.f1), (.int .i64 p.f6.f2), (.slice A3 p.f6.f3.length c3), (.slice none 0 0), (.slice A5 p.f6.f5.length c5), (.int .i64 p.f7.f0), (.slice A7 p.f7.f1.length c7), (.slice A8 n8 c8)]) rfl (by kernel_rfl) (by rfl) S9.out 0 rfl (Nat.le_of_ble_eq_true rfl) ?_; intro w25 h_; have S26 : Aside0 (St w0 w25 (Blk g4 (pkA { p with f2 := (-s.id) } (.slice none 0 0) (.slice none 0 0) (.slice none 0 0) A3 c3 A5 c5 A7 c7 (.slice A8 n8 c8)) 47 :: Blk g1 (pkA { p with f2 := (-s.id) } (.slice none 0 0) (.slice none 0 0) (.slice none 0 0) A3 c3 A5 c5 A7 c7 (.slice A8 n8 c8)) 47 :: Blk BR (refA s BL) 87 :: Blk BL (leadA s) 3 :: L)) := Aside0.mk h_; clear h_))
  have HV := Aside0.mk (show ownV s p = { p with f2 := -s.id } by unfold ownV; rw [if_neg Xq10.out])
  refine bodyPost_ret (results_cell_row rfl _ _ g4 47 (pkA { p with f2 := (-s.id) } (.slice none 0 0) (.slice none 0 0) (.slice none 0 0) A3 c3 A5 c5 A7 c7 (.slice A8 n8 c8)) (0, 0) _ rfl (S26.out.blk 0 rfl) Try.underlying47 rfl (by kernel_rfl)) rfl ?_
  refine HPOST.out _ _ ?_
  rw [HV.out]
  exact ⟨rfl, (((S26.out).erase 1).erase 0)⟩
set_option maxHeartbeats 4000000 in
set_option maxRecDepth 100000 in
theorem refNew (w0 w : World) (L : List Thing) (h : St w0 w L) (id nodes retry : Int) :
  Calls Try.prog 19 #[.int .i64 id, .int .i64 nodes, .int .i64 retry] w fun e' w' => RNewP w0 L id nodes retry e' w' := by
 have H := Aside0.mk h
 clear h
 have hmk : ∀ W : World, (Instr.makeSlice 63 (.int .i64 7) (.int .i64 7)).run Try.prog W = .ok (.slice (some ⟨W.heap.size, 0, none⟩) 7 7) (W.alloc (.cells #[.int .i64 0, .int .i64 0, .int .i64 0, .int .i64 0, .int .i64 0, .int .i64 0, .int .i64 0] 3)) := fun W => by obtain ⟨i3, hi3, hz3, hs3, hb3⟩ := info_parts (show (Try.prog.info? 3).map (fun i => (i.zero, i.size, i.bytes)) = some (some (.int .i64 0), 1, 8) by kernel_rfl); have h := run_make (P := Try.prog) W 63 3 i3 (.int .i64 0) Try.underlying63 hi3 hz3 .i64 .i64 7 7 (by decide) (by decide) (by rw [hb3]; decide) (by decide); rw [hs3, show madeCells (Value.int .i64 0).cells ((7 : Int).toNat * 1) = #[.int .i64 0, .int .i64 0, .int .i64 0, .int .i64 0, .int .i64 0, .int .i64 0, .int .i64 0] from by kernel_rfl] at h; exact h
 refine calls_hide fun R HPOST => ?_
 go_enter Try.func19, Try.ntmps19
 go_upto_region 0 with (fail)
 rcases Decidable.em (id < 1) with q1 | q1
 ·have t2 : decide (id < 1) = true := decide_eq_true q1
  have Xq1 := Aside0.mk q1
  clear q1
  go_upto_region 1 with (fail)
  go_upto_region 2 with (fail)
  go_wp2_with (fail)
  try go_ret2
  refine HPOST.out _ _ ?_
  unfold RNewP
  exact Or.inr ⟨fun h => (by obtain ⟨h1, h2, h3, h4, h5, h6⟩ := h; have h7 := Xq1.out; omega), rfl, (H.out)⟩
 ·have t2 : decide (id < 1) = false := decide_eq_false q1
  have Xq1 := Aside0.mk q1
  clear q1
  rcases Decidable.em (1099511627776 < id) with q4 | q4
  ·have t5 : decide (1099511627776 < id) = true := decide_eq_true q4
   have Xq4 := Aside0.mk q4
   clear q4
   go_upto_region 1 with (fail)
   go_upto_region 2 with (fail)
   go_wp2_with (fail)
   try go_ret2
   refine HPOST.out _ _ ?_
   unfold RNewP
   exact Or.inr ⟨fun h => (by obtain ⟨h1, h2, h3, h4, h5, h6⟩ := h; have h7 := Xq4.out; omega), rfl, (H.out)⟩
  ·have t5 : decide (1099511627776 < id) = false := decide_eq_false q4
   have Xq4 := Aside0.mk q4
   clear q4
   rcases Decidable.em (nodes < 1) with q7 | q7
   ·have t8 : decide (nodes < 1) = true := decide_eq_true q7
    have Xq7 := Aside0.mk q7
    clear q7
    go_upto_region 1 with (fail)
    go_upto_region 2 with (fail)
    go_wp2_with (fail)
    try go_ret2
    refine HPOST.out _ _ ?_
    unfold RNewP
    exact Or.inr ⟨fun h => (by obtain ⟨h1, h2, h3, h4, h5, h6⟩ := h; have h7 := Xq7.out; omega), rfl, (H.out)⟩
   ·have t8 : decide (nodes < 1) = false := decide_eq_false q7
    have Xq7 := Aside0.mk q7
    clear q7
    rcases Decidable.em (5 < nodes) with q10 | q10
    ·have t11 : decide (5 < nodes) = true := decide_eq_true q10
     have Xq10 := Aside0.mk q10
     clear q10
     go_upto_region 1 with (fail)
     go_upto_region 2 with (fail)
     go_wp2_with (fail)
     try go_ret2
     refine HPOST.out _ _ ?_
     unfold RNewP
     exact Or.inr ⟨fun h => (by obtain ⟨h1, h2, h3, h4, h5, h6⟩ := h; have h7 := Xq10.out; omega), rfl, (H.out)⟩
    ·have t11 : decide (5 < nodes) = false := decide_eq_false q10
     have Xq10 := Aside0.mk q10
     clear q10
     rcases Decidable.em (retry < 1) with q13 | q13
     ·have t14 : decide (retry < 1) = true := decide_eq_true q13
      have Xq13 := Aside0.mk q13
      clear q13
      go_upto_region 1 with (fail)
      go_upto_region 2 with (fail)
      go_wp2_with (fail)
      try go_ret2
      refine HPOST.out _ _ ?_
      unfold RNewP
      exact Or.inr ⟨fun h => (by obtain ⟨h1, h2, h3, h4, h5, h6⟩ := h; have h7 := Xq13.out; omega), rfl, (H.out)⟩
     ·have t14 : decide (retry < 1) = false := decide_eq_false q13
      have Xq13 := Aside0.mk q13
      clear q13
      rcases Decidable.em (1000 < retry) with q16 | q16
      ·have t17 : decide (1000 < retry) = true := decide_eq_true q16
       have Xq16 := Aside0.mk q16
       clear q16
       go_upto_region 1 with (fail)
       go_upto_region 2 with (fail)
       go_wp2_with (fail)
       try go_ret2
       refine HPOST.out _ _ ?_
       unfold RNewP
       exact Or.inr ⟨fun h => (by obtain ⟨h1, h2, h3, h4, h5, h6⟩ := h; have h7 := Xq16.out; omega), rfl, (H.out)⟩
      ·have t17 : decide (1000 < retry) = false := decide_eq_false q16
       have Xq16 := Aside0.mk q16
       clear q16
       go_upto_region 1 with (fail)
       go_upto_region 3 with (fail)
       go_wp2_with (first | ((with_reducible refine gate_dst (N := 33) rfl ?_); refine st_lit ?hg (N := 33) ?hd #[(.int .i64 0), (.int .i64 0), (.int .i64 0), (.int .i64 0), (.int .i64 0), (.int .i64 0), (.int .i64 0)] 3 7 ?hr H.out ?_; (case hd => rfl); (case hg => rfl); (case hr => first | (go_simp; done) | (go_simp; rfl) | (go_simp; exact ⟨rfl, rfl⟩)); intro g19 w20 hg_ h_ hb_; have S21 := Aside0.mk h_; have BS21 := Aside0.mk hb_; have GS21 := Aside0.mk hg_; clear h_ hb_ hg_) | ((with_reducible refine gate_dst (N := 35) rfl ?_); refine st_box ?hg (N := 35) ?hd (refA (newAs id nodes retry) g19) 87 ?hr S21.out ?_; (case hd => rfl); (case hg => rfl); (case hr => first | (go_simp; done) | (go_simp; rfl)); intro g22 w23 hg_ h_ hb_; have S24 := Aside0.mk h_; have BS24 := Aside0.mk hb_; have GS24 := Aside0.mk hg_; clear h_ hb_ hg_))
       try go_ret2
       refine HPOST.out _ _ ?_
       unfold RNewP
       exact Or.inl ⟨⟨by have h7 := Xq1.out; omega, by have h7 := Xq4.out; omega, by have h7 := Xq7.out; omega, by have h7 := Xq10.out; omega, by have h7 := Xq13.out; omega, by have h7 := Xq16.out; omega⟩, _, _, rfl, (S24.out)⟩
end Go.Proofs.Ytonedijkgddepaa.P
