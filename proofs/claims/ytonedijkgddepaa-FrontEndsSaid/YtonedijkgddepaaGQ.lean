/- front.Client, by hand: Recv. No conditions. -/
import Derived.Test.YtonedijkgddepaaSq
import Derived.Test.YtonedijkgddepaaGM
namespace Go.Proofs.Ytonedijkgddepaa.P
open Go.Sq
open Go.RowKit Go.Maps Go.Proofs.YtonedijkgddepaaW.PrintWords Go.Proofs.YtonedijkgddepaaW.PrintLast Go.Proofs.YtonedijkgddepaaW.PrintMore
set_option linter.unusedVariables false
set_option linter.unusedSimpArgs false
/-- What a client makes of a packet. -/
def cliRecvV (a : As) (c : Cl) (p : S47) (m : Bool) (g : Int) : As × Cl :=
 if c.works = true then (if p.f0 = 5 then learnV a c p m g else
  if (recvV a p).2.2 = true then (if (recvV a p).2.1.f0 = 14 ∧ sweepsB c.call.kind = false then ({ (recvV a p).1 with cmd := a.cmd, busy := true, sent := false }, { c with wants := true }) else ((recvV a p).1, doneV c (recvV a p).2.1))
  else ((recvV a p).1, c)) else (a, c)
def CRecvP (w0 : World) (L : List Thing) (BC BA bl q : Nat) (v1 v3 : Value) (x : As × Cl) (e' : Ending) (w' : World) : Prop := ∃ v2 v4, e' = .returned (.slice none 0 0) ∧ St w0 w' (cliT BC BA bl q x.1 x.2 v1 v2 v3 v4 ++ L)
theorem MapT_mono {bl q q' : Nat} {M : List (Int × Int)} (hq : q ≤ q') {w : World} {S : Nat → Prop} (h : (MapT bl q M).at_ w S) : (MapT bl q' M).at_ w S := ⟨h.1.mono hq, h.2⟩
theorem St.mono0 {w0 w : World} {T T' : Thing} {L : List Thing} (h : St w0 w (T :: L)) (hT : ∀ S, T.at_ w S → T'.at_ w S) : St w0 w (T' :: L) := ⟨h.os, h.tape, h.output, by obtain ⟨S, S1, S2, h1, h2⟩ := h.sts; exact ⟨S, S1, S2, hT S1 h1, h2⟩⟩
theorem St.mono2 {w0 w : World} {T1 T2 T T' : Thing} {L : List Thing} (h : St w0 w (T1 :: T2 :: T :: L)) (hT : ∀ S, T.at_ w S → T'.at_ w S) : St w0 w (T1 :: T2 :: T' :: L) := (((h.bring 2 rfl).mono0 hT).bring 2 rfl).bring 2 rfl
theorem recvV_z (a : As) (p : S47) (h : p.f6.f4 = []) : (recvV a p).2.1.f4 = [] := by
 unfold recvV
 split
 ·split
  ·rfl
  ·exact h
 ·rfl
set_option maxHeartbeats 4000000 in
set_option maxRecDepth 100000 in
theorem cliRecvT (w0 w : World) (L : List Thing) (BC BA bl q : Nat) (a : As) (c : Cl) (v1 v2 v3 v4 : Value) (h : St w0 w (cliT BC BA bl q a c v1 v2 v3 v4 ++ L)) (hk : a.ok q) (hq : q + 1 < 100000) (p : S47) (vm vv vd vpd : Value) (A3 A5 A7 : Option Addr) (c3 c5 c7 : Nat) (hr : ∀ W, Mem W L → (Kd.C k115 W A3 p.f6.f3.length p.f6.f3 ∧ Kd.C k35 W A5 p.f6.f5.length p.f6.f5) ∧ Kd.C k108 W A7 p.f7.f1.length p.f7.f1) (h3 : p.f6.f3.length ≤ c3 ∧ p.f6.f3.length ≤ 1000) (h5 : p.f6.f5.length ≤ c5 ∧ p.f6.f5.length ≤ 1000) (h7 : p.f7.f1.length ≤ c7 ∧ p.f7.f1.length ≤ 1000) (h4 : p.f6.f4 = []) (m : Bool) (hm : ∃ k, chart_May.f k p.f7.f0 p.f7.f1 = some m) (r g : Int) (hs : learnHit a c p m → a.busy = true → sweepsB c.call.kind = false → Serves c p r g) (hl : c.out.length ≤ 10000) (hst : 0 ≤ c.step ∧ c.step ≤ 10000) :
  Calls Try.prog 11 #[.pointer (some ⟨BC, 0, none⟩), .agg (pkA p vm vv vd A3 c3 A5 c5 A7 c7 vpd)] w fun e' w' => CRecvP w0 L BC BA bl (q + 1) v1 v3 (cliRecvV a c p m g) e' w' := by
 have H := Aside0.mk h
 have HK := Aside0.mk hk
 have HI := Aside0.mk (show a.id ≠ 0 by have := hk.id1; omega)
 have HR := Aside0.mk hr
 have HB := Aside0.mk (And.intro h3 (And.intro h5 (And.intro h7 h4)))
 have HM := Aside0.mk hm
 have HSV := Aside0.mk hs
 have HL := Aside0.mk (And.intro hl hst)
 have HQ := Aside0.mk hq
 clear h hk hr h3 h5 h7 hm hs hl hst hq
 obtain ⟨x, hx⟩ : ∃ x, x = recvV a p := ⟨_, rfl⟩
 have HX := Aside0.mk hx
 have HZ := Aside0.mk (show x.2.1.f4 = [] by rw [hx]; exact recvV_z a p h4)
 clear hx h4
 refine calls_hide fun R HPOST => ?_
 go_enter Try.func11, Try.ntmps11
 go_upto_region 0 with (fail)
 rcases Bool.eq_false_or_eq_true c.works with q4 | q4
 ·have Xq4 := Aside0.mk q4
  go_upto_region 1 with (first | ((with_reducible refine gate_dst (N := 3) rfl ?_); refine st_box ?hg (N := 3) ?hd (pkA p vm vv vd A3 c3 A5 c5 A7 c7 vpd) 47 ?hr H.out ?_; (case hd => rfl); (case hg => rfl); (case hr => first | (go_simp; done) | (go_simp; rfl)); intro g1 w2 hg_ h_ hb_; have S3 := Aside0.mk h_; have BS3 := Aside0.mk hb_; have GS3 := Aside0.mk hg_; clear h_ hb_ hg_))
  rcases Decidable.em (p.f0 = 5) with q8 | q8
  ·have t9 : (p.f0 == 5) = true := beq_iff_eq.2 q8
   have u10 : (p.f0 != 5) = false := by rw [bne, t9]; rfl
   have Xq8 := Aside0.mk q8
   clear q8
   go_upto_region 3 with (first | (go_at_call 35; (with_reducible refine (cliNobody _ 0 BC BA bl q a c v1 v2 v3 v4 (cli_in (L := L) ((S3.out).erase 0)) HI.out).mono ?_); rintro e1 w6 ⟨rfl, hw_⟩; have S5 := Aside0.mk (S3.out.same hw_); clear hw_; have c7 : w6.cell? ⟨BC, 7, none⟩ = some (.bool true) := (show w6.cell? ⟨BC, 7, none⟩ = some (.bool c.works) from S5.out.cell 1 7 rfl rfl).trans (by rw [q4])))
   clear c7
   have c11 : w6.cell? ⟨g1, 0, none⟩ = some (.int .i64 p.f0) := S5.out.cell 0 0 rfl rfl
   go_upto_region 4 with (fail)
   clear c11
   go_upto_region 5 with (first | ((with_reducible refine gate_ (.load 47 (.tmp 3)) rfl ?_); refine st_load rfl 47 _ rfl rfl S5.out 0 rfl [(.int .i64 p.f0), (.int .i64 p.f1), (.int .i64 p.f2), (.int .i64 p.f3), (.int .i64 p.f4.f0), (.int .i64 p.f4.f1), (.int .i64 p.f4.f2), (.int .i64 p.f4.f3), (.int .i64 p.f4.f4), (.int .i64 p.f4.f5), vm, vv, (.int .i64 p.f5.f0), (.int .i64 p.f5.f1), (.int .i64 p.f5.f2), (.int .i64 p.f5.f3), (.int .i64 p.f5.f4), (.string p.f5.f5), (.string p.f5.f6), (.string p.f5.f7), (.string p.f5.f8), (.int .i64 p.f5.f9), (.int .i64 p.f5.f10), (.int .i64 p.f5.f11.f0), (.string p.f5.f11.f1), (.int .i64 p.f5.f11.f2), (.int .i64 p.f5.f11.f3), (.int .i64 p.f5.f12.f0), (.int .i64 p.f5.f12.f1), (.int .i64 p.f5.f13), vd, (.int .i64 p.f6.f0), (.int .i64 p.f6.f1), (.int .i64 p.f6.f2), (.slice A3 p.f6.f3.length c3), (.slice none 0 0), (.slice A5 p.f6.f5.length c5), (.int .i64 p.f7.f0), (.slice A7 p.f7.f1.length c7), vpd] rfl Try.underlying47 rfl (by kernel_rfl) ?_) | (go_at_call 38; (refine (cliLearn w0 _ (Blk g1 (pkA p vm vv vd A3 c3 A5 c5 A7 c7 vpd) 47 :: L) BC BA bl q a c v1 v2 v3 v4 (((((((((S5.out).bring 0 rfl).bring 7 rfl).bring 7 rfl).bring 7 rfl).bring 7 rfl).bring 7 rfl).bring 7 rfl).bring 7 rfl) HK.out p vm vv vd vpd A3 A5 A7 c3 c5 c7 (fun W hM => (HR.out W (hM.drop0)).2) HB.out.2.2.1.1 HB.out.2.2.1.2 m HM.out r g HSV.out).mono ?_); rintro e1 w13 ⟨vN, rfl, h_⟩; have S12 := Aside0.mk h_; clear h_))
   go_wp2_with (fail)
   try go_ret
   have HV := Aside0.mk (show cliRecvV a c p m g = learnV a c p m g by unfold cliRecvV; rw [if_pos q4, if_pos Xq8.out])
   refine HPOST.out _ _ ?_
   unfold CRecvP
   rw [HV.out]
   exact ⟨_, _, rfl, (((S12.out).erase 7)).mono2 (fun S => MapT_mono (Nat.le_succ q))⟩
  ·have t9 : (p.f0 == 5) = false := beq_eq_false_iff_ne.2 q8
   have u10 : (p.f0 != 5) = true := by rw [bne, t9]; rfl
   have Xq8 := Aside0.mk q8
   clear q8
   go_upto_region 3 with (first | (go_at_call 35; (with_reducible refine (cliNobody _ 0 BC BA bl q a c v1 v2 v3 v4 (cli_in (L := L) ((S3.out).erase 0)) HI.out).mono ?_); rintro e1 w6 ⟨rfl, hw_⟩; have S5 := Aside0.mk (S3.out.same hw_); clear hw_; have c7 : w6.cell? ⟨BC, 7, none⟩ = some (.bool true) := (show w6.cell? ⟨BC, 7, none⟩ = some (.bool c.works) from S5.out.cell 1 7 rfl rfl).trans (by rw [q4])))
   clear c7
   have c14 : w6.cell? ⟨g1, 0, none⟩ = some (.int .i64 p.f0) := S5.out.cell 0 0 rfl rfl
   go_upto_region 6 with (fail)
   clear c14
   have c15 : w6.cell? ⟨BC, 0, none⟩ = some (.pointer (some ⟨BA, 0, none⟩)) := S5.out.cell 1 0 rfl rfl
   go_upto_region 7 with (first | ((with_reducible refine gate_ (.load 38 (.tmp 28)) rfl ?_); refine st_load rfl 38 _ rfl rfl S5.out 2 rfl [(.int .i64 a.cmd.f0), (.int .i64 a.cmd.f1), (.int .i64 a.cmd.f2), (.int .i64 a.cmd.f3), (.int .i64 a.cmd.f4), (.string a.cmd.f5), (.string a.cmd.f6), (.string a.cmd.f7), (.string a.cmd.f8), (.int .i64 a.cmd.f9), (.int .i64 a.cmd.f10), (.int .i64 a.cmd.f11.f0), (.string a.cmd.f11.f1), (.int .i64 a.cmd.f11.f2), (.int .i64 a.cmd.f11.f3), (.int .i64 a.cmd.f12.f0), (.int .i64 a.cmd.f12.f1), (.int .i64 a.cmd.f13), (.slice none 0 0)] rfl Try.underlying38 rfl (by kernel_rfl) ?_) | ((with_reducible refine gate_dst (N := 5) rfl ?_); refine st_box ?hg (N := 5) ?hd #[(.int .i64 0), (.int .i64 0), (.int .i64 0), (.int .i64 0), (.int .i64 0), (.string (⟨#[]⟩ : ByteArray)), (.string (⟨#[]⟩ : ByteArray)), (.string (⟨#[]⟩ : ByteArray)), (.string (⟨#[]⟩ : ByteArray)), (.int .i64 0), (.int .i64 0), (.int .i64 0), (.string (⟨#[]⟩ : ByteArray)), (.int .i64 0), (.int .i64 0), (.int .i64 0), (.int .i64 0), (.int .i64 0), (.slice none 0 0)] 38 ?hr S5.out ?_; (case hd => rfl); (case hg => rfl); (case hr => first | (go_simp; done) | (go_simp; rfl)); intro g16 w17 hg_ h_ hb_; clear c15; have S18 := Aside0.mk h_; have BS18 := Aside0.mk hb_; have GS18 := Aside0.mk hg_; clear h_ hb_ hg_) | ((with_reducible refine gate_ (.store 38 (.tmp 5) (.tmp 29)) rfl ?_); refine st_store rfl rfl 38 _ _ rfl rfl rfl (seg := [(.int .i64 a.cmd.f0), (.int .i64 a.cmd.f1), (.int .i64 a.cmd.f2), (.int .i64 a.cmd.f3), (.int .i64 a.cmd.f4), (.string a.cmd.f5), (.string a.cmd.f6), (.string a.cmd.f7), (.string a.cmd.f8), (.int .i64 a.cmd.f9), (.int .i64 a.cmd.f10), (.int .i64 a.cmd.f11.f0), (.string a.cmd.f11.f1), (.int .i64 a.cmd.f11.f2), (.int .i64 a.cmd.f11.f3), (.int .i64 a.cmd.f12.f0), (.int .i64 a.cmd.f12.f1), (.int .i64 a.cmd.f13), (.slice none 0 0)]) rfl (by kernel_rfl) (by rfl) S18.out 0 rfl (Nat.le_of_ble_eq_true rfl) ?_; intro w19 h_; have S20 : Aside0 (St w0 w19 (Blk g16 #[(.int .i64 a.cmd.f0), (.int .i64 a.cmd.f1), (.int .i64 a.cmd.f2), (.int .i64 a.cmd.f3), (.int .i64 a.cmd.f4), (.string a.cmd.f5), (.string a.cmd.f6), (.string a.cmd.f7), (.string a.cmd.f8), (.int .i64 a.cmd.f9), (.int .i64 a.cmd.f10), (.int .i64 a.cmd.f11.f0), (.string a.cmd.f11.f1), (.int .i64 a.cmd.f11.f2), (.int .i64 a.cmd.f11.f3), (.int .i64 a.cmd.f12.f0), (.int .i64 a.cmd.f12.f1), (.int .i64 a.cmd.f13), (.slice none 0 0)] 38 :: Blk g1 (pkA p vm vv vd A3 c3 A5 c5 A7 c7 vpd) 47 :: Blk BC (cliA BA c v1 v2 v3 v4) 91 :: Blk BA (askA a bl) 97 :: MapT bl q a.lead :: Row k106 106 v1 c.call.entries :: Row k108 108 v2 c.pieces :: Row (Kd.int .i64) 3 v3 c.sweep :: Row k42 42 v4 c.out :: L)) := Aside0.mk h_; clear h_))
   have S22 := Aside0.mk S20.out.drew
   refine start_ (n := 12) (S := fun w' => St w0 w' (Blk g16 #[(.int .i64 a.cmd.f0), (.int .i64 a.cmd.f1), (.int .i64 a.cmd.f2), (.int .i64 a.cmd.f3), (.int .i64 a.cmd.f4), (.string a.cmd.f5), (.string a.cmd.f6), (.string a.cmd.f7), (.string a.cmd.f8), (.int .i64 a.cmd.f9), (.int .i64 a.cmd.f10), (.int .i64 a.cmd.f11.f0), (.string a.cmd.f11.f1), (.int .i64 a.cmd.f11.f2), (.int .i64 a.cmd.f11.f3), (.int .i64 a.cmd.f12.f0), (.int .i64 a.cmd.f12.f1), (.int .i64 a.cmd.f13), (.slice none 0 0)] 38 :: Blk g1 (pkA p vm vv vd A3 c3 A5 c5 A7 c7 vpd) 47 :: Blk BC (cliA BA c v1 v2 v3 v4) 91 :: Row k106 106 v1 c.call.entries :: Row k108 108 v2 c.pieces :: Row (Kd.int .i64) 3 v3 c.sweep :: Row k42 42 v4 c.out :: L)) (ds := [10]) (bits 12 0) (by kernel_rfl) rfl rfl ((((S20.out).erase 4).erase 3)).drew (fun hHeld => ?_)
   generalize w19.drew = w21 at S22 hHeld ⊢
   refine pu 0 31 (bits 12 1) ?_ rfl rfl (by kernel_rfl) (fun _ _ _ h => h) (by rfl) ?_ ?_ ?_ ?_
   rotate_left
   ·intro w'; go_simp; with_reducible rfl
   rotate_left
   ·simp only [Act.put, sqA, sqB, sqC, i64_w, i32_w]; rfl
   refine pu 1 32 (bits 12 3) ?_ rfl rfl (by kernel_rfl) (fun _ _ _ h => h) (by rfl) ?_ ?_ ?_ ?_
   rotate_left
   ·intro w'; go_simp; with_reducible rfl
   rotate_left
   ·simp only [Act.put, sqA, sqB, sqC, i64_w, i32_w]; rfl
   refine pu 2 33 (bits 12 7) ?_ rfl rfl (by kernel_rfl) (fun _ _ _ h => h) (by rfl) ?_ ?_ ?_ ?_
   rotate_left
   ·intro w'; go_simp; with_reducible rfl
   rotate_left
   ·simp only [Act.put, sqA, sqB, sqC, i64_w, i32_w]; rfl
   refine tk 3 34 (bits 12 15) ?_ rfl rfl (by kernel_rfl) (fun _ _ _ h => h) (by rfl) ?_ hHeld ?_ ?_ ?_
   rotate_left
   ·intro w' hw'; have s0 : w'.cell? ⟨BC, 0, none⟩ = some (.pointer (some ⟨BA, 0, none⟩)) := hw'.cell 2 0 rfl rfl; go_simp; with_reducible rfl
   rotate_left
   ·simp only [Act.put, sqA, sqB, sqC, i64_w, i32_w]; rfl
   refine take_ (i := 4) (N := some 35) (a' := ?_) (bits 12 31) rfl rfl (by kernel_rfl) (fun _ _ _ h => h) (yields_blk (by rfl) 47 _ rfl g1 0 rfl [(.int .i64 p.f0), (.int .i64 p.f1), (.int .i64 p.f2), (.int .i64 p.f3), (.int .i64 p.f4.f0), (.int .i64 p.f4.f1), (.int .i64 p.f4.f2), (.int .i64 p.f4.f3), (.int .i64 p.f4.f4), (.int .i64 p.f4.f5), vm, vv, (.int .i64 p.f5.f0), (.int .i64 p.f5.f1), (.int .i64 p.f5.f2), (.int .i64 p.f5.f3), (.int .i64 p.f5.f4), (.string p.f5.f5), (.string p.f5.f6), (.string p.f5.f7), (.string p.f5.f8), (.int .i64 p.f5.f9), (.int .i64 p.f5.f10), (.int .i64 p.f5.f11.f0), (.string p.f5.f11.f1), (.int .i64 p.f5.f11.f2), (.int .i64 p.f5.f11.f3), (.int .i64 p.f5.f12.f0), (.int .i64 p.f5.f12.f1), (.int .i64 p.f5.f13), vd, (.int .i64 p.f6.f0), (.int .i64 p.f6.f1), (.int .i64 p.f6.f2), (.slice A3 p.f6.f3.length c3), (.slice none 0 0), (.slice A5 p.f6.f5.length c5), (.int .i64 p.f7.f0), (.slice A7 p.f7.f1.length c7), vpd] rfl (fun w' hw' => hw'.blk 1 rfl) Try.underlying47 rfl (by kernel_rfl)) hHeld ?_ ?_
   rotate_left
   ·simp only [Act.put, sqA, sqB, sqC, i64_w, i32_w]; rfl
   refine join_ (σ := Nat × List Value) 2 (bits 12 1023) (fun s => [(6, .pointer (some ⟨s.1, 0, none⟩)), (36, s.2.getD 0 undef), (30, s.2.getD 1 undef), (37, s.2.getD 2 undef), (38, s.2.getD 3 undef)]) (fun s w' => ∃ (E3 : Option Addr) (d3 : Nat) (E5 : Option Addr) (d5 : Nat) , s.2 = [(.tuple #[(.agg #[(.int .i64 x.2.1.f0), (.int .i64 x.2.1.f1), (.int .i64 x.2.1.f2), (.slice E3 x.2.1.f3.length d3), (.slice none 0 0), (.slice E5 x.2.1.f5.length d5)]), (.bool x.2.2)]), (.tuple #[(.agg #[(.int .i64 x.2.1.f0), (.int .i64 x.2.1.f1), (.int .i64 x.2.1.f2), (.slice E3 x.2.1.f3.length d3), (.slice none 0 0), (.slice E5 x.2.1.f5.length d5)]), (.bool x.2.2)]), (.agg #[(.int .i64 x.2.1.f0), (.int .i64 x.2.1.f1), (.int .i64 x.2.1.f2), (.slice E3 x.2.1.f3.length d3), (.slice none 0 0), (.slice E5 x.2.1.f5.length d5)]), (.bool x.2.2)] ∧ St w0 w' (Blk s.1 #[(.int .i64 0), (.int .i64 0), (.int .i64 0), (.slice none 0 0), (.slice none 0 0), (.slice none 0 0)] 42 :: Blk BA (askA x.1 bl) 97 :: MapT bl (q + 1) x.1.lead :: Row k115 115 (.slice E3 x.2.1.f3.length d3) x.2.1.f3 :: Row k35 35 (.slice E5 x.2.1.f5.length d5) x.2.1.f5 :: Blk g16 #[(.int .i64 a.cmd.f0), (.int .i64 a.cmd.f1), (.int .i64 a.cmd.f2), (.int .i64 a.cmd.f3), (.int .i64 a.cmd.f4), (.string a.cmd.f5), (.string a.cmd.f6), (.string a.cmd.f7), (.string a.cmd.f8), (.int .i64 a.cmd.f9), (.int .i64 a.cmd.f10), (.int .i64 a.cmd.f11.f0), (.string a.cmd.f11.f1), (.int .i64 a.cmd.f11.f2), (.int .i64 a.cmd.f11.f3), (.int .i64 a.cmd.f12.f0), (.int .i64 a.cmd.f12.f1), (.int .i64 a.cmd.f13), (.slice none 0 0)] 38 :: Blk g1 (pkA p vm vv vd A3 c3 A5 c5 A7 c7 vpd) 47 :: Blk BC (cliA BA c v1 v2 v3 v4) 91 :: Row k106 106 v1 c.call.entries :: Row k108 108 v2 c.pieces :: Row (Kd.int .i64) 3 v3 c.sweep :: Row k42 42 v4 c.out :: L)) ?_ ?_
   rotate_left
   ·intro hC
    refine two_ (i := 5) (j := 9) (Ni := some 36) (Nj := some 6) (bits 12 63) (bits 12 543) rfl rfl rfl rfl (by kernel_rfl) (by decide) (by decide) ?_ ?_
    ·refine fun K hK => ?_
     refine goes_ Try.func24 (by kernel_rfl) rfl #[(.pointer (some ⟨BA, 0, none⟩)), (.agg #[(.int .i64 p.f0), (.int .i64 p.f1), (.int .i64 p.f2), (.int .i64 p.f3), (.int .i64 p.f4.f0), (.int .i64 p.f4.f1), (.int .i64 p.f4.f2), (.int .i64 p.f4.f3), (.int .i64 p.f4.f4), (.int .i64 p.f4.f5), vm, vv, (.int .i64 p.f5.f0), (.int .i64 p.f5.f1), (.int .i64 p.f5.f2), (.int .i64 p.f5.f3), (.int .i64 p.f5.f4), (.string p.f5.f5), (.string p.f5.f6), (.string p.f5.f7), (.string p.f5.f8), (.int .i64 p.f5.f9), (.int .i64 p.f5.f10), (.int .i64 p.f5.f11.f0), (.string p.f5.f11.f1), (.int .i64 p.f5.f11.f2), (.int .i64 p.f5.f11.f3), (.int .i64 p.f5.f12.f0), (.int .i64 p.f5.f12.f1), (.int .i64 p.f5.f13), vd, (.int .i64 p.f6.f0), (.int .i64 p.f6.f1), (.int .i64 p.f6.f2), (.slice A3 p.f6.f3.length c3), (.slice none 0 0), (.slice A5 p.f6.f5.length c5), (.int .i64 p.f7.f0), (.slice A7 p.f7.f1.length c7), vpd])] (by rfl) rfl rfl (by (try simp only [List.map_toArray, List.map_cons, List.map_nil]); first | done | rfl) ?_
     with_reducible refine (askRecvT w0 _ (Blk g16 #[(.int .i64 a.cmd.f0), (.int .i64 a.cmd.f1), (.int .i64 a.cmd.f2), (.int .i64 a.cmd.f3), (.int .i64 a.cmd.f4), (.string a.cmd.f5), (.string a.cmd.f6), (.string a.cmd.f7), (.string a.cmd.f8), (.int .i64 a.cmd.f9), (.int .i64 a.cmd.f10), (.int .i64 a.cmd.f11.f0), (.string a.cmd.f11.f1), (.int .i64 a.cmd.f11.f2), (.int .i64 a.cmd.f11.f3), (.int .i64 a.cmd.f12.f0), (.int .i64 a.cmd.f12.f1), (.int .i64 a.cmd.f13), (.slice none 0 0)] 38 :: Blk g1 (pkA p vm vv vd A3 c3 A5 c5 A7 c7 vpd) 47 :: Blk BC (cliA BA c v1 v2 v3 v4) 91 :: Row k106 106 v1 c.call.entries :: Row k108 108 v2 c.pieces :: Row (Kd.int .i64) 3 v3 c.sweep :: Row k42 42 v4 c.out :: L) BA bl q a ((((((((((S22.out).bring 8 rfl).bring 8 rfl).bring 8 rfl).bring 8 rfl).bring 6 rfl).bring 6 rfl).bring 6 rfl).bring 8 rfl).bring 8 rfl) HK.out p vm vv vd (.slice A7 p.f7.f1.length c7) vpd A3 A5 c3 c5 HB.out.1.1 HB.out.2.1.1 (fun W hM => (HR.out W (hM.drop0.drop0.drop0.drop0.drop0.drop0.drop0)).1) HB.out.1.2 HB.out.2.1.2).mono ?_
     rw [← HX.out]; rintro e1 w25 ⟨u3, u5, rfl, h_⟩
     obtain ⟨E3, d3, rfl, _, _⟩ := h_.row 2 rfl
     obtain ⟨E5, d5, rfl, _, _⟩ := h_.row 3 rfl
     have S24 := Aside0.mk h_
     clear h_
     refine ⟨_, rfl, ?_⟩
     refine hK.out _ _ ((((((S24.out).erase 3).erase 2).erase 1).erase 0)) ?_
     clear hHeld
     intro hHeld
     clear hK K
     refine norm_ (a' := ?_) ?_ ?_
     rotate_left
     ·show Act.put _ (some 36) _ = _; simp only [Act.put, sqA, sqB, sqC, i64_w, i32_w]; rfl
     refine pu 6 30 (bits 12 127) ?_ rfl rfl (by kernel_rfl) (fun _ _ _ h => h) (by rfl) ?_ ?_ ?_ ?_
     rotate_left
     ·intro w'; go_simp; with_reducible rfl
     rotate_left
     ·simp only [Act.put, sqA, sqB, sqC, i64_w, i32_w]; rfl
     refine pu 7 37 (bits 12 255) ?_ rfl rfl (by kernel_rfl) (fun _ _ _ h => h) (by rfl) ?_ ?_ ?_ ?_
     rotate_left
     ·intro w'; go_simp; with_reducible rfl
     rotate_left
     ·simp only [Act.put, sqA, sqB, sqC, i64_w, i32_w]; rfl
     refine pu 8 38 (bits 12 511) ?_ rfl rfl (by kernel_rfl) (fun _ _ _ h => h) (by rfl) ?_ ?_ ?_ ?_
     rotate_left
     ·intro w'; go_simp; with_reducible rfl
     rotate_left
     ·simp only [Act.put, sqA, sqB, sqC, i64_w, i32_w]; rfl
     refine one_ (i := 9) (N := some 6) (bits 12 1023) rfl rfl (by kernel_rfl) (by decide) (fun K hK => ?_)
     refine st_box_step (by rfl) (N := 6) rfl #[(.int .i64 0), (.int .i64 0), (.int .i64 0), (.slice none 0 0), (.slice none 0 0), (.slice none 0 0)] 42 ?_ S24.out ?_
     ·first | (go_simp; done) | (go_simp; rfl)
     intro g26 w27 hg_ h_ hb_
     have S28 := Aside0.mk h_
     have BS28 := Aside0.mk hb_
     have GS28 := Aside0.mk hg_
     clear h_ hb_ hg_
     refine hK.out _ _ (((((((S28.out).erase 4).erase 3).erase 2).erase 1).erase 0)) ?_
     clear hHeld
     intro hHeld
     clear hK K
     refine norm_ (a' := ?_) ?_ ?_
     rotate_left
     ·show Act.put _ (some 6) _ = _; simp only [Act.put, sqA, sqB, sqC, i64_w, i32_w]; rfl
     exact hC ⟨g26, [(.tuple #[(.agg #[(.int .i64 x.2.1.f0), (.int .i64 x.2.1.f1), (.int .i64 x.2.1.f2), (.slice E3 x.2.1.f3.length d3), (.slice none 0 0), (.slice E5 x.2.1.f5.length d5)]), (.bool x.2.2)]), (.tuple #[(.agg #[(.int .i64 x.2.1.f0), (.int .i64 x.2.1.f1), (.int .i64 x.2.1.f2), (.slice E3 x.2.1.f3.length d3), (.slice none 0 0), (.slice E5 x.2.1.f5.length d5)]), (.bool x.2.2)]), (.agg #[(.int .i64 x.2.1.f0), (.int .i64 x.2.1.f1), (.int .i64 x.2.1.f2), (.slice E3 x.2.1.f3.length d3), (.slice none 0 0), (.slice E5 x.2.1.f5.length d5)]), (.bool x.2.2)]⟩ w27 ⟨E3, d3, E5, d5, rfl, (S28.out)⟩
    ·refine fun K hK => ?_
     refine st_box_step (by rfl) (N := 6) rfl #[(.int .i64 0), (.int .i64 0), (.int .i64 0), (.slice none 0 0), (.slice none 0 0), (.slice none 0 0)] 42 ?_ S22.out ?_
     ·first | (go_simp; done) | (go_simp; rfl)
     intro g29 w30 hg_ h_ hb_
     have S31 := Aside0.mk h_
     have BS31 := Aside0.mk hb_
     have GS31 := Aside0.mk hg_
     clear h_ hb_ hg_
     refine hK.out _ _ (((((S31.out).erase 5).erase 4).erase 0)) ?_
     clear hHeld
     intro hHeld
     clear hK K
     refine norm_ (a' := ?_) ?_ ?_
     rotate_left
     ·show Act.put _ (some 6) _ = _; simp only [Act.put, sqA, sqB, sqC, i64_w, i32_w]; rfl
     refine one_ (i := 5) (N := some 36) (bits 12 575) rfl rfl (by kernel_rfl) (by decide) (fun K hK => ?_)
     refine goes_ Try.func24 (by kernel_rfl) rfl #[(.pointer (some ⟨BA, 0, none⟩)), (.agg #[(.int .i64 p.f0), (.int .i64 p.f1), (.int .i64 p.f2), (.int .i64 p.f3), (.int .i64 p.f4.f0), (.int .i64 p.f4.f1), (.int .i64 p.f4.f2), (.int .i64 p.f4.f3), (.int .i64 p.f4.f4), (.int .i64 p.f4.f5), vm, vv, (.int .i64 p.f5.f0), (.int .i64 p.f5.f1), (.int .i64 p.f5.f2), (.int .i64 p.f5.f3), (.int .i64 p.f5.f4), (.string p.f5.f5), (.string p.f5.f6), (.string p.f5.f7), (.string p.f5.f8), (.int .i64 p.f5.f9), (.int .i64 p.f5.f10), (.int .i64 p.f5.f11.f0), (.string p.f5.f11.f1), (.int .i64 p.f5.f11.f2), (.int .i64 p.f5.f11.f3), (.int .i64 p.f5.f12.f0), (.int .i64 p.f5.f12.f1), (.int .i64 p.f5.f13), vd, (.int .i64 p.f6.f0), (.int .i64 p.f6.f1), (.int .i64 p.f6.f2), (.slice A3 p.f6.f3.length c3), (.slice none 0 0), (.slice A5 p.f6.f5.length c5), (.int .i64 p.f7.f0), (.slice A7 p.f7.f1.length c7), vpd])] (by rfl) rfl rfl (by (try simp only [List.map_toArray, List.map_cons, List.map_nil]); first | done | rfl) ?_
     with_reducible refine (askRecvT w0 _ (Blk g29 #[(.int .i64 0), (.int .i64 0), (.int .i64 0), (.slice none 0 0), (.slice none 0 0), (.slice none 0 0)] 42 :: Blk g16 #[(.int .i64 a.cmd.f0), (.int .i64 a.cmd.f1), (.int .i64 a.cmd.f2), (.int .i64 a.cmd.f3), (.int .i64 a.cmd.f4), (.string a.cmd.f5), (.string a.cmd.f6), (.string a.cmd.f7), (.string a.cmd.f8), (.int .i64 a.cmd.f9), (.int .i64 a.cmd.f10), (.int .i64 a.cmd.f11.f0), (.string a.cmd.f11.f1), (.int .i64 a.cmd.f11.f2), (.int .i64 a.cmd.f11.f3), (.int .i64 a.cmd.f12.f0), (.int .i64 a.cmd.f12.f1), (.int .i64 a.cmd.f13), (.slice none 0 0)] 38 :: Blk g1 (pkA p vm vv vd A3 c3 A5 c5 A7 c7 vpd) 47 :: Blk BC (cliA BA c v1 v2 v3 v4) 91 :: Row k106 106 v1 c.call.entries :: Row k108 108 v2 c.pieces :: Row (Kd.int .i64) 3 v3 c.sweep :: Row k42 42 v4 c.out :: L) BA bl q a (((((((((((S31.out).bring 9 rfl).bring 9 rfl).bring 9 rfl).bring 9 rfl).bring 7 rfl).bring 7 rfl).bring 7 rfl).bring 7 rfl).bring 9 rfl).bring 9 rfl) HK.out p vm vv vd (.slice A7 p.f7.f1.length c7) vpd A3 A5 c3 c5 HB.out.1.1 HB.out.2.1.1 (fun W hM => (HR.out W (hM.drop0.drop0.drop0.drop0.drop0.drop0.drop0.drop0)).1) HB.out.1.2 HB.out.2.1.2).mono ?_
     rw [← HX.out]; rintro e1 w33 ⟨u3, u5, rfl, h_⟩
     obtain ⟨E3, d3, rfl, _, _⟩ := h_.row 2 rfl
     obtain ⟨E5, d5, rfl, _, _⟩ := h_.row 3 rfl
     have S32 := Aside0.mk h_
     clear h_
     refine ⟨_, rfl, ?_⟩
     refine hK.out _ _ (((((((S32.out).erase 4).erase 3).erase 2).erase 1).erase 0)) ?_
     clear hHeld
     intro hHeld
     clear hK K
     refine norm_ (a' := ?_) ?_ ?_
     rotate_left
     ·show Act.put _ (some 36) _ = _; simp only [Act.put, sqA, sqB, sqC, i64_w, i32_w]; rfl
     refine pu 6 30 (bits 12 639) ?_ rfl rfl (by kernel_rfl) (fun _ _ _ h => h) (by rfl) ?_ ?_ ?_ ?_
     rotate_left
     ·intro w'; go_simp; with_reducible rfl
     rotate_left
     ·simp only [Act.put, sqA, sqB, sqC, i64_w, i32_w]; rfl
     refine pu 7 37 (bits 12 767) ?_ rfl rfl (by kernel_rfl) (fun _ _ _ h => h) (by rfl) ?_ ?_ ?_ ?_
     rotate_left
     ·intro w'; go_simp; with_reducible rfl
     rotate_left
     ·simp only [Act.put, sqA, sqB, sqC, i64_w, i32_w]; rfl
     refine pu 8 38 (bits 12 1023) ?_ rfl rfl (by kernel_rfl) (fun _ _ _ h => h) (by rfl) ?_ ?_ ?_ ?_
     rotate_left
     ·intro w'; go_simp; with_reducible rfl
     rotate_left
     ·simp only [Act.put, sqA, sqB, sqC, i64_w, i32_w]; rfl
     exact hC ⟨g29, [(.tuple #[(.agg #[(.int .i64 x.2.1.f0), (.int .i64 x.2.1.f1), (.int .i64 x.2.1.f2), (.slice E3 x.2.1.f3.length d3), (.slice none 0 0), (.slice E5 x.2.1.f5.length d5)]), (.bool x.2.2)]), (.tuple #[(.agg #[(.int .i64 x.2.1.f0), (.int .i64 x.2.1.f1), (.int .i64 x.2.1.f2), (.slice E3 x.2.1.f3.length d3), (.slice none 0 0), (.slice E5 x.2.1.f5.length d5)]), (.bool x.2.2)]), (.agg #[(.int .i64 x.2.1.f0), (.int .i64 x.2.1.f1), (.int .i64 x.2.1.f2), (.slice E3 x.2.1.f3.length d3), (.slice none 0 0), (.slice E5 x.2.1.f5.length d5)]), (.bool x.2.2)]⟩ w33 ⟨E3, d3, E5, d5, rfl, (((((((((((((S32.out).bring 11 rfl).bring 11 rfl).bring 11 rfl).bring 11 rfl).bring 11 rfl).bring 11 rfl).bring 11 rfl).bring 10 rfl).bring 10 rfl).bring 10 rfl).bring 10 rfl).bring 11 rfl)⟩
   rintro ⟨g26, _⟩ w34 ⟨E3, d3, E5, d5, rfl, h_⟩
   have S35 := Aside0.mk h_
   clear h_ hHeld
   have hHeld := (((((((S35.out).erase 4).erase 3).erase 2).erase 1).erase 0))
   refine norm_ (a' := ?_) ?_ ?_
   rotate_left
   ·simp only [putAll, List.getD_cons_zero, List.getD_cons_succ, Act.put, List.setIfInBounds_toArray, List.set_cons_zero, List.set_cons_succ, i64_w, i32_w]; rfl
   refine last_ (i := 10) (N := none) (bits 12 2047) rfl rfl (by kernel_rfl) (by decide) (fun K hK => ?_)
   refine st_store_step (by rfl) rfl 42 _ _ rfl rfl rfl (seg := [(.int .i64 x.2.1.f0), (.int .i64 x.2.1.f1), (.int .i64 x.2.1.f2), (.slice E3 x.2.1.f3.length d3), (.slice none 0 0), (.slice E5 x.2.1.f5.length d5)]) rfl (by kernel_rfl) (by rfl) S35.out 0 rfl (Nat.le_of_ble_eq_true rfl) ?_
   intro w36 h_ hu_
   have S37 : Aside0 (St w0 w36 (Blk g26 #[(.int .i64 x.2.1.f0), (.int .i64 x.2.1.f1), (.int .i64 x.2.1.f2), (.slice E3 x.2.1.f3.length d3), (.slice none 0 0), (.slice E5 x.2.1.f5.length d5)] 42 :: Blk BA (askA x.1 bl) 97 :: MapT bl (q + 1) x.1.lead :: Row k115 115 (.slice E3 x.2.1.f3.length d3) x.2.1.f3 :: Row k35 35 (.slice E5 x.2.1.f5.length d5) x.2.1.f5 :: Blk g16 #[(.int .i64 a.cmd.f0), (.int .i64 a.cmd.f1), (.int .i64 a.cmd.f2), (.int .i64 a.cmd.f3), (.int .i64 a.cmd.f4), (.string a.cmd.f5), (.string a.cmd.f6), (.string a.cmd.f7), (.string a.cmd.f8), (.int .i64 a.cmd.f9), (.int .i64 a.cmd.f10), (.int .i64 a.cmd.f11.f0), (.string a.cmd.f11.f1), (.int .i64 a.cmd.f11.f2), (.int .i64 a.cmd.f11.f3), (.int .i64 a.cmd.f12.f0), (.int .i64 a.cmd.f12.f1), (.int .i64 a.cmd.f13), (.slice none 0 0)] 38 :: Blk g1 (pkA p vm vv vd A3 c3 A5 c5 A7 c7 vpd) 47 :: Blk BC (cliA BA c v1 v2 v3 v4) 91 :: Row k106 106 v1 c.call.entries :: Row k108 108 v2 c.pieces :: Row (Kd.int .i64) 3 v3 c.sweep :: Row k42 42 v4 c.out :: L)) := Aside0.mk h_
   clear h_ hu_
   refine hK.out _ _ ?_
   clear hK K
   refine pu 11 7 (bits 12 4095) ?_ rfl rfl (by kernel_rfl) (fun _ _ _ h => h) (by rfl) ?_ ?_ ?_ ?_
   rotate_left
   ·intro w'; go_simp; with_reducible rfl
   rotate_left
   ·simp only [Act.put, sqA, sqB, sqC, i64_w, i32_w]; rfl
   refine done_ (by kernel_rfl) ?_
   clear hHeld
   rcases Bool.eq_false_or_eq_true x.2.2 with q38 | q38
   ·have Xq38 := Aside0.mk q38
    go_upto_region 9 with (fail)
    rcases Decidable.em (x.2.1.f0 = 14) with q39 | q39
    ·have t40 : (x.2.1.f0 == 14) = true := beq_iff_eq.2 q39
     have u41 : (x.2.1.f0 != 14) = false := by rw [bne, t40]; rfl
     have Xq39 := Aside0.mk q39
     clear q39
     rcases Bool.eq_false_or_eq_true (sweepsB c.call.kind) with q42 | q42
     ·have Xq42 := Aside0.mk q42
      go_upto_region 10 with (fail)
      have c43 : w36.cell? ⟨g26, 0, none⟩ = some (.int .i64 x.2.1.f0) := S37.out.cell 0 0 rfl rfl
      have c44 : w36.cell? ⟨BC, 1, none⟩ = some (.int .i64 c.call.kind) := S37.out.cell 7 1 rfl rfl
      go_upto_region 8 with (first | (go_at_call 39; (with_reducible refine (sweepsC _ c.call.kind).mono ?_); rintro e1 w46 ⟨rfl, hb_⟩; clear c43 c44; have S45 := Aside0.mk (S37.out.below hb_); clear hb_))
      go_upto_region 13 with (first | ((with_reducible refine gate_ (.load 42 (.tmp 6)) rfl ?_); refine st_load rfl 42 _ rfl rfl S45.out 0 rfl [(.int .i64 x.2.1.f0), (.int .i64 x.2.1.f1), (.int .i64 x.2.1.f2), (.slice E3 x.2.1.f3.length d3), (.slice none 0 0), (.slice E5 x.2.1.f5.length d5)] rfl Try.underlying42 rfl (by kernel_rfl) ?_) | (go_at_call 40; (with_reducible refine (cliDoneT w0 _ (Blk g26 #[(.int .i64 x.2.1.f0), (.int .i64 x.2.1.f1), (.int .i64 x.2.1.f2), (.slice E3 x.2.1.f3.length d3), (.slice none 0 0), (.slice E5 x.2.1.f5.length d5)] 42 :: Blk g16 #[(.int .i64 a.cmd.f0), (.int .i64 a.cmd.f1), (.int .i64 a.cmd.f2), (.int .i64 a.cmd.f3), (.int .i64 a.cmd.f4), (.string a.cmd.f5), (.string a.cmd.f6), (.string a.cmd.f7), (.string a.cmd.f8), (.int .i64 a.cmd.f9), (.int .i64 a.cmd.f10), (.int .i64 a.cmd.f11.f0), (.string a.cmd.f11.f1), (.int .i64 a.cmd.f11.f2), (.int .i64 a.cmd.f11.f3), (.int .i64 a.cmd.f12.f0), (.int .i64 a.cmd.f12.f1), (.int .i64 a.cmd.f13), (.slice none 0 0)] 38 :: Blk g1 (pkA p vm vv vd A3 c3 A5 c5 A7 c7 vpd) 47 :: L) BC BA bl (q + 1) x.1 c v1 v2 v3 v4 x.2.1 E3 E5 d3 d5 (((((((((((((S45.out).bring 6 rfl).bring 6 rfl).bring 2 rfl).bring 6 rfl).bring 6 rfl).bring 11 rfl).bring 11 rfl).bring 11 rfl).bring 11 rfl).bring 10 rfl).bring 10 rfl).bring 11 rfl) HZ.out HL.out.1 HL.out.2).mono ?_); rintro e1 w48 ⟨vN, rfl, h_⟩; have S47 := Aside0.mk h_; clear h_))
      go_wp2_with (fail)
      try go_ret
      have HV := Aside0.mk (show cliRecvV a c p m g = (x.1, doneV c x.2.1) by unfold cliRecvV; rw [if_pos q4, if_neg Xq8.out, ← HX.out, if_pos q38, if_neg (fun h => (by have h9 := h.2; rw [q42] at h9; cases h9))])
      refine HPOST.out _ _ ?_
      unfold CRecvP
      rw [HV.out]
      exact ⟨_, _, rfl, ((((S47.out).erase 9).erase 8).erase 7)⟩
     ·have Xq42 := Aside0.mk q42
      go_upto_region 10 with (fail)
      have c49 : w36.cell? ⟨g26, 0, none⟩ = some (.int .i64 x.2.1.f0) := S37.out.cell 0 0 rfl rfl
      have c50 : w36.cell? ⟨BC, 1, none⟩ = some (.int .i64 c.call.kind) := S37.out.cell 7 1 rfl rfl
      go_upto_region 11 with (first | (go_at_call 39; (with_reducible refine (sweepsC _ c.call.kind).mono ?_); rintro e1 w52 ⟨rfl, hb_⟩; clear c49 c50; have S51 := Aside0.mk (S37.out.below hb_); clear hb_))
      go_upto_region 12 with (first | ((with_reducible refine gate_ (.store 4 (.tmp 60) (.const (.bool true))) rfl ?_); refine st_store rfl rfl 4 _ _ rfl rfl rfl (seg := [(.bool true)]) rfl (by kernel_rfl) (by rfl) S51.out 7 rfl (Nat.le_of_ble_eq_true rfl) ?_; intro w53 h_; have S54 : Aside0 (St w0 w53 (Blk g26 #[(.int .i64 x.2.1.f0), (.int .i64 x.2.1.f1), (.int .i64 x.2.1.f2), (.slice E3 x.2.1.f3.length d3), (.slice none 0 0), (.slice E5 x.2.1.f5.length d5)] 42 :: Blk BA (askA x.1 bl) 97 :: MapT bl (q + 1) x.1.lead :: Row k115 115 (.slice E3 x.2.1.f3.length d3) x.2.1.f3 :: Row k35 35 (.slice E5 x.2.1.f5.length d5) x.2.1.f5 :: Blk g16 #[(.int .i64 a.cmd.f0), (.int .i64 a.cmd.f1), (.int .i64 a.cmd.f2), (.int .i64 a.cmd.f3), (.int .i64 a.cmd.f4), (.string a.cmd.f5), (.string a.cmd.f6), (.string a.cmd.f7), (.string a.cmd.f8), (.int .i64 a.cmd.f9), (.int .i64 a.cmd.f10), (.int .i64 a.cmd.f11.f0), (.string a.cmd.f11.f1), (.int .i64 a.cmd.f11.f2), (.int .i64 a.cmd.f11.f3), (.int .i64 a.cmd.f12.f0), (.int .i64 a.cmd.f12.f1), (.int .i64 a.cmd.f13), (.slice none 0 0)] 38 :: Blk g1 (pkA p vm vv vd A3 c3 A5 c5 A7 c7 vpd) 47 :: Blk BC (cliA BA { c with wants := true } v1 v2 v3 v4) 91 :: Row k106 106 v1 c.call.entries :: Row k108 108 v2 c.pieces :: Row (Kd.int .i64) 3 v3 c.sweep :: Row k42 42 v4 c.out :: L)) := Aside0.mk h_; clear h_))
      have S56 := Aside0.mk S54.out.drew
      refine start_ (n := 22) (S := fun w' => St w0 w' (Blk g26 #[(.int .i64 x.2.1.f0), (.int .i64 x.2.1.f1), (.int .i64 x.2.1.f2), (.slice E3 x.2.1.f3.length d3), (.slice none 0 0), (.slice E5 x.2.1.f5.length d5)] 42 :: Blk BA (askA x.1 bl) 97 :: MapT bl (q + 1) x.1.lead :: Row k115 115 (.slice E3 x.2.1.f3.length d3) x.2.1.f3 :: Row k35 35 (.slice E5 x.2.1.f5.length d5) x.2.1.f5 :: Blk g16 #[(.int .i64 a.cmd.f0), (.int .i64 a.cmd.f1), (.int .i64 a.cmd.f2), (.int .i64 a.cmd.f3), (.int .i64 a.cmd.f4), (.string a.cmd.f5), (.string a.cmd.f6), (.string a.cmd.f7), (.string a.cmd.f8), (.int .i64 a.cmd.f9), (.int .i64 a.cmd.f10), (.int .i64 a.cmd.f11.f0), (.string a.cmd.f11.f1), (.int .i64 a.cmd.f11.f2), (.int .i64 a.cmd.f11.f3), (.int .i64 a.cmd.f12.f0), (.int .i64 a.cmd.f12.f1), (.int .i64 a.cmd.f13), (.slice none 0 0)] 38 :: Blk g1 (pkA p vm vv vd A3 c3 A5 c5 A7 c7 vpd) 47 :: Blk BC (cliA BA { c with wants := true } v1 v2 v3 v4) 91 :: Row k106 106 v1 c.call.entries :: Row k108 108 v2 c.pieces :: Row (Kd.int .i64) 3 v3 c.sweep :: Row k42 42 v4 c.out :: L)) (ds := [15, 18, 21]) (bits 22 0) (by kernel_rfl) rfl rfl (S54.out).drew (fun hHeld => ?_)
      generalize w53.drew = w55 at S56 hHeld ⊢
      refine pu 0 61 (bits 22 1) ?_ rfl rfl (by kernel_rfl) (fun _ _ _ h => h) (by rfl) ?_ ?_ ?_ ?_
      rotate_left
      ·intro w'; go_simp; with_reducible rfl
      rotate_left
      ·simp only [Act.put, sqA, sqB, sqC, i64_w, i32_w]; rfl
      refine pu 1 62 (bits 22 3) ?_ rfl rfl (by kernel_rfl) (fun _ _ _ h => h) (by rfl) ?_ ?_ ?_ ?_
      rotate_left
      ·intro w'; go_simp; with_reducible rfl
      rotate_left
      ·simp only [Act.put, sqA, sqB, sqC, i64_w, i32_w]; rfl
      refine pu 2 63 (bits 22 7) ?_ rfl rfl (by kernel_rfl) (fun _ _ _ h => h) (by rfl) ?_ ?_ ?_ ?_
      rotate_left
      ·intro w'; go_simp; with_reducible rfl
      rotate_left
      ·simp only [Act.put, sqA, sqB, sqC, i64_w, i32_w]; rfl
      refine pu 4 65 (bits 22 23) ?_ rfl rfl (by kernel_rfl) (fun _ _ _ h => h) (by rfl) ?_ ?_ ?_ ?_
      rotate_left
      ·intro w'; go_simp; with_reducible rfl
      rotate_left
      ·simp only [Act.put, sqA, sqB, sqC, i64_w, i32_w]; rfl
      refine pu 5 66 (bits 22 55) ?_ rfl rfl (by kernel_rfl) (fun _ _ _ h => h) (by rfl) ?_ ?_ ?_ ?_
      rotate_left
      ·intro w'; go_simp; with_reducible rfl
      rotate_left
      ·simp only [Act.put, sqA, sqB, sqC, i64_w, i32_w]; rfl
      refine pu 6 67 (bits 22 119) ?_ rfl rfl (by kernel_rfl) (fun _ _ _ h => h) (by rfl) ?_ ?_ ?_ ?_
      rotate_left
      ·intro w'; go_simp; with_reducible rfl
      rotate_left
      ·simp only [Act.put, sqA, sqB, sqC, i64_w, i32_w]; rfl
      refine pu 8 69 (bits 22 375) ?_ rfl rfl (by kernel_rfl) (fun _ _ _ h => h) (by rfl) ?_ ?_ ?_ ?_
      rotate_left
      ·intro w'; go_simp; with_reducible rfl
      rotate_left
      ·simp only [Act.put, sqA, sqB, sqC, i64_w, i32_w]; rfl
      refine pu 9 70 (bits 22 887) ?_ rfl rfl (by kernel_rfl) (fun _ _ _ h => h) (by rfl) ?_ ?_ ?_ ?_
      rotate_left
      ·intro w'; go_simp; with_reducible rfl
      rotate_left
      ·simp only [Act.put, sqA, sqB, sqC, i64_w, i32_w]; rfl
      refine pu 10 71 (bits 22 1911) ?_ rfl rfl (by kernel_rfl) (fun _ _ _ h => h) (by rfl) ?_ ?_ ?_ ?_
      rotate_left
      ·intro w'; go_simp; with_reducible rfl
      rotate_left
      ·simp only [Act.put, sqA, sqB, sqC, i64_w, i32_w]; rfl
      refine tk 3 64 (bits 22 1919) ?_ rfl rfl (by kernel_rfl) (fun _ _ _ h => h) (by rfl) ?_ hHeld ?_ ?_ ?_
      rotate_left
      ·intro w' hw'; have s0 : w'.cell? ⟨BC, 0, none⟩ = some (.pointer (some ⟨BA, 0, none⟩)) := hw'.cell 7 0 rfl rfl; go_simp; with_reducible rfl
      rotate_left
      ·simp only [Act.put, sqA, sqB, sqC, i64_w, i32_w]; rfl
      refine tk 7 68 (bits 22 2047) ?_ rfl rfl (by kernel_rfl) (fun _ _ _ h => h) (by rfl) ?_ hHeld ?_ ?_ ?_
      rotate_left
      ·intro w' hw'; have s0 : w'.cell? ⟨BC, 0, none⟩ = some (.pointer (some ⟨BA, 0, none⟩)) := hw'.cell 7 0 rfl rfl; go_simp; with_reducible rfl
      rotate_left
      ·simp only [Act.put, sqA, sqB, sqC, i64_w, i32_w]; rfl
      refine tk 11 72 (bits 22 4095) ?_ rfl rfl (by kernel_rfl) (fun _ _ _ h => h) (by rfl) ?_ hHeld ?_ ?_ ?_
      rotate_left
      ·intro w' hw'; have s0 : w'.cell? ⟨BC, 0, none⟩ = some (.pointer (some ⟨BA, 0, none⟩)) := hw'.cell 7 0 rfl rfl; go_simp; with_reducible rfl
      rotate_left
      ·simp only [Act.put, sqA, sqB, sqC, i64_w, i32_w]; rfl
      refine take_ (i := 12) (N := some 73) (a' := ?_) (bits 22 8191) rfl rfl (by kernel_rfl) (fun _ _ _ h => h) (yields_blk (by rfl) 38 _ rfl g16 0 rfl [(.int .i64 a.cmd.f0), (.int .i64 a.cmd.f1), (.int .i64 a.cmd.f2), (.int .i64 a.cmd.f3), (.int .i64 a.cmd.f4), (.string a.cmd.f5), (.string a.cmd.f6), (.string a.cmd.f7), (.string a.cmd.f8), (.int .i64 a.cmd.f9), (.int .i64 a.cmd.f10), (.int .i64 a.cmd.f11.f0), (.string a.cmd.f11.f1), (.int .i64 a.cmd.f11.f2), (.int .i64 a.cmd.f11.f3), (.int .i64 a.cmd.f12.f0), (.int .i64 a.cmd.f12.f1), (.int .i64 a.cmd.f13), (.slice none 0 0)] rfl (fun w' hw' => hw'.blk 5 rfl) Try.underlying38 rfl (by kernel_rfl)) hHeld ?_ ?_
      rotate_left
      ·simp only [Act.put, sqA, sqB, sqC, i64_w, i32_w]; rfl
      refine pu 13 74 (bits 22 16383) ?_ rfl rfl (by kernel_rfl) (fun _ _ _ h => h) (by rfl) ?_ ?_ ?_ ?_
      rotate_left
      ·intro w'; go_simp; with_reducible rfl
      rotate_left
      ·simp only [Act.put, sqA, sqB, sqC, i64_w, i32_w]; rfl
      refine pu 14 75 (bits 22 32767) ?_ rfl rfl (by kernel_rfl) (fun _ _ _ h => h) (by rfl) ?_ ?_ ?_ ?_
      rotate_left
      ·intro w'; go_simp; with_reducible rfl
      rotate_left
      ·simp only [Act.put, sqA, sqB, sqC, i64_w, i32_w]; rfl
      refine last_ (i := 15) (N := none) (bits 22 65535) rfl rfl (by kernel_rfl) (by decide) (fun K hK => ?_)
      refine st_store_step (by rfl) rfl 38 _ _ rfl rfl rfl (seg := [(.int .i64 a.cmd.f0), (.int .i64 a.cmd.f1), (.int .i64 a.cmd.f2), (.int .i64 a.cmd.f3), (.int .i64 a.cmd.f4), (.string a.cmd.f5), (.string a.cmd.f6), (.string a.cmd.f7), (.string a.cmd.f8), (.int .i64 a.cmd.f9), (.int .i64 a.cmd.f10), (.int .i64 a.cmd.f11.f0), (.string a.cmd.f11.f1), (.int .i64 a.cmd.f11.f2), (.int .i64 a.cmd.f11.f3), (.int .i64 a.cmd.f12.f0), (.int .i64 a.cmd.f12.f1), (.int .i64 a.cmd.f13), (.slice none 0 0)]) rfl (by kernel_rfl) (by rfl) S56.out 1 rfl (Nat.le_of_ble_eq_true rfl) ?_
      intro w57 h_ hu_
      have S58 : Aside0 (St w0 w57 (Blk g26 #[(.int .i64 x.2.1.f0), (.int .i64 x.2.1.f1), (.int .i64 x.2.1.f2), (.slice E3 x.2.1.f3.length d3), (.slice none 0 0), (.slice E5 x.2.1.f5.length d5)] 42 :: Blk BA (askA { x.1 with cmd := a.cmd } bl) 97 :: MapT bl (q + 1) x.1.lead :: Row k115 115 (.slice E3 x.2.1.f3.length d3) x.2.1.f3 :: Row k35 35 (.slice E5 x.2.1.f5.length d5) x.2.1.f5 :: Blk g16 #[(.int .i64 a.cmd.f0), (.int .i64 a.cmd.f1), (.int .i64 a.cmd.f2), (.int .i64 a.cmd.f3), (.int .i64 a.cmd.f4), (.string a.cmd.f5), (.string a.cmd.f6), (.string a.cmd.f7), (.string a.cmd.f8), (.int .i64 a.cmd.f9), (.int .i64 a.cmd.f10), (.int .i64 a.cmd.f11.f0), (.string a.cmd.f11.f1), (.int .i64 a.cmd.f11.f2), (.int .i64 a.cmd.f11.f3), (.int .i64 a.cmd.f12.f0), (.int .i64 a.cmd.f12.f1), (.int .i64 a.cmd.f13), (.slice none 0 0)] 38 :: Blk g1 (pkA p vm vv vd A3 c3 A5 c5 A7 c7 vpd) 47 :: Blk BC (cliA BA { c with wants := true } v1 v2 v3 v4) 91 :: Row k106 106 v1 c.call.entries :: Row k108 108 v2 c.pieces :: Row (Kd.int .i64) 3 v3 c.sweep :: Row k42 42 v4 c.out :: L)) := Aside0.mk h_
      clear h_ hu_
      refine hK.out _ _ ?_
      clear hK K
      refine pu 16 76 (bits 22 131071) ?_ rfl rfl (by kernel_rfl) (fun _ _ _ h => h) (by rfl) ?_ ?_ ?_ ?_
      rotate_left
      ·intro w'; go_simp; with_reducible rfl
      rotate_left
      ·simp only [Act.put, sqA, sqB, sqC, i64_w, i32_w]; rfl
      refine pu 17 77 (bits 22 262143) ?_ rfl rfl (by kernel_rfl) (fun _ _ _ h => h) (by rfl) ?_ ?_ ?_ ?_
      rotate_left
      ·intro w'; go_simp; with_reducible rfl
      rotate_left
      ·simp only [Act.put, sqA, sqB, sqC, i64_w, i32_w]; rfl
      refine last_ (i := 18) (N := none) (bits 22 524287) rfl rfl (by kernel_rfl) (by decide) (fun K hK => ?_)
      refine st_store_step (by rfl) rfl 4 _ _ rfl rfl rfl (seg := [(.bool true)]) rfl (by kernel_rfl) (by rfl) S58.out 1 rfl (Nat.le_of_ble_eq_true rfl) ?_
      intro w59 h_ hu_
      have S60 : Aside0 (St w0 w59 (Blk g26 #[(.int .i64 x.2.1.f0), (.int .i64 x.2.1.f1), (.int .i64 x.2.1.f2), (.slice E3 x.2.1.f3.length d3), (.slice none 0 0), (.slice E5 x.2.1.f5.length d5)] 42 :: Blk BA (askA { x.1 with cmd := a.cmd, busy := true } bl) 97 :: MapT bl (q + 1) x.1.lead :: Row k115 115 (.slice E3 x.2.1.f3.length d3) x.2.1.f3 :: Row k35 35 (.slice E5 x.2.1.f5.length d5) x.2.1.f5 :: Blk g16 #[(.int .i64 a.cmd.f0), (.int .i64 a.cmd.f1), (.int .i64 a.cmd.f2), (.int .i64 a.cmd.f3), (.int .i64 a.cmd.f4), (.string a.cmd.f5), (.string a.cmd.f6), (.string a.cmd.f7), (.string a.cmd.f8), (.int .i64 a.cmd.f9), (.int .i64 a.cmd.f10), (.int .i64 a.cmd.f11.f0), (.string a.cmd.f11.f1), (.int .i64 a.cmd.f11.f2), (.int .i64 a.cmd.f11.f3), (.int .i64 a.cmd.f12.f0), (.int .i64 a.cmd.f12.f1), (.int .i64 a.cmd.f13), (.slice none 0 0)] 38 :: Blk g1 (pkA p vm vv vd A3 c3 A5 c5 A7 c7 vpd) 47 :: Blk BC (cliA BA { c with wants := true } v1 v2 v3 v4) 91 :: Row k106 106 v1 c.call.entries :: Row k108 108 v2 c.pieces :: Row (Kd.int .i64) 3 v3 c.sweep :: Row k42 42 v4 c.out :: L)) := Aside0.mk h_
      clear h_ hu_
      refine hK.out _ _ ?_
      clear hK K
      refine pu 19 78 (bits 22 1048575) ?_ rfl rfl (by kernel_rfl) (fun _ _ _ h => h) (by rfl) ?_ ?_ ?_ ?_
      rotate_left
      ·intro w'; go_simp; with_reducible rfl
      rotate_left
      ·simp only [Act.put, sqA, sqB, sqC, i64_w, i32_w]; rfl
      refine pu 20 79 (bits 22 2097151) ?_ rfl rfl (by kernel_rfl) (fun _ _ _ h => h) (by rfl) ?_ ?_ ?_ ?_
      rotate_left
      ·intro w'; go_simp; with_reducible rfl
      rotate_left
      ·simp only [Act.put, sqA, sqB, sqC, i64_w, i32_w]; rfl
      refine last_ (i := 21) (N := none) (bits 22 4194303) rfl rfl (by kernel_rfl) (by decide) (fun K hK => ?_)
      refine st_store_step (by rfl) rfl 4 _ _ rfl rfl rfl (seg := [(.bool false)]) rfl (by kernel_rfl) (by rfl) S60.out 1 rfl (Nat.le_of_ble_eq_true rfl) ?_
      intro w61 h_ hu_
      have S62 : Aside0 (St w0 w61 (Blk g26 #[(.int .i64 x.2.1.f0), (.int .i64 x.2.1.f1), (.int .i64 x.2.1.f2), (.slice E3 x.2.1.f3.length d3), (.slice none 0 0), (.slice E5 x.2.1.f5.length d5)] 42 :: Blk BA (askA { x.1 with cmd := a.cmd, busy := true, sent := false } bl) 97 :: MapT bl (q + 1) x.1.lead :: Row k115 115 (.slice E3 x.2.1.f3.length d3) x.2.1.f3 :: Row k35 35 (.slice E5 x.2.1.f5.length d5) x.2.1.f5 :: Blk g16 #[(.int .i64 a.cmd.f0), (.int .i64 a.cmd.f1), (.int .i64 a.cmd.f2), (.int .i64 a.cmd.f3), (.int .i64 a.cmd.f4), (.string a.cmd.f5), (.string a.cmd.f6), (.string a.cmd.f7), (.string a.cmd.f8), (.int .i64 a.cmd.f9), (.int .i64 a.cmd.f10), (.int .i64 a.cmd.f11.f0), (.string a.cmd.f11.f1), (.int .i64 a.cmd.f11.f2), (.int .i64 a.cmd.f11.f3), (.int .i64 a.cmd.f12.f0), (.int .i64 a.cmd.f12.f1), (.int .i64 a.cmd.f13), (.slice none 0 0)] 38 :: Blk g1 (pkA p vm vv vd A3 c3 A5 c5 A7 c7 vpd) 47 :: Blk BC (cliA BA { c with wants := true } v1 v2 v3 v4) 91 :: Row k106 106 v1 c.call.entries :: Row k108 108 v2 c.pieces :: Row (Kd.int .i64) 3 v3 c.sweep :: Row k42 42 v4 c.out :: L)) := Aside0.mk h_
      clear h_ hu_
      refine hK.out _ _ ?_
      clear hK K
      refine done_ (by kernel_rfl) ?_
      clear hHeld
      go_upto_region 13 with (fail)
      go_wp2_with (fail)
      try go_ret
      have HV := Aside0.mk (show cliRecvV a c p m g = ({ x.1 with cmd := a.cmd, busy := true, sent := false }, { c with wants := true }) by unfold cliRecvV; rw [if_pos q4, if_neg Xq8.out, ← HX.out, if_pos q38, if_pos ⟨Xq39.out, q42⟩])
      refine HPOST.out _ _ ?_
      unfold CRecvP
      rw [HV.out]
      exact ⟨_, _, rfl, (((((((((((((S62.out).erase 6).erase 5).erase 4).erase 3).erase 0).bring 6 rfl).bring 6 rfl).bring 6 rfl).bring 6 rfl).bring 5 rfl).bring 5 rfl).bring 6 rfl)⟩
    ·have t40 : (x.2.1.f0 == 14) = false := beq_eq_false_iff_ne.2 q39
     have u41 : (x.2.1.f0 != 14) = true := by rw [bne, t40]; rfl
     have Xq39 := Aside0.mk q39
     clear q39
     go_upto_region 10 with (fail)
     have c63 : w36.cell? ⟨g26, 0, none⟩ = some (.int .i64 x.2.1.f0) := S37.out.cell 0 0 rfl rfl
     go_upto_region 8 with (fail)
     clear c63
     go_upto_region 13 with (first | ((with_reducible refine gate_ (.load 42 (.tmp 6)) rfl ?_); refine st_load rfl 42 _ rfl rfl S37.out 0 rfl [(.int .i64 x.2.1.f0), (.int .i64 x.2.1.f1), (.int .i64 x.2.1.f2), (.slice E3 x.2.1.f3.length d3), (.slice none 0 0), (.slice E5 x.2.1.f5.length d5)] rfl Try.underlying42 rfl (by kernel_rfl) ?_) | (go_at_call 40; (with_reducible refine (cliDoneT w0 _ (Blk g26 #[(.int .i64 x.2.1.f0), (.int .i64 x.2.1.f1), (.int .i64 x.2.1.f2), (.slice E3 x.2.1.f3.length d3), (.slice none 0 0), (.slice E5 x.2.1.f5.length d5)] 42 :: Blk g16 #[(.int .i64 a.cmd.f0), (.int .i64 a.cmd.f1), (.int .i64 a.cmd.f2), (.int .i64 a.cmd.f3), (.int .i64 a.cmd.f4), (.string a.cmd.f5), (.string a.cmd.f6), (.string a.cmd.f7), (.string a.cmd.f8), (.int .i64 a.cmd.f9), (.int .i64 a.cmd.f10), (.int .i64 a.cmd.f11.f0), (.string a.cmd.f11.f1), (.int .i64 a.cmd.f11.f2), (.int .i64 a.cmd.f11.f3), (.int .i64 a.cmd.f12.f0), (.int .i64 a.cmd.f12.f1), (.int .i64 a.cmd.f13), (.slice none 0 0)] 38 :: Blk g1 (pkA p vm vv vd A3 c3 A5 c5 A7 c7 vpd) 47 :: L) BC BA bl (q + 1) x.1 c v1 v2 v3 v4 x.2.1 E3 E5 d3 d5 (((((((((((((S37.out).bring 6 rfl).bring 6 rfl).bring 2 rfl).bring 6 rfl).bring 6 rfl).bring 11 rfl).bring 11 rfl).bring 11 rfl).bring 11 rfl).bring 10 rfl).bring 10 rfl).bring 11 rfl) HZ.out HL.out.1 HL.out.2).mono ?_); rintro e1 w65 ⟨vN, rfl, h_⟩; have S64 := Aside0.mk h_; clear h_))
     go_wp2_with (fail)
     try go_ret
     have HV := Aside0.mk (show cliRecvV a c p m g = (x.1, doneV c x.2.1) by unfold cliRecvV; rw [if_pos q4, if_neg Xq8.out, ← HX.out, if_pos q38, if_neg (fun h => Xq39.out h.1)])
     refine HPOST.out _ _ ?_
     unfold CRecvP
     rw [HV.out]
     exact ⟨_, _, rfl, ((((S64.out).erase 9).erase 8).erase 7)⟩
   ·have Xq38 := Aside0.mk q38
    go_upto_region 9 with (fail)
    go_upto_region 13 with (fail)
    go_wp2_with (fail)
    try go_ret
    have HV := Aside0.mk (show cliRecvV a c p m g = (x.1, c) by unfold cliRecvV; rw [if_pos q4, if_neg Xq8.out, ← HX.out, if_neg (fun h => (by rw [q38] at h; cases h))])
    refine HPOST.out _ _ ?_
    unfold CRecvP
    rw [HV.out]
    exact ⟨_, _, rfl, (((((((((((((S37.out).erase 6).erase 5).erase 4).erase 3).erase 0).bring 6 rfl).bring 6 rfl).bring 6 rfl).bring 6 rfl).bring 5 rfl).bring 5 rfl).bring 6 rfl)⟩
 ·have Xq4 := Aside0.mk q4
  go_upto_region 1 with (first | ((with_reducible refine gate_dst (N := 3) rfl ?_); refine st_box ?hg (N := 3) ?hd (pkA p vm vv vd A3 c3 A5 c5 A7 c7 vpd) 47 ?hr H.out ?_; (case hd => rfl); (case hg => rfl); (case hr => first | (go_simp; done) | (go_simp; rfl)); intro g1 w2 hg_ h_ hb_; have S3 := Aside0.mk h_; have BS3 := Aside0.mk hb_; have GS3 := Aside0.mk hg_; clear h_ hb_ hg_))
  go_upto_region 2 with (first | (go_at_call 35; (with_reducible refine (cliNobody _ 0 BC BA bl q a c v1 v2 v3 v4 (cli_in (L := L) ((S3.out).erase 0)) HI.out).mono ?_); rintro e1 w67 ⟨rfl, hw_⟩; have S66 := Aside0.mk (S3.out.same hw_); clear hw_; have c68 : w67.cell? ⟨BC, 7, none⟩ = some (.bool false) := (show w67.cell? ⟨BC, 7, none⟩ = some (.bool c.works) from S66.out.cell 1 7 rfl rfl).trans (by rw [q4])))
  clear c68
  go_wp2_with (fail)
  try go_ret
  have HV := Aside0.mk (show cliRecvV a c p m g = (a, c) by unfold cliRecvV; rw [if_neg (fun h => (by rw [q4] at h; cases h))])
  refine HPOST.out _ _ ?_
  unfold CRecvP
  rw [HV.out]
  exact ⟨_, _, rfl, (((S66.out).erase 0)).mono2 (fun S => MapT_mono (Nat.le_succ q))⟩
end Go.Proofs.Ytonedijkgddepaa.P
