/- front.Client, by hand: done, over what lies in memory. No conditions. -/
import Derived.Test.YtonedijkgddepaaSq
import Derived.Test.YtonedijkgddepaaGL
namespace Go.Proofs.Ytonedijkgddepaa.P
open Go.Sq
open Go.RowKit Go.Maps Go.Proofs.YtonedijkgddepaaW.PrintWords Go.Proofs.YtonedijkgddepaaW.PrintLast Go.Proofs.YtonedijkgddepaaW.PrintMore
set_option linter.unusedVariables false
set_option linter.unusedSimpArgs false

def DoneT (w0 : World) (L : List Thing) (BC BA bl q : Nat) (a : As) (c : Cl) (v1 v2 v3 : Value) (e' : Ending) (w' : World) : Prop := ∃ v4, e' = .returned (.tuple #[]) ∧ St w0 w' (cliT BC BA bl q a c v1 v2 v3 v4 ++ L)
set_option maxHeartbeats 4000000 in
set_option maxRecDepth 100000 in
theorem cliDoneT (w0 w : World) (L : List Thing) (BC BA bl q : Nat) (a : As) (c : Cl) (v1 v2 v3 v4 : Value) (r : S42) (B3 B5 : Option Addr) (d3 d5 : Nat) (h : St w0 w (cliT BC BA bl q a c v1 v2 v3 v4 ++ Row k115 115 (.slice B3 r.f3.length d3) r.f3 :: Row k35 35 (.slice B5 r.f5.length d5) r.f5 :: L)) (hr4 : r.f4 = []) (hl : c.out.length ≤ 10000) (hs : 0 ≤ c.step ∧ c.step ≤ 10000) :
  Calls Try.prog 40 #[.pointer (some ⟨BC, 0, none⟩), .agg #[(.int .i64 r.f0), (.int .i64 r.f1), (.int .i64 r.f2), (.slice B3 r.f3.length d3), (.slice none 0 0), (.slice B5 r.f5.length d5)]] w fun e' w' => DoneT w0 L BC BA bl q a (doneV c r) v1 v2 v3 e' w' := by
 have H := Aside0.mk h
 have HR4 := Aside0.mk hr4
 have HLS := Aside0.mk (And.intro hl hs)
 have hw1 : wrap64 (c.step + 1) = c.step + 1 := by unfold wrap64; omega
 clear h hr4 hl hs
 obtain ⟨A1, c1, rfl, _, _⟩ := H.out.row 3 rfl
 obtain ⟨A3, c3, rfl, _, _⟩ := H.out.row 5 rfl
 obtain ⟨A4, c4, rfl, _, _⟩ := H.out.row 6 rfl
 refine calls_hide fun R HPOST => ?_
 go_enter Try.func40, Try.ntmps40
 go_upto_region 0 with (fail)
 go_upto_region 1 with (first | ((with_reducible refine gate_dst (N := 3) rfl ?_); (try simp only [hw1]); refine st_box ?hg (N := 3) ?hd #[(.int .i64 r.f0), (.int .i64 r.f1), (.int .i64 r.f2), (.slice B3 r.f3.length d3), (.slice none 0 0), (.slice B5 r.f5.length d5)] 42 ?hr H.out ?_; (case hd => rfl); (case hg => rfl); (case hr => first | (go_simp; done) | (go_simp; rfl)); intro g1 w2 hg_ h_ hb_; have S3 := Aside0.mk h_; have BS3 := Aside0.mk hb_; have GS3 := Aside0.mk hg_; clear h_ hb_ hg_))
 have S5 := Aside0.mk S3.out.drew
 refine start_ (n := 11) (S := fun w' => St w0 w' (Blk g1 #[(.int .i64 r.f0), (.int .i64 r.f1), (.int .i64 r.f2), (.slice B3 r.f3.length d3), (.slice none 0 0), (.slice B5 r.f5.length d5)] 42 :: Blk BC (cliA BA c (.slice A1 c.call.entries.length c1) v2 (.slice A3 c.sweep.length c3) (.slice A4 c.out.length c4)) 91 :: Blk BA (askA a bl) 97 :: MapT bl q a.lead :: Row k106 106 (.slice A1 c.call.entries.length c1) c.call.entries :: Row k108 108 v2 c.pieces :: Row (Kd.int .i64) 3 (.slice A3 c.sweep.length c3) c.sweep :: Row k42 42 (.slice A4 c.out.length c4) c.out :: Row k115 115 (.slice B3 r.f3.length d3) r.f3 :: Row k35 35 (.slice B5 r.f5.length d5) r.f5 :: L)) (ds := [7, 10]) (bits 11 0) (by kernel_rfl) rfl rfl (S3.out).drew (fun hHeld => ?_)
 generalize w2.drew = w4 at S5 hHeld ⊢
 refine pu 0 5 (bits 11 1) ?_ rfl rfl (by kernel_rfl) (fun _ _ _ h => h) (by rfl) ?_ ?_ ?_ ?_
 rotate_left
 ·intro w'; go_simp; with_reducible rfl
 rotate_left
 ·simp only [Act.put, sqA, sqB, sqC, i64_w, i32_w]; rfl
 refine pu 1 6 (bits 11 3) ?_ rfl rfl (by kernel_rfl) (fun _ _ _ h => h) (by rfl) ?_ ?_ ?_ ?_
 rotate_left
 ·intro w'; go_simp; with_reducible rfl
 rotate_left
 ·simp only [Act.put, sqA, sqB, sqC, i64_w, i32_w]; rfl
 refine pu 2 7 (bits 11 7) ?_ rfl rfl (by kernel_rfl) (fun _ _ _ h => h) (by rfl) ?_ ?_ ?_ ?_
 rotate_left
 ·intro w'; go_simp; with_reducible rfl
 rotate_left
 ·simp only [Act.put, sqA, sqB, sqC, i64_w, i32_w]; rfl
 refine pu 3 8 (bits 11 15) ?_ rfl rfl (by kernel_rfl) (fun _ _ _ h => h) (by rfl) ?_ ?_ ?_ ?_
 rotate_left
 ·intro w'; go_simp; with_reducible rfl
 rotate_left
 ·simp only [Act.put, sqA, sqB, sqC, i64_w, i32_w]; rfl
 refine tk 4 9 (bits 11 31) ?_ rfl rfl (by kernel_rfl) (fun _ _ _ h => h) (by rfl) ?_ hHeld ?_ ?_ ?_
 rotate_left
 ·intro w' hw'; have s0 : w'.cell? ⟨BC, 15, none⟩ = some (.slice A4 c.out.length c4) := hw'.cell 1 15 rfl rfl; go_simp; with_reducible rfl
 rotate_left
 ·simp only [Act.put, sqA, sqB, sqC, i64_w, i32_w]; rfl
 refine take_ (i := 5) (N := some 10) (a' := ?_) (bits 11 63) rfl rfl (by kernel_rfl) (fun _ _ _ h => h) (yields_blk (by rfl) 42 _ rfl g1 0 rfl [(.int .i64 r.f0), (.int .i64 r.f1), (.int .i64 r.f2), (.slice B3 r.f3.length d3), (.slice none 0 0), (.slice B5 r.f5.length d5)] rfl (fun w' hw' => hw'.blk 0 rfl) Try.underlying42 rfl (by kernel_rfl)) hHeld ?_ ?_
 rotate_left
 ·simp only [Act.put, sqA, sqB, sqC, i64_w, i32_w]; rfl
 refine one_ (i := 6) (N := some 11) (bits 11 127) rfl rfl (by kernel_rfl) (by decide) (fun K hK => ?_)
 refine value_ (w1 := ?_) (v := ?_) (by rfl) rfl ?_ ?_
 rotate_left 2
 ·go_simp
  constructor
  ·rfl
  ·rfl
 refine hK.out _ _ (hHeld.below (below_alloc (Below.refl _ _) _)) ?_
 clear hHeld
 intro hHeld
 clear hK K
 refine norm_ (a' := ?_) ?_ ?_
 rotate_left
 ·show Act.put _ (some 11) _ = _; simp only [Act.put, sqA, sqB, sqC, i64_w, i32_w]; rfl
 refine last_ (i := 7) (N := some 12) (bits 11 255) rfl rfl (by kernel_rfl) (by decide) (fun K hK => ?_)
 refine st_append_step k42 (by rfl) _ _ 66 42 (.agg #[(.int .i64 0), (.int .i64 0), (.int .i64 0), (.slice none 0 0), (.slice none 0 0), (.slice none 0 0)]) 96 rfl Try.underlying66 (by kernel_rfl) rfl (by decide) (by omega) (.slice A4 c.out.length c4) c.out r [(.int .i64 r.f0), (.int .i64 r.f1), (.int .i64 r.f2), (.slice B3 r.f3.length d3), (.slice none 0 0), (.slice B5 r.f5.length d5)] rfl rfl (A := [Row k115 115 (.slice B3 r.f3.length d3) r.f3, Row k35 35 (.slice B5 r.f5.length d5) r.f5]) ((((S5.out).bring 9 rfl).bring 9 rfl).bring 9 rfl) (fun S hS => (by obtain ⟨S1, S2, g1, ⟨S3, S4, g2, _, _, g5⟩, _, g7⟩ := hS; exact k42_mkM _ _ _ r (Kd.R_mono g1.1 (fun k hk => (g7 k).2 (.inl hk))) (by rw [HR4.out]; exact Kd.R_nil _ _ _ _ _) (Kd.R_mono g2.1 (fun k hk => (g7 k).2 (.inr ((g5 k).2 (.inl hk))))))) (by have := HLS.out; omega) ?_
 intro vn_ w8 h_
 obtain ⟨A6, c7, rfl, _, _⟩ := h_.row 0 rfl
 have S9 := Aside0.mk h_
 clear h_
 refine hK.out _ _ ?_
 clear hK K
 refine norm_ (a' := ?_) ?_ ?_
 rotate_left
 ·show Act.put _ (some 12) _ = _; simp only [Act.put, sqA, sqB, sqC, i64_w, i32_w]; rfl
 refine pu 8 13 (bits 11 511) ?_ rfl rfl (by kernel_rfl) (fun _ _ _ h => h) (by rfl) ?_ ?_ ?_ ?_
 rotate_left
 ·intro w'; go_simp; with_reducible rfl
 rotate_left
 ·simp only [Act.put, sqA, sqB, sqC, i64_w, i32_w]; rfl
 refine pu 9 14 (bits 11 1023) ?_ rfl rfl (by kernel_rfl) (fun _ _ _ h => h) (by rfl) ?_ ?_ ?_ ?_
 rotate_left
 ·intro w'; go_simp; with_reducible rfl
 rotate_left
 ·simp only [Act.put, sqA, sqB, sqC, i64_w, i32_w]; rfl
 refine last_ (i := 10) (N := none) (bits 11 2047) rfl rfl (by kernel_rfl) (by decide) (fun K hK => ?_)
 refine st_store_step (by rfl) rfl 66 _ _ rfl rfl rfl (seg := [(.slice A6 (c.out ++ [r]).length c7)]) rfl (by kernel_rfl) (by rfl) S9.out 2 rfl (Nat.le_of_ble_eq_true rfl) ?_
 intro w10 h_ hu_
 have S11 : Aside0 (St w0 w10 (Row k42 42 (.slice A6 (c.out ++ [r]).length c7) (c.out ++ [r]) :: Blk g1 #[(.int .i64 r.f0), (.int .i64 r.f1), (.int .i64 r.f2), (.slice B3 r.f3.length d3), (.slice none 0 0), (.slice B5 r.f5.length d5)] 42 :: Blk BC (cliA BA { c with out := (c.out ++ [r]) } (.slice A1 c.call.entries.length c1) v2 (.slice A3 c.sweep.length c3) (.slice A6 (c.out ++ [r]).length c7)) 91 :: Blk BA (askA a bl) 97 :: MapT bl q a.lead :: Row k106 106 (.slice A1 c.call.entries.length c1) c.call.entries :: Row k108 108 v2 c.pieces :: Row (Kd.int .i64) 3 (.slice A3 c.sweep.length c3) c.sweep :: L)) := Aside0.mk h_
 clear h_ hu_
 refine hK.out _ _ ?_
 clear hK K
 refine done_ (by kernel_rfl) ?_
 clear hHeld
 go_upto_region 2 with (fail)
 have c12 : w10.cell? ⟨BC, 13, none⟩ = some (.int .i64 c.step) := S11.out.cell 2 13 rfl rfl
 go_upto_region 3 with (first | ((with_reducible refine gate_ (.store 3 (.tmp 21) (.tmp 19)) rfl ?_); (try simp only [hw1]); refine st_store rfl rfl 3 _ _ rfl rfl rfl (seg := [(.int .i64 (c.step + 1))]) rfl (by kernel_rfl) (by rfl) S11.out 2 rfl (Nat.le_of_ble_eq_true rfl) ?_; intro w13 h_; clear c12; have S14 : Aside0 (St w0 w13 (Row k42 42 (.slice A6 (c.out ++ [r]).length c7) (c.out ++ [r]) :: Blk g1 #[(.int .i64 r.f0), (.int .i64 r.f1), (.int .i64 r.f2), (.slice B3 r.f3.length d3), (.slice none 0 0), (.slice B5 r.f5.length d5)] 42 :: Blk BC (cliA BA { c with out := (c.out ++ [r]), step := (c.step + 1) } (.slice A1 c.call.entries.length c1) v2 (.slice A3 c.sweep.length c3) (.slice A6 (c.out ++ [r]).length c7)) 91 :: Blk BA (askA a bl) 97 :: MapT bl q a.lead :: Row k106 106 (.slice A1 c.call.entries.length c1) c.call.entries :: Row k108 108 v2 c.pieces :: Row (Kd.int .i64) 3 (.slice A3 c.sweep.length c3) c.sweep :: L)) := Aside0.mk h_; clear h_))
 have c15 : w13.cell? ⟨BC, 6, none⟩ = some (.slice A1 c.call.entries.length c1) := S14.out.cell 2 6 rfl rfl
 rcases Bool.eq_false_or_eq_true (sweepsB c.call.kind) with q16 | q16
 ·have Xq16 := Aside0.mk q16
  go_upto_region 4 with (fail)
  clear c15
  have c17 : w13.cell? ⟨BC, 1, none⟩ = some (.int .i64 c.call.kind) := S14.out.cell 2 1 rfl rfl
  go_upto_region 5 with (first | (go_at_call 39; (try simp only [hw1]); (with_reducible refine (sweepsC _ c.call.kind).mono ?_); rintro e1 w19 ⟨rfl, hb_⟩; clear c17; have S18 := Aside0.mk (S14.out.below hb_); clear hb_))
  have c20 : w19.cell? ⟨BC, 14, none⟩ = some (.slice A3 c.sweep.length c3) := S18.out.cell 2 14 rfl rfl
  rcases Decidable.em ((c.step + 1) = (c.sweep.length : Int)) with q21 | q21
  ·have t22 : ((c.step + 1) == (c.sweep.length : Int)) = true := beq_iff_eq.2 q21
   have u23 : ((c.step + 1) != (c.sweep.length : Int)) = false := by rw [bne, t22]; rfl
   have Xq21 := Aside0.mk q21
   clear q21
   go_upto_region 6 with (fail)
   clear c20
   have c24 : w19.cell? ⟨BC, 13, none⟩ = some (.int .i64 (c.step + 1)) := S18.out.cell 2 13 rfl rfl
   go_upto_region 7 with (fail)
   clear c24
   go_wp2_with (first | ((with_reducible refine gate_ (.store 4 (.tmp 61) (.const (.bool false))) rfl ?_); (try simp only [hw1]); refine st_store rfl rfl 4 _ _ rfl rfl rfl (seg := [(.bool false)]) rfl (by kernel_rfl) (by rfl) S18.out 2 rfl (Nat.le_of_ble_eq_true rfl) ?_; intro w25 h_; have S26 : Aside0 (St w0 w25 (Row k42 42 (.slice A6 (c.out ++ [r]).length c7) (c.out ++ [r]) :: Blk g1 #[(.int .i64 r.f0), (.int .i64 r.f1), (.int .i64 r.f2), (.slice B3 r.f3.length d3), (.slice none 0 0), (.slice B5 r.f5.length d5)] 42 :: Blk BC (cliA BA { c with out := (c.out ++ [r]), step := (c.step + 1), works := false } (.slice A1 c.call.entries.length c1) v2 (.slice A3 c.sweep.length c3) (.slice A6 (c.out ++ [r]).length c7)) 91 :: Blk BA (askA a bl) 97 :: MapT bl q a.lead :: Row k106 106 (.slice A1 c.call.entries.length c1) c.call.entries :: Row k108 108 v2 c.pieces :: Row (Kd.int .i64) 3 (.slice A3 c.sweep.length c3) c.sweep :: L)) := Aside0.mk h_; clear h_))
   go_end0
   have HN := Aside0.mk (show (if sweepsB c.call.kind = true then (c.sweep.length : Int) else (c.call.entries.length : Int)) = (c.sweep.length : Int) from if_pos q16)
   have HV := Aside0.mk (show doneV c r = { c with out := c.out ++ [r], step := c.step + 1, works := false } by unfold doneV; rw [HN.out, if_pos (Or.inl Xq21.out)])
   refine HPOST.out _ _ ?_
   unfold DoneT
   rw [HV.out]
   exact ⟨_, rfl, (((((((((S26.out).erase 1).bring 0 rfl).bring 6 rfl).bring 6 rfl).bring 6 rfl).bring 6 rfl).bring 6 rfl).bring 6 rfl)⟩
  ·have t22 : ((c.step + 1) == (c.sweep.length : Int)) = false := beq_eq_false_iff_ne.2 q21
   have u23 : ((c.step + 1) != (c.sweep.length : Int)) = true := by rw [bne, t22]; rfl
   have Xq21 := Aside0.mk q21
   clear q21
   rcases Decidable.em (c.call.kind = 2) with q27 | q27
   ·have t28 : (c.call.kind == 2) = true := beq_iff_eq.2 q27
    have u29 : (c.call.kind != 2) = false := by rw [bne, t28]; rfl
    have Xq27 := Aside0.mk q27
    clear q27
    rcases Decidable.em (0 < (r.f3.length : Int)) with q30 | q30
    ·have t33 : decide (0 < r.f3.length) = true := decide_eq_true (by omega)
     have t31 : decide (0 < (r.f3.length : Int)) = true := decide_eq_true q30
     have Xq30 := Aside0.mk q30
     clear q30
     go_upto_region 6 with (fail)
     clear c20
     have c34 : w19.cell? ⟨BC, 13, none⟩ = some (.int .i64 (c.step + 1)) := S18.out.cell 2 13 rfl rfl
     have c35 : w19.cell? ⟨BC, 1, none⟩ = some (.int .i64 c.call.kind) := S18.out.cell 2 1 rfl rfl
     have c36 : w19.cell? ⟨g1, 3, none⟩ = some (.slice B3 r.f3.length d3) := S18.out.cell 1 3 rfl rfl
     go_upto_region 7 with (fail)
     clear c34 c35 c36
     go_wp2_with (first | ((with_reducible refine gate_ (.store 4 (.tmp 61) (.const (.bool false))) rfl ?_); (try simp only [hw1]); refine st_store rfl rfl 4 _ _ rfl rfl rfl (seg := [(.bool false)]) rfl (by kernel_rfl) (by rfl) S18.out 2 rfl (Nat.le_of_ble_eq_true rfl) ?_; intro w37 h_; have S38 : Aside0 (St w0 w37 (Row k42 42 (.slice A6 (c.out ++ [r]).length c7) (c.out ++ [r]) :: Blk g1 #[(.int .i64 r.f0), (.int .i64 r.f1), (.int .i64 r.f2), (.slice B3 r.f3.length d3), (.slice none 0 0), (.slice B5 r.f5.length d5)] 42 :: Blk BC (cliA BA { c with out := (c.out ++ [r]), step := (c.step + 1), works := false } (.slice A1 c.call.entries.length c1) v2 (.slice A3 c.sweep.length c3) (.slice A6 (c.out ++ [r]).length c7)) 91 :: Blk BA (askA a bl) 97 :: MapT bl q a.lead :: Row k106 106 (.slice A1 c.call.entries.length c1) c.call.entries :: Row k108 108 v2 c.pieces :: Row (Kd.int .i64) 3 (.slice A3 c.sweep.length c3) c.sweep :: L)) := Aside0.mk h_; clear h_))
     go_end0
     have HN := Aside0.mk (show (if sweepsB c.call.kind = true then (c.sweep.length : Int) else (c.call.entries.length : Int)) = (c.sweep.length : Int) from if_pos q16)
     have HV := Aside0.mk (show doneV c r = { c with out := c.out ++ [r], step := c.step + 1, works := false } by unfold doneV; rw [HN.out, if_pos (Or.inr ⟨Xq27.out, by have := Xq30.out; omega⟩)])
     refine HPOST.out _ _ ?_
     unfold DoneT
     rw [HV.out]
     exact ⟨_, rfl, (((((((((S38.out).erase 1).bring 0 rfl).bring 6 rfl).bring 6 rfl).bring 6 rfl).bring 6 rfl).bring 6 rfl).bring 6 rfl)⟩
    ·have t33 : decide (0 < r.f3.length) = false := decide_eq_false (by omega)
     have t31 : decide (0 < (r.f3.length : Int)) = false := decide_eq_false q30
     have Xq30 := Aside0.mk q30
     clear q30
     go_upto_region 6 with (fail)
     clear c20
     have c39 : w19.cell? ⟨BC, 13, none⟩ = some (.int .i64 (c.step + 1)) := S18.out.cell 2 13 rfl rfl
     have c40 : w19.cell? ⟨BC, 1, none⟩ = some (.int .i64 c.call.kind) := S18.out.cell 2 1 rfl rfl
     have c41 : w19.cell? ⟨g1, 3, none⟩ = some (.slice B3 r.f3.length d3) := S18.out.cell 1 3 rfl rfl
     go_wp2_with (fail)
     clear c39 c40 c41
     go_end0
     have HN := Aside0.mk (show (if sweepsB c.call.kind = true then (c.sweep.length : Int) else (c.call.entries.length : Int)) = (c.sweep.length : Int) from if_pos q16)
     have HV := Aside0.mk (show doneV c r = { c with out := c.out ++ [r], step := c.step + 1, works := c.works } by unfold doneV; rw [HN.out, if_neg (fun h => (by rcases h with h | h; exact Xq21.out h; exact absurd h.2 (by have := Xq30.out; omega)))])
     refine HPOST.out _ _ ?_
     unfold DoneT
     rw [HV.out]
     exact ⟨_, rfl, (((((((((S18.out).erase 1).bring 0 rfl).bring 6 rfl).bring 6 rfl).bring 6 rfl).bring 6 rfl).bring 6 rfl).bring 6 rfl)⟩
   ·have t28 : (c.call.kind == 2) = false := beq_eq_false_iff_ne.2 q27
    have u29 : (c.call.kind != 2) = true := by rw [bne, t28]; rfl
    have Xq27 := Aside0.mk q27
    clear q27
    go_upto_region 6 with (fail)
    clear c20
    have c42 : w19.cell? ⟨BC, 13, none⟩ = some (.int .i64 (c.step + 1)) := S18.out.cell 2 13 rfl rfl
    have c43 : w19.cell? ⟨BC, 1, none⟩ = some (.int .i64 c.call.kind) := S18.out.cell 2 1 rfl rfl
    go_wp2_with (fail)
    clear c42 c43
    go_end0
    have HN := Aside0.mk (show (if sweepsB c.call.kind = true then (c.sweep.length : Int) else (c.call.entries.length : Int)) = (c.sweep.length : Int) from if_pos q16)
    have HV := Aside0.mk (show doneV c r = { c with out := c.out ++ [r], step := c.step + 1, works := c.works } by unfold doneV; rw [HN.out, if_neg (fun h => (by rcases h with h | h; exact Xq21.out h; exact Xq27.out h.1))])
    refine HPOST.out _ _ ?_
    unfold DoneT
    rw [HV.out]
    exact ⟨_, rfl, (((((((((S18.out).erase 1).bring 0 rfl).bring 6 rfl).bring 6 rfl).bring 6 rfl).bring 6 rfl).bring 6 rfl).bring 6 rfl)⟩
 ·have Xq16 := Aside0.mk q16
  go_upto_region 4 with (fail)
  clear c15
  have c44 : w13.cell? ⟨BC, 1, none⟩ = some (.int .i64 c.call.kind) := S14.out.cell 2 1 rfl rfl
  rcases Decidable.em ((c.step + 1) = (c.call.entries.length : Int)) with q47 | q47
  ·have t48 : ((c.step + 1) == (c.call.entries.length : Int)) = true := beq_iff_eq.2 q47
   have u49 : ((c.step + 1) != (c.call.entries.length : Int)) = false := by rw [bne, t48]; rfl
   have Xq47 := Aside0.mk q47
   clear q47
   go_upto_region 6 with (first | (go_at_call 39; (try simp only [hw1]); (with_reducible refine (sweepsC _ c.call.kind).mono ?_); rintro e1 w46 ⟨rfl, hb_⟩; clear c44; have S45 := Aside0.mk (S14.out.below hb_); clear hb_))
   have c50 : w46.cell? ⟨BC, 13, none⟩ = some (.int .i64 (c.step + 1)) := S45.out.cell 2 13 rfl rfl
   go_upto_region 7 with (fail)
   clear c50
   go_wp2_with (first | ((with_reducible refine gate_ (.store 4 (.tmp 61) (.const (.bool false))) rfl ?_); (try simp only [hw1]); refine st_store rfl rfl 4 _ _ rfl rfl rfl (seg := [(.bool false)]) rfl (by kernel_rfl) (by rfl) S45.out 2 rfl (Nat.le_of_ble_eq_true rfl) ?_; intro w51 h_; have S52 : Aside0 (St w0 w51 (Row k42 42 (.slice A6 (c.out ++ [r]).length c7) (c.out ++ [r]) :: Blk g1 #[(.int .i64 r.f0), (.int .i64 r.f1), (.int .i64 r.f2), (.slice B3 r.f3.length d3), (.slice none 0 0), (.slice B5 r.f5.length d5)] 42 :: Blk BC (cliA BA { c with out := (c.out ++ [r]), step := (c.step + 1), works := false } (.slice A1 c.call.entries.length c1) v2 (.slice A3 c.sweep.length c3) (.slice A6 (c.out ++ [r]).length c7)) 91 :: Blk BA (askA a bl) 97 :: MapT bl q a.lead :: Row k106 106 (.slice A1 c.call.entries.length c1) c.call.entries :: Row k108 108 v2 c.pieces :: Row (Kd.int .i64) 3 (.slice A3 c.sweep.length c3) c.sweep :: L)) := Aside0.mk h_; clear h_))
   go_end0
   have HN := Aside0.mk (show (if sweepsB c.call.kind = true then (c.sweep.length : Int) else (c.call.entries.length : Int)) = (c.call.entries.length : Int) from if_neg (by rw [q16]; decide))
   have HV := Aside0.mk (show doneV c r = { c with out := c.out ++ [r], step := c.step + 1, works := false } by unfold doneV; rw [HN.out, if_pos (Or.inl Xq47.out)])
   refine HPOST.out _ _ ?_
   unfold DoneT
   rw [HV.out]
   exact ⟨_, rfl, (((((((((S52.out).erase 1).bring 0 rfl).bring 6 rfl).bring 6 rfl).bring 6 rfl).bring 6 rfl).bring 6 rfl).bring 6 rfl)⟩
  ·have t48 : ((c.step + 1) == (c.call.entries.length : Int)) = false := beq_eq_false_iff_ne.2 q47
   have u49 : ((c.step + 1) != (c.call.entries.length : Int)) = true := by rw [bne, t48]; rfl
   have Xq47 := Aside0.mk q47
   clear q47
   rcases Decidable.em (c.call.kind = 2) with q53 | q53
   ·have t54 : (c.call.kind == 2) = true := beq_iff_eq.2 q53
    have u55 : (c.call.kind != 2) = false := by rw [bne, t54]; rfl
    have Xq53 := Aside0.mk q53
    clear q53
    rcases Decidable.em (0 < (r.f3.length : Int)) with q56 | q56
    ·have t59 : decide (0 < r.f3.length) = true := decide_eq_true (by omega)
     have t57 : decide (0 < (r.f3.length : Int)) = true := decide_eq_true q56
     have Xq56 := Aside0.mk q56
     clear q56
     go_upto_region 6 with (first | (go_at_call 39; (try simp only [hw1]); (with_reducible refine (sweepsC _ c.call.kind).mono ?_); rintro e1 w46 ⟨rfl, hb_⟩; clear c44; have S45 := Aside0.mk (S14.out.below hb_); clear hb_))
     have c60 : w46.cell? ⟨BC, 13, none⟩ = some (.int .i64 (c.step + 1)) := S45.out.cell 2 13 rfl rfl
     have c61 : w46.cell? ⟨BC, 1, none⟩ = some (.int .i64 c.call.kind) := S45.out.cell 2 1 rfl rfl
     have c62 : w46.cell? ⟨g1, 3, none⟩ = some (.slice B3 r.f3.length d3) := S45.out.cell 1 3 rfl rfl
     go_upto_region 7 with (fail)
     clear c60 c61 c62
     go_wp2_with (first | ((with_reducible refine gate_ (.store 4 (.tmp 61) (.const (.bool false))) rfl ?_); (try simp only [hw1]); refine st_store rfl rfl 4 _ _ rfl rfl rfl (seg := [(.bool false)]) rfl (by kernel_rfl) (by rfl) S45.out 2 rfl (Nat.le_of_ble_eq_true rfl) ?_; intro w63 h_; have S64 : Aside0 (St w0 w63 (Row k42 42 (.slice A6 (c.out ++ [r]).length c7) (c.out ++ [r]) :: Blk g1 #[(.int .i64 r.f0), (.int .i64 r.f1), (.int .i64 r.f2), (.slice B3 r.f3.length d3), (.slice none 0 0), (.slice B5 r.f5.length d5)] 42 :: Blk BC (cliA BA { c with out := (c.out ++ [r]), step := (c.step + 1), works := false } (.slice A1 c.call.entries.length c1) v2 (.slice A3 c.sweep.length c3) (.slice A6 (c.out ++ [r]).length c7)) 91 :: Blk BA (askA a bl) 97 :: MapT bl q a.lead :: Row k106 106 (.slice A1 c.call.entries.length c1) c.call.entries :: Row k108 108 v2 c.pieces :: Row (Kd.int .i64) 3 (.slice A3 c.sweep.length c3) c.sweep :: L)) := Aside0.mk h_; clear h_))
     go_end0
     have HN := Aside0.mk (show (if sweepsB c.call.kind = true then (c.sweep.length : Int) else (c.call.entries.length : Int)) = (c.call.entries.length : Int) from if_neg (by rw [q16]; decide))
     have HV := Aside0.mk (show doneV c r = { c with out := c.out ++ [r], step := c.step + 1, works := false } by unfold doneV; rw [HN.out, if_pos (Or.inr ⟨Xq53.out, by have := Xq56.out; omega⟩)])
     refine HPOST.out _ _ ?_
     unfold DoneT
     rw [HV.out]
     exact ⟨_, rfl, (((((((((S64.out).erase 1).bring 0 rfl).bring 6 rfl).bring 6 rfl).bring 6 rfl).bring 6 rfl).bring 6 rfl).bring 6 rfl)⟩
    ·have t59 : decide (0 < r.f3.length) = false := decide_eq_false (by omega)
     have t57 : decide (0 < (r.f3.length : Int)) = false := decide_eq_false q56
     have Xq56 := Aside0.mk q56
     clear q56
     go_upto_region 6 with (first | (go_at_call 39; (try simp only [hw1]); (with_reducible refine (sweepsC _ c.call.kind).mono ?_); rintro e1 w46 ⟨rfl, hb_⟩; clear c44; have S45 := Aside0.mk (S14.out.below hb_); clear hb_))
     have c65 : w46.cell? ⟨BC, 13, none⟩ = some (.int .i64 (c.step + 1)) := S45.out.cell 2 13 rfl rfl
     have c66 : w46.cell? ⟨BC, 1, none⟩ = some (.int .i64 c.call.kind) := S45.out.cell 2 1 rfl rfl
     have c67 : w46.cell? ⟨g1, 3, none⟩ = some (.slice B3 r.f3.length d3) := S45.out.cell 1 3 rfl rfl
     go_wp2_with (fail)
     clear c65 c66 c67
     go_end0
     have HN := Aside0.mk (show (if sweepsB c.call.kind = true then (c.sweep.length : Int) else (c.call.entries.length : Int)) = (c.call.entries.length : Int) from if_neg (by rw [q16]; decide))
     have HV := Aside0.mk (show doneV c r = { c with out := c.out ++ [r], step := c.step + 1, works := c.works } by unfold doneV; rw [HN.out, if_neg (fun h => (by rcases h with h | h; exact Xq47.out h; exact absurd h.2 (by have := Xq56.out; omega)))])
     refine HPOST.out _ _ ?_
     unfold DoneT
     rw [HV.out]
     exact ⟨_, rfl, (((((((((S45.out).erase 1).bring 0 rfl).bring 6 rfl).bring 6 rfl).bring 6 rfl).bring 6 rfl).bring 6 rfl).bring 6 rfl)⟩
   ·have t54 : (c.call.kind == 2) = false := beq_eq_false_iff_ne.2 q53
    have u55 : (c.call.kind != 2) = true := by rw [bne, t54]; rfl
    have Xq53 := Aside0.mk q53
    clear q53
    go_upto_region 6 with (first | (go_at_call 39; (try simp only [hw1]); (with_reducible refine (sweepsC _ c.call.kind).mono ?_); rintro e1 w46 ⟨rfl, hb_⟩; clear c44; have S45 := Aside0.mk (S14.out.below hb_); clear hb_))
    have c68 : w46.cell? ⟨BC, 13, none⟩ = some (.int .i64 (c.step + 1)) := S45.out.cell 2 13 rfl rfl
    have c69 : w46.cell? ⟨BC, 1, none⟩ = some (.int .i64 c.call.kind) := S45.out.cell 2 1 rfl rfl
    go_wp2_with (fail)
    clear c68 c69
    go_end0
    have HN := Aside0.mk (show (if sweepsB c.call.kind = true then (c.sweep.length : Int) else (c.call.entries.length : Int)) = (c.call.entries.length : Int) from if_neg (by rw [q16]; decide))
    have HV := Aside0.mk (show doneV c r = { c with out := c.out ++ [r], step := c.step + 1, works := c.works } by unfold doneV; rw [HN.out, if_neg (fun h => (by rcases h with h | h; exact Xq47.out h; exact Xq53.out h.1))])
    refine HPOST.out _ _ ?_
    unfold DoneT
    rw [HV.out]
    exact ⟨_, rfl, (((((((((S45.out).erase 1).bring 0 rfl).bring 6 rfl).bring 6 rfl).bring 6 rfl).bring 6 rfl).bring 6 rfl).bring 6 rfl)⟩
end Go.Proofs.Ytonedijkgddepaa.P
