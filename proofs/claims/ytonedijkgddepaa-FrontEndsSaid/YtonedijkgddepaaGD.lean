/- front.Client, by hand: next, of a call that goes entry by entry. No conditions. -/
import Derived.Test.YtonedijkgddepaaSq
import Derived.Test.YtonedijkgddepaaGC
namespace Go.Proofs.Ytonedijkgddepaa.P
open Go.Sq
open Go.RowKit Go.Maps Go.Proofs.YtonedijkgddepaaW.PrintWords Go.Proofs.YtonedijkgddepaaW.PrintLast Go.Proofs.YtonedijkgddepaaW.PrintMore
set_option linter.unusedVariables false
set_option linter.unusedSimpArgs false

/-- The command of an entry. -/
def cmdV (x : Ca) (y : S106) : S38 := ⟨x.kind, 0, 0, 0, x.queue, y.f0, y.f1, y.f2, x.attempt, x.max, x.secs, y.f3, z35, 0, []⟩
set_option maxHeartbeats 4000000 in
set_option maxRecDepth 100000 in
theorem cliNextSend (w : World) (base BC BA bl q : Nat) (a : As) (c : Cl) (v1 v2 v3 v4 : Value) (h : CliAt w base BC BA bl q a c v1 v2 v3 v4) (hk : a.ok q) (i : Nat) (hst : c.step = (i : Int)) (hi : i < c.call.entries.length) (hsw : sweepsB c.call.kind = false) (r g : Int) (hr : ∃ k, place_Of.f k (entG c.call.kind (c.call.entries.getD i z106)) = some r) (hg : ∃ k, chart_Of.f k c.epoch c.pieces r = some g) :
  Calls Try.prog 36 #[.pointer (some ⟨BC, 0, none⟩)] w fun e' w' => e' = .returned (.tuple #[]) ∧ CliAt w' base BC BA bl (q + 1) (askV a g (cmdV c.call (c.call.entries.getD i z106))).2 c v1 v2 v3 v4 ∧ Upd w w' (SC BC BA bl) := by
 have H := Aside0.mk h
 have HK := Aside0.mk hk
 have HRR := Aside0.mk hr
 have HGG := Aside0.mk hg
 have HSW := Aside0.mk hsw
 have HST := Aside0.mk hst
 have HI0 := Aside0.mk hi
 clear h hk hr hg hsw hst hi
 obtain ⟨A1, c1, rfl⟩ := Kd.R_slice H.out.r1
 obtain ⟨A2, c2, rfl⟩ := Kd.R_slice H.out.r2
 obtain ⟨A1_, c1_, e1_, _, hC1⟩ := Kd.R_reads H.out.r1
 injection e1_ with e1_ _ e3_
 subst e1_
 obtain ⟨ad, e0, y0, y1, y2, y3, y4, y5, y6⟩ := at_T106 hC1 (i : Int) (by omega) (by have := HI0.out; omega)
 cases e0
 simp only [Int.toNat_natCast] at y0 y1 y2 y3 y4 y5 y6
 rw [show rd_T106 c.call.entries (i : Int) = c.call.entries.getD i z106 from by unfold rd_T106; rw [Int.toNat_natCast]] at y0 y1 y2 y3 y4 y5 y6
 clear hC1 e3_
 obtain ⟨y, hy⟩ : ∃ y, y = c.call.entries.getD i z106 := ⟨_, rfl⟩
 rw [← hy] at y0 y1 y2 y3 y4 y5 y6 HRR
 have HYE := Aside0.mk hy
 clear hy
 have HY := Aside0.mk (And.intro y0 (And.intro y1 (And.intro y2 (And.intro y3 (And.intro y4 (And.intro y5 y6))))))
 clear y0 y1 y2 y3 y4 y5 y6
 obtain ⟨A2_, c2_, e2_, hl2, hC2⟩ := Kd.R_reads H.out.r2
 injection e2_ with e2_ _ e4_
 subst e2_
 subst e4_
 have HC2 := Aside0.mk (And.intro hl2 hC2)
 clear hl2 hC2
 go_enter Try.func36, Try.ntmps36
 go_wp2
 refine start_ (n := 28) (S := fun w' => Below w.heap.size w w') (ds := [27]) (bq 28 0) (by kernel_rfl) rfl rfl (below_drew (Below.refl _ _)) (fun hHeld => ?_)
 generalize w.drew = wd at  hHeld ⊢
 refine pu 0 4 (bq 28 1) ?_ rfl rfl (by kernel_rfl) (fun _ _ _ h => h) (by rfl) ?_ ?_ ?_ ?_
 rotate_left
 ·intro w'; go_simp; with_reducible rfl
 rotate_left
 ·simp only [Act.put, sqA, sqB, sqC, i64_w, i32_w]
  rfl
 refine pu 1 5 (bq 28 3) ?_ rfl rfl (by kernel_rfl) (fun _ _ _ h => h) (by rfl) ?_ ?_ ?_ ?_
 rotate_left
 ·intro w'; go_simp; with_reducible rfl
 rotate_left
 ·simp only [Act.put, sqA, sqB, sqC, i64_w, i32_w]
  rfl
 refine pu 2 6 (bq 28 7) ?_ rfl rfl (by kernel_rfl) (fun _ _ _ h => h) (by rfl) ?_ ?_ ?_ ?_
 rotate_left
 ·intro w'; go_simp; with_reducible rfl
 rotate_left
 ·simp only [Act.put, sqA, sqB, sqC, i64_w, i32_w]
  rfl
 refine pu 3 7 (bq 28 15) ?_ rfl rfl (by kernel_rfl) (fun _ _ _ h => h) (by rfl) ?_ ?_ ?_ ?_
 rotate_left
 ·intro w'; go_simp; with_reducible rfl
 rotate_left
 ·simp only [Act.put, sqA, sqB, sqC, i64_w, i32_w]
  rfl
 refine pu 5 9 (bq 28 47) ?_ rfl rfl (by kernel_rfl) (fun _ _ _ h => h) (by rfl) ?_ ?_ ?_ ?_
 rotate_left
 ·intro w'; go_simp; with_reducible rfl
 rotate_left
 ·simp only [Act.put, sqA, sqB, sqC, i64_w, i32_w]
  rfl
 refine pu 6 10 (bq 28 111) ?_ rfl rfl (by kernel_rfl) (fun _ _ _ h => h) (by rfl) ?_ ?_ ?_ ?_
 rotate_left
 ·intro w'; go_simp; with_reducible rfl
 rotate_left
 ·simp only [Act.put, sqA, sqB, sqC, i64_w, i32_w]
  rfl
 refine pu 7 11 (bq 28 239) ?_ rfl rfl (by kernel_rfl) (fun _ _ _ h => h) (by rfl) ?_ ?_ ?_ ?_
 rotate_left
 ·intro w'; go_simp; with_reducible rfl
 rotate_left
 ·simp only [Act.put, sqA, sqB, sqC, i64_w, i32_w]
  rfl
 refine pu 8 12 (bq 28 495) ?_ rfl rfl (by kernel_rfl) (fun _ _ _ h => h) (by rfl) ?_ ?_ ?_ ?_
 rotate_left
 ·intro w'; go_simp; with_reducible rfl
 rotate_left
 ·simp only [Act.put, sqA, sqB, sqC, i64_w, i32_w]
  rfl
 refine pu 10 14 (bq 28 1519) ?_ rfl rfl (by kernel_rfl) (fun _ _ _ h => h) (by rfl) ?_ ?_ ?_ ?_
 rotate_left
 ·intro w'; go_simp; with_reducible rfl
 rotate_left
 ·simp only [Act.put, sqA, sqB, sqC, i64_w, i32_w]
  rfl
 refine pu 11 15 (bq 28 3567) ?_ rfl rfl (by kernel_rfl) (fun _ _ _ h => h) (by rfl) ?_ ?_ ?_ ?_
 rotate_left
 ·intro w'; go_simp; with_reducible rfl
 rotate_left
 ·simp only [Act.put, sqA, sqB, sqC, i64_w, i32_w]
  rfl
 refine pu 12 16 (bq 28 7663) ?_ rfl rfl (by kernel_rfl) (fun _ _ _ h => h) (by rfl) ?_ ?_ ?_ ?_
 rotate_left
 ·intro w'; go_simp; with_reducible rfl
 rotate_left
 ·simp only [Act.put, sqA, sqB, sqC, i64_w, i32_w]
  rfl
 refine pu 13 17 (bq 28 15855) ?_ rfl rfl (by kernel_rfl) (fun _ _ _ h => h) (by rfl) ?_ ?_ ?_ ?_
 rotate_left
 ·intro w'; go_simp; with_reducible rfl
 rotate_left
 ·simp only [Act.put, sqA, sqB, sqC, i64_w, i32_w]
  rfl
 refine pu 15 19 (bq 28 48623) ?_ rfl rfl (by kernel_rfl) (fun _ _ _ h => h) (by rfl) ?_ ?_ ?_ ?_
 rotate_left
 ·intro w'; go_simp; with_reducible rfl
 rotate_left
 ·simp only [Act.put, sqA, sqB, sqC, i64_w, i32_w]
  rfl
 refine pu 16 20 (bq 28 114159) ?_ rfl rfl (by kernel_rfl) (fun _ _ _ h => h) (by rfl) ?_ ?_ ?_ ?_
 rotate_left
 ·intro w'; go_simp; with_reducible rfl
 rotate_left
 ·simp only [Act.put, sqA, sqB, sqC, i64_w, i32_w]
  rfl
 refine pu 17 21 (bq 28 245231) ?_ rfl rfl (by kernel_rfl) (fun _ _ _ h => h) (by rfl) ?_ ?_ ?_ ?_
 rotate_left
 ·intro w'; go_simp; with_reducible rfl
 rotate_left
 ·simp only [Act.put, sqA, sqB, sqC, i64_w, i32_w]
  rfl
 refine pu 18 22 (bq 28 507375) ?_ rfl rfl (by kernel_rfl) (fun _ _ _ h => h) (by rfl) ?_ ?_ ?_ ?_
 rotate_left
 ·intro w'; go_simp; with_reducible rfl
 rotate_left
 ·simp only [Act.put, sqA, sqB, sqC, i64_w, i32_w]
  rfl
 refine pu 20 24 (bq 28 1555951) ?_ rfl rfl (by kernel_rfl) (fun _ _ _ h => h) (by rfl) ?_ ?_ ?_ ?_
 rotate_left
 ·intro w'; go_simp; with_reducible rfl
 rotate_left
 ·simp only [Act.put, sqA, sqB, sqC, i64_w, i32_w]
  rfl
 refine pu 21 25 (bq 28 3653103) ?_ rfl rfl (by kernel_rfl) (fun _ _ _ h => h) (by rfl) ?_ ?_ ?_ ?_
 rotate_left
 ·intro w'; go_simp; with_reducible rfl
 rotate_left
 ·simp only [Act.put, sqA, sqB, sqC, i64_w, i32_w]
  rfl
 refine pu 22 26 (bq 28 7847407) ?_ rfl rfl (by kernel_rfl) (fun _ _ _ h => h) (by rfl) ?_ ?_ ?_ ?_
 rotate_left
 ·intro w'; go_simp; with_reducible rfl
 rotate_left
 ·simp only [Act.put, sqA, sqB, sqC, i64_w, i32_w]
  rfl
 refine pu 23 27 (bq 28 16236015) ?_ rfl rfl (by kernel_rfl) (fun _ _ _ h => h) (by rfl) ?_ ?_ ?_ ?_
 rotate_left
 ·intro w'; go_simp; with_reducible rfl
 rotate_left
 ·simp only [Act.put, sqA, sqB, sqC, i64_w, i32_w]
  rfl
 refine tk 4 8 (bq 28 16236031) ?_ rfl rfl (by kernel_rfl) (fun _ _ _ h => h) (by rfl) ?_ hHeld ?_ ?_ ?_
 rotate_left
 ·intro w' hw'
  have s0 := (blk_cell (blk_below H.out.blk hw') 1).trans (show _ = some (.int .i64 c.call.kind) from rfl)
  go_simp
  with_reducible rfl
 rotate_left
 ·simp only [Act.put, sqA, sqB, sqC, i64_w, i32_w]
  rfl
 refine tk 9 13 (bq 28 16236543) ?_ rfl rfl (by kernel_rfl) (fun _ _ _ h => h) (by rfl) ?_ hHeld ?_ ?_ ?_
 rotate_left
 ·intro w' hw'
  have s0 := (blk_cell (blk_below H.out.blk hw') 2).trans (show _ = some (.int .i64 c.call.queue) from rfl)
  go_simp
  with_reducible rfl
 rotate_left
 ·simp only [Act.put, sqA, sqB, sqC, i64_w, i32_w]
  rfl
 refine tk 14 18 (bq 28 16252927) ?_ rfl rfl (by kernel_rfl) (fun _ _ _ h => h) (by rfl) ?_ hHeld ?_ ?_ ?_
 rotate_left
 ·intro w' hw'
  have s0 := (blk_cell (blk_below H.out.blk hw') 3).trans (show _ = some (.int .i64 c.call.max) from rfl)
  go_simp
  with_reducible rfl
 rotate_left
 ·simp only [Act.put, sqA, sqB, sqC, i64_w, i32_w]
  rfl
 refine tk 19 23 (bq 28 16777215) ?_ rfl rfl (by kernel_rfl) (fun _ _ _ h => h) (by rfl) ?_ hHeld ?_ ?_ ?_
 rotate_left
 ·intro w' hw'
  have s0 := (blk_cell (blk_below H.out.blk hw') 4).trans (show _ = some (.int .i64 c.call.secs) from rfl)
  go_simp
  with_reducible rfl
 rotate_left
 ·simp only [Act.put, sqA, sqB, sqC, i64_w, i32_w]
  rfl
 refine tk 24 28 (bq 28 33554431) ?_ rfl rfl (by kernel_rfl) (fun _ _ _ h => h) (by rfl) ?_ hHeld ?_ ?_ ?_
 rotate_left
 ·intro w' hw'
  have s0 := (blk_cell (blk_below H.out.blk hw') 5).trans (show _ = some (.string c.call.attempt) from rfl)
  go_simp
  with_reducible rfl
 rotate_left
 ·simp only [Act.put, sqA, sqB, sqC, i64_w, i32_w]
  rfl
 refine pu 25 29 (bq 28 67108863) ?_ rfl rfl (by kernel_rfl) (fun _ _ _ h => h) (by rfl) ?_ ?_ ?_ ?_
 rotate_left
 ·intro w'; go_simp; with_reducible rfl
 rotate_left
 ·simp only [Act.put, sqA, sqB, sqC, i64_w, i32_w]
  rfl
 refine one_ (i := 26) (N := some 2) (bq 28 134217727) rfl rfl (by kernel_rfl) (by decide) (fun K hK => ?_)
 refine box_step (by rfl) (N := 2) rfl (cs := #[(.int .i64 0), (.int .i64 0), (.int .i64 0), (.int .i64 0), (.int .i64 0), (.string (⟨#[]⟩ : ByteArray)), (.string (⟨#[]⟩ : ByteArray)), (.string (⟨#[]⟩ : ByteArray)), (.string (⟨#[]⟩ : ByteArray)), (.int .i64 0), (.int .i64 0), (.int .i64 0), (.string (⟨#[]⟩ : ByteArray)), (.int .i64 0), (.int .i64 0), (.int .i64 0), (.int .i64 0), (.int .i64 0), (.slice none 0 0)]) (t := 38) ?_ ?_
 ·first | (go_simp; done) | (go_simp; rfl)
 intro gm hg_ w1 hbox_ hbel_
 have HM := Aside0.mk hbox_
 have HL := Aside0.mk hbel_
 have HG := Aside0.mk hg_
 have HH0 := Aside0.mk hHeld
 refine hK.out _ _ (hHeld.trans (hbel_.mono hHeld.size)) ?_
 clear hHeld
 intro hHeld
 clear hK K hbox_ hbel_ hg_
 refine norm_ (a' := ?_) ?_ ?_
 rotate_left
 ·show Act.put _ (some 2) _ = _; simp only [Act.put, sqA, sqB, sqC, i64_w, i32_w]
  rfl
 refine last_ (i := 27) (N := none) (bq 28 268435455) rfl rfl (by kernel_rfl) (by decide) (fun K hK => ?_)
 refine store_step (by rfl) rfl 38 _ _ rfl gm 0 [(.int .i64 c.call.kind), (.int .i64 0), (.int .i64 0), (.int .i64 0), (.int .i64 c.call.queue), (.string (⟨#[]⟩ : ByteArray)), (.string (⟨#[]⟩ : ByteArray)), (.string (⟨#[]⟩ : ByteArray)), (.string c.call.attempt), (.int .i64 c.call.max), (.int .i64 c.call.secs), (.int .i64 0), (.string (⟨#[]⟩ : ByteArray)), (.int .i64 0), (.int .i64 0), (.int .i64 0), (.int .i64 0), (.int .i64 0), (.slice none 0 0)] rfl rfl HM.out (Nat.le_of_ble_eq_true rfl) (by kernel_rfl) (by rfl) #[(.int .i64 c.call.kind), (.int .i64 0), (.int .i64 0), (.int .i64 0), (.int .i64 c.call.queue), (.string (⟨#[]⟩ : ByteArray)), (.string (⟨#[]⟩ : ByteArray)), (.string (⟨#[]⟩ : ByteArray)), (.string c.call.attempt), (.int .i64 c.call.max), (.int .i64 c.call.secs), (.int .i64 0), (.string (⟨#[]⟩ : ByteArray)), (.int .i64 0), (.int .i64 0), (.int .i64 0), (.int .i64 0), (.int .i64 0), (.slice none 0 0)] (by rfl) ?_
 intro w2 hb_ hu_
 have HM2 := Aside0.mk hb_
 have HU2 := Aside0.mk hu_
 refine hK.out _ _ ?_
 clear hK K hb_ hu_
 refine done_ (by kernel_rfl) ?_
 have B2 := Aside0.mk (show Below w.heap.size w w2 from by
  have hU := (Upd.of_below hHeld (fun _ => False)).trans HU2.out (fun k hk => Or.inr (by have h3 : k = gm := hk; have h4 := HG.out; have h5 := HH0.out.size; omega))
  exact ⟨hU.os, hU.tape, hU.output, hU.kept.1, fun k hk => hU.kept.2 k hk (fun h => h)⟩)
 have GMW := Aside0.mk (show w.heap.size ≤ gm from by have h4 := HG.out; have h5 := HH0.out.size; omega)
 have H2 := Aside0.mk (H.out.below B2.out)
 clear hHeld HH0 HL HM HU2
 have a1 : w2.cell? ⟨BC, 1, none⟩ = some (.int .i64 c.call.kind) := (blk_cell H2.out.blk 1).trans rfl
 go_upto_region 5 with (go_at_call 39; (with_reducible refine (sweepsC _ c.call.kind).mono ?_); rintro e1 w3 ⟨rfl, hws_⟩; have B3 := Aside0.mk hws_; clear hws_; rw [HSW.out])
 have H3 := Aside0.mk (H2.out.below B3.out)
 have HM3 := Aside0.mk (blk_below HM2.out B3.out)
 have BW3 := Aside0.mk (B2.out.trans (B3.out.mono B2.out.size))
 clear a1
 have hlm : i < c.call.entries.length := HI0.out
 have hlmz : (i : Int) < (c.call.entries.length : Int) := by omega
 have hz0 : (0 : Int) ≤ (i : Int) := by omega
 have f1 : decide (i < c.call.entries.length) = true := decide_eq_true hlm
 go_wp2
 refine start_ (n := 13) (S := fun w' => Below w3.heap.size w3 w') (ds := [12]) (bq 13 0) (by kernel_rfl) rfl rfl (below_drew (Below.refl _ _)) (fun hHeld => ?_)
 generalize w3.drew = wd5 at  hHeld ⊢
 refine pu 0 65 (bq 13 1) ?_ rfl rfl (by kernel_rfl) (fun _ _ _ h => h) (by rfl) ?_ ?_ ?_ ?_
 rotate_left
 ·intro w'; go_simp; with_reducible rfl
 rotate_left
 ·simp only [Act.put, sqA, sqB, sqC, i64_w, i32_w]
  rfl
 refine pu 1 66 (bq 13 3) ?_ rfl rfl (by kernel_rfl) (fun _ _ _ h => h) (by rfl) ?_ ?_ ?_ ?_
 rotate_left
 ·intro w'; go_simp; with_reducible rfl
 rotate_left
 ·simp only [Act.put, sqA, sqB, sqC, i64_w, i32_w]
  rfl
 refine pu 2 67 (bq 13 7) ?_ rfl rfl (by kernel_rfl) (fun _ _ _ h => h) (by rfl) ?_ ?_ ?_ ?_
 rotate_left
 ·intro w'; go_simp; with_reducible rfl
 rotate_left
 ·simp only [Act.put, sqA, sqB, sqC, i64_w, i32_w]
  rfl
 refine pu 3 68 (bq 13 15) ?_ rfl rfl (by kernel_rfl) (fun _ _ _ h => h) (by rfl) ?_ ?_ ?_ ?_
 rotate_left
 ·intro w'; go_simp; with_reducible rfl
 rotate_left
 ·simp only [Act.put, sqA, sqB, sqC, i64_w, i32_w]
  rfl
 refine pu 5 70 (bq 13 47) ?_ rfl rfl (by kernel_rfl) (fun _ _ _ h => h) (by rfl) ?_ ?_ ?_ ?_
 rotate_left
 ·intro w'; go_simp; with_reducible rfl
 rotate_left
 ·simp only [Act.put, sqA, sqB, sqC, i64_w, i32_w]
  rfl
 refine pu 6 71 (bq 13 111) ?_ rfl rfl (by kernel_rfl) (fun _ _ _ h => h) (by rfl) ?_ ?_ ?_ ?_
 rotate_left
 ·intro w'; go_simp; with_reducible rfl
 rotate_left
 ·simp only [Act.put, sqA, sqB, sqC, i64_w, i32_w]
  rfl
 refine pu 7 72 (bq 13 239) ?_ rfl rfl (by kernel_rfl) (fun _ _ _ h => h) (by rfl) ?_ ?_ ?_ ?_
 rotate_left
 ·intro w'; go_simp; with_reducible rfl
 rotate_left
 ·simp only [Act.put, sqA, sqB, sqC, i64_w, i32_w]
  rfl
 refine tk 4 69 (bq 13 255) ?_ rfl rfl (by kernel_rfl) (fun _ _ _ h => h) (by rfl) ?_ hHeld ?_ ?_ ?_
 rotate_left
 ·intro w' hw'
  have s0 := (blk_cell (blk_below H3.out.blk hw') 6).trans (show _ = some (.slice (some ad) c.call.entries.length c1) from rfl)
  go_simp
  with_reducible rfl
 rotate_left
 ·simp only [Act.put, sqA, sqB, sqC, i64_w, i32_w]
  rfl
 refine tk 8 73 (bq 13 511) ?_ rfl rfl (by kernel_rfl) (fun _ _ _ h => h) (by rfl) ?_ hHeld ?_ ?_ ?_
 rotate_left
 ·intro w' hw'
  have s0 := (blk_cell (blk_below H3.out.blk hw') 13).trans (show _ = some (.int .i64 (i : Int)) from by rw [← HST.out]; rfl)
  go_simp
  with_reducible rfl
 rotate_left
 ·simp only [Act.put, sqA, sqB, sqC, i64_w, i32_w]
  rfl
 refine pu 9 74 (bq 13 1023) ?_ rfl rfl (by kernel_rfl) (fun _ _ _ h => h) (by rfl) ?_ ?_ ?_ ?_
 rotate_left
 ·intro w'; go_simp; with_reducible rfl
 rotate_left
 ·simp only [Act.put, sqA, sqB, sqC, i64_w, i32_w]
  rfl
 refine tk 10 75 (bq 13 2047) ?_ rfl rfl (by kernel_rfl) (fun _ _ _ h => h) (by rfl) ?_ hHeld ?_ ?_ ?_
 rotate_left
 ·intro w' hw'
  have hb_ := BW3.out.trans (hw'.mono BW3.out.size)
  have s0 := pw_cell_below hb_ HY.out.1
  have s1 := pw_cell_below hb_ HY.out.2.1
  have s2 := pw_cell_below hb_ HY.out.2.2.1
  have s3 := pw_cell_below hb_ HY.out.2.2.2.1
  have s4 := pw_cell_below hb_ HY.out.2.2.2.2.1
  have s5 := pw_cell_below hb_ HY.out.2.2.2.2.2.1
  have s6 := pw_cell_below hb_ HY.out.2.2.2.2.2.2
  go_simp
  with_reducible rfl
 rotate_left
 ·simp only [Act.put, sqA, sqB, sqC, i64_w, i32_w]
  rfl
 refine one_ (i := 11) (N := some 3) (bq 13 4095) rfl rfl (by kernel_rfl) (by decide) (fun K hK => ?_)
 refine box_step (by rfl) (N := 3) rfl (cs := #[(.string (⟨#[]⟩ : ByteArray)), (.string (⟨#[]⟩ : ByteArray)), (.string (⟨#[]⟩ : ByteArray)), (.int .i64 0), (.string (⟨#[]⟩ : ByteArray)), (.int .i64 0), (.int .i64 0)]) (t := 106) ?_ ?_
 ·first | (go_simp; done) | (go_simp; rfl)
 intro gy hg_ w5 hbox_ hbel_
 have HM5 := Aside0.mk hbox_
 have HG5 := Aside0.mk hg_
 have HH5 := Aside0.mk hHeld
 have HL5 := Aside0.mk hbel_
 refine hK.out _ _ (hHeld.trans (hbel_.mono hHeld.size)) ?_
 clear hHeld
 intro hHeld
 clear hK K hbox_ hbel_ hg_
 refine norm_ (a' := ?_) ?_ ?_
 rotate_left
 ·show Act.put _ (some 3) _ = _; simp only [Act.put, sqA, sqB, sqC, i64_w, i32_w]
  rfl
 refine last_ (i := 12) (N := none) (bq 13 8191) rfl rfl (by kernel_rfl) (by decide) (fun K hK => ?_)
 refine store_step (by rfl) rfl 106 _ _ rfl gy 0 [(.string y.f0), (.string y.f1), (.string y.f2), (.int .i64 y.f3.f0), (.string y.f3.f1), (.int .i64 y.f3.f2), (.int .i64 y.f3.f3)] rfl rfl HM5.out (Nat.le_of_ble_eq_true rfl) (by kernel_rfl) (by rfl) #[(.string y.f0), (.string y.f1), (.string y.f2), (.int .i64 y.f3.f0), (.string y.f3.f1), (.int .i64 y.f3.f2), (.int .i64 y.f3.f3)] (by rfl) ?_
 intro w6 hb_ hu_
 have HY6 := Aside0.mk hb_
 have HU6 := Aside0.mk hu_
 refine hK.out _ _ ?_
 clear hK K hb_ hu_
 refine done_ (by kernel_rfl) ?_
 have B6 := Aside0.mk (show Below w3.heap.size w3 w6 from by
  have hU := (Upd.of_below hHeld (fun _ => False)).trans HU6.out (fun k hk => Or.inr (by have h3 : k = gy := hk; have h4 := HG5.out; have h5 := HH5.out.size; omega))
  exact ⟨hU.os, hU.tape, hU.output, hU.kept.1, fun k hk => hU.kept.2 k hk (fun h => h)⟩)
 have H6 := Aside0.mk (H3.out.below B6.out)
 have HM6 := Aside0.mk (blk_below HM3.out B6.out)
 have BW6 := Aside0.mk (BW3.out.trans (B6.out.mono BW3.out.size))
 have NG := Aside0.mk (show gy ≠ gm from fun e => by have h1 := blk_lt HM3.out; have h2 := HG5.out; have h3 := HH5.out.size; omega)
 skip
 clear hHeld HH5 HM5 HU6 HL5 H3 HM3 hlm hlmz hz0 f1
 go_wp2
 have HM6d := Aside0.mk (blk_drew HM6.out)
 have H6d := Aside0.mk (H6.out.below (below_drew (Below.refl w6.heap.size w6)))
 have BW6d := Aside0.mk (below_drew BW6.out)
 clear HM6 H6 BW6
 refine start_ (n := 16) (S := fun w' => w'.heap[gy]? = some (.cells #[(.string y.f0), (.string y.f1), (.string y.f2), (.int .i64 y.f3.f0), (.string y.f3.f1), (.int .i64 y.f3.f2), (.int .i64 y.f3.f3)] 106 (0, 0))) (ds := [15]) (bq 16 0) (by kernel_rfl) rfl rfl HY6.out (fun hHeld => ?_)
 generalize w6.drew = w7 at HM6d H6d BW6d hHeld ⊢
 refine pu 0 76 (bq 16 1) ?_ rfl rfl (by kernel_rfl) (fun _ _ _ h => h) (by rfl) ?_ ?_ ?_ ?_
 rotate_left
 ·intro w'; go_simp; with_reducible rfl
 rotate_left
 ·simp only [Act.put, sqA, sqB, sqC, i64_w, i32_w]
  rfl
 refine pu 2 78 (bq 16 5) ?_ rfl rfl (by kernel_rfl) (fun _ _ _ h => h) (by rfl) ?_ ?_ ?_ ?_
 rotate_left
 ·intro w'; go_simp; with_reducible rfl
 rotate_left
 ·simp only [Act.put, sqA, sqB, sqC, i64_w, i32_w]
  rfl
 refine pu 4 80 (bq 16 21) ?_ rfl rfl (by kernel_rfl) (fun _ _ _ h => h) (by rfl) ?_ ?_ ?_ ?_
 rotate_left
 ·intro w'; go_simp; with_reducible rfl
 rotate_left
 ·simp only [Act.put, sqA, sqB, sqC, i64_w, i32_w]
  rfl
 refine pu 6 82 (bq 16 85) ?_ rfl rfl (by kernel_rfl) (fun _ _ _ h => h) (by rfl) ?_ ?_ ?_ ?_
 rotate_left
 ·intro w'; go_simp; with_reducible rfl
 rotate_left
 ·simp only [Act.put, sqA, sqB, sqC, i64_w, i32_w]
  rfl
 refine tk 1 77 (bq 16 87) ?_ rfl rfl (by kernel_rfl) (fun _ _ _ h => h) (by rfl) ?_ hHeld ?_ ?_ ?_
 rotate_left
 ·intro w' hw'
  have s0 := (blk_cell hw' 0).trans (show _ = some (.string y.f0) from rfl)
  go_simp
  with_reducible rfl
 rotate_left
 ·simp only [Act.put, sqA, sqB, sqC, i64_w, i32_w]
  rfl
 refine pu 8 84 (bq 16 343) ?_ rfl rfl (by kernel_rfl) (fun _ _ _ h => h) (by rfl) ?_ ?_ ?_ ?_
 rotate_left
 ·intro w'; go_simp; with_reducible rfl
 rotate_left
 ·simp only [Act.put, sqA, sqB, sqC, i64_w, i32_w]
  rfl
 refine tk 3 79 (bq 16 351) ?_ rfl rfl (by kernel_rfl) (fun _ _ _ h => h) (by rfl) ?_ hHeld ?_ ?_ ?_
 rotate_left
 ·intro w' hw'
  have s1 := (blk_cell hw' 1).trans (show _ = some (.string y.f1) from rfl)
  go_simp
  with_reducible rfl
 rotate_left
 ·simp only [Act.put, sqA, sqB, sqC, i64_w, i32_w]
  rfl
 refine tk 5 81 (bq 16 383) ?_ rfl rfl (by kernel_rfl) (fun _ _ _ h => h) (by rfl) ?_ hHeld ?_ ?_ ?_
 rotate_left
 ·intro w' hw'
  have s2 := (blk_cell hw' 2).trans (show _ = some (.string y.f2) from rfl)
  go_simp
  with_reducible rfl
 rotate_left
 ·simp only [Act.put, sqA, sqB, sqC, i64_w, i32_w]
  rfl
 refine tk 7 83 (bq 16 511) ?_ rfl rfl (by kernel_rfl) (fun _ _ _ h => h) (by rfl) ?_ hHeld ?_ ?_ ?_
 rotate_left
 ·intro w' hw'
  have s3 := (blk_cell hw' 3).trans (show _ = some (.int .i64 y.f3.f0) from rfl)
  have s4 := (blk_cell hw' 4).trans (show _ = some (.string y.f3.f1) from rfl)
  have s5 := (blk_cell hw' 5).trans (show _ = some (.int .i64 y.f3.f2) from rfl)
  have s6 := (blk_cell hw' 6).trans (show _ = some (.int .i64 y.f3.f3) from rfl)
  go_simp
  with_reducible rfl
 rotate_left
 ·simp only [Act.put, sqA, sqB, sqC, i64_w, i32_w]
  rfl
 refine one_ (i := 9) (N := none) (bq 16 1023) rfl rfl (by kernel_rfl) (by decide) (fun K hK => ?_)
 have x1 := (blk_cell HM6d.out 5).trans (show _ = some (.string (⟨#[]⟩ : ByteArray)) from rfl)
 have xz := blk_frozen HM6d.out 5
 refine skip_ (w1 := (w7.setCell ⟨gm, 5, none⟩ (.string y.f0))) (by rfl) rfl ?_ ?_
 ·go_simp
 have HM6_9 := Aside0.mk (show (w7.setCell ⟨gm, 5, none⟩ (.string y.f0)).heap[gm]? = some (.cells #[(.int .i64 c.call.kind), (.int .i64 0), (.int .i64 0), (.int .i64 0), (.int .i64 c.call.queue), (.string y.f0), (.string (⟨#[]⟩ : ByteArray)), (.string (⟨#[]⟩ : ByteArray)), (.string c.call.attempt), (.int .i64 c.call.max), (.int .i64 c.call.secs), (.int .i64 0), (.string (⟨#[]⟩ : ByteArray)), (.int .i64 0), (.int .i64 0), (.int .i64 0), (.int .i64 0), (.int .i64 0), (.slice none 0 0)] 38 (0, 0)) from blk_set HM6d.out 5 _)
 refine hK.out _ _ (blk_far hHeld (p := ⟨gm, 5, none⟩) NG.out _) ?_
 clear hHeld
 intro hHeld
 clear hK K x1 xz
 refine pu 10 85 (bq 16 2047) ?_ rfl rfl (by kernel_rfl) (fun _ _ _ h => h) (by rfl) ?_ ?_ ?_ ?_
 rotate_left
 ·intro w'; go_simp; with_reducible rfl
 rotate_left
 ·simp only [Act.put, sqA, sqB, sqC, i64_w, i32_w]
  rfl
 refine one_ (i := 11) (N := none) (bq 16 4095) rfl rfl (by kernel_rfl) (by decide) (fun K hK => ?_)
 have x1 := (blk_cell HM6_9.out 6).trans (show _ = some (.string (⟨#[]⟩ : ByteArray)) from rfl)
 have xz := blk_frozen HM6_9.out 6
 refine skip_ (w1 := ((w7.setCell ⟨gm, 5, none⟩ (.string y.f0)).setCell ⟨gm, 6, none⟩ (.string y.f1))) (by rfl) rfl ?_ ?_
 ·go_simp
 have HM6_11 := Aside0.mk (show ((w7.setCell ⟨gm, 5, none⟩ (.string y.f0)).setCell ⟨gm, 6, none⟩ (.string y.f1)).heap[gm]? = some (.cells #[(.int .i64 c.call.kind), (.int .i64 0), (.int .i64 0), (.int .i64 0), (.int .i64 c.call.queue), (.string y.f0), (.string y.f1), (.string (⟨#[]⟩ : ByteArray)), (.string c.call.attempt), (.int .i64 c.call.max), (.int .i64 c.call.secs), (.int .i64 0), (.string (⟨#[]⟩ : ByteArray)), (.int .i64 0), (.int .i64 0), (.int .i64 0), (.int .i64 0), (.int .i64 0), (.slice none 0 0)] 38 (0, 0)) from blk_set HM6_9.out 6 _)
 refine hK.out _ _ (blk_far hHeld (p := ⟨gm, 6, none⟩) NG.out _) ?_
 clear hHeld
 intro hHeld
 clear hK K x1 xz
 refine pu 12 86 (bq 16 8191) ?_ rfl rfl (by kernel_rfl) (fun _ _ _ h => h) (by rfl) ?_ ?_ ?_ ?_
 rotate_left
 ·intro w'; go_simp; with_reducible rfl
 rotate_left
 ·simp only [Act.put, sqA, sqB, sqC, i64_w, i32_w]
  rfl
 refine one_ (i := 13) (N := none) (bq 16 16383) rfl rfl (by kernel_rfl) (by decide) (fun K hK => ?_)
 have x1 := (blk_cell HM6_11.out 7).trans (show _ = some (.string (⟨#[]⟩ : ByteArray)) from rfl)
 have xz := blk_frozen HM6_11.out 7
 refine skip_ (w1 := (((w7.setCell ⟨gm, 5, none⟩ (.string y.f0)).setCell ⟨gm, 6, none⟩ (.string y.f1)).setCell ⟨gm, 7, none⟩ (.string y.f2))) (by rfl) rfl ?_ ?_
 ·go_simp
 have HM6_13 := Aside0.mk (show (((w7.setCell ⟨gm, 5, none⟩ (.string y.f0)).setCell ⟨gm, 6, none⟩ (.string y.f1)).setCell ⟨gm, 7, none⟩ (.string y.f2)).heap[gm]? = some (.cells #[(.int .i64 c.call.kind), (.int .i64 0), (.int .i64 0), (.int .i64 0), (.int .i64 c.call.queue), (.string y.f0), (.string y.f1), (.string y.f2), (.string c.call.attempt), (.int .i64 c.call.max), (.int .i64 c.call.secs), (.int .i64 0), (.string (⟨#[]⟩ : ByteArray)), (.int .i64 0), (.int .i64 0), (.int .i64 0), (.int .i64 0), (.int .i64 0), (.slice none 0 0)] 38 (0, 0)) from blk_set HM6_11.out 7 _)
 refine hK.out _ _ (blk_far hHeld (p := ⟨gm, 7, none⟩) NG.out _) ?_
 clear hHeld
 intro hHeld
 clear hK K x1 xz
 refine pu 14 87 (bq 16 32767) ?_ rfl rfl (by kernel_rfl) (fun _ _ _ h => h) (by rfl) ?_ ?_ ?_ ?_
 rotate_left
 ·intro w'; go_simp; with_reducible rfl
 rotate_left
 ·simp only [Act.put, sqA, sqB, sqC, i64_w, i32_w]
  rfl
 refine last_ (i := 15) (N := none) (bq 16 65535) rfl rfl (by kernel_rfl) (by decide) (fun K hK => ?_)
 refine store_step (by rfl) rfl 33 _ _ rfl gm 11 [(.int .i64 y.f3.f0), (.string y.f3.f1), (.int .i64 y.f3.f2), (.int .i64 y.f3.f3)] rfl rfl HM6_13.out (Nat.le_of_ble_eq_true rfl) (by kernel_rfl) (by rfl) #[(.int .i64 c.call.kind), (.int .i64 0), (.int .i64 0), (.int .i64 0), (.int .i64 c.call.queue), (.string y.f0), (.string y.f1), (.string y.f2), (.string c.call.attempt), (.int .i64 c.call.max), (.int .i64 c.call.secs), (.int .i64 y.f3.f0), (.string y.f3.f1), (.int .i64 y.f3.f2), (.int .i64 y.f3.f3), (.int .i64 0), (.int .i64 0), (.int .i64 0), (.slice none 0 0)] (by rfl) ?_
 intro w8 hb_ hu_
 have HM8 := Aside0.mk hb_
 have HU8 := Aside0.mk hu_
 refine hK.out _ _ ?_
 clear hK K hb_ hu_
 refine done_ (by kernel_rfl) ?_
 have US8 := Aside0.mk (show Upd w7 w8 (fun k => k = gm) from (((Upd.set w7 ⟨gm, 5, none⟩ _).and (Upd.set _ ⟨gm, 6, none⟩ _)).and (Upd.set _ ⟨gm, 7, none⟩ _)).and HU8.out)
 have H8 := Aside0.mk (H6d.out.far US8.out HM6d.out (by decide))
 have HC8 := Aside0.mk (fun (W : World) (hb : Below w8.heap.size w8 W) => (show Kd.C k108 W A2 c.pieces.length c.pieces ∧ c.pieces.length ≤ c2 from by
  obtain ⟨A_, c_, he_, hl_, hC_⟩ := Kd.R_reads (H8.out.below hb).r2
  injection he_ with ea_ _ ec_
  subst ea_
  subst ec_
  exact ⟨hC_, hl_⟩))
 obtain ⟨kg, hkg⟩ := HGG.out
 have HKG := Aside0.mk hkg
 clear hkg hHeld
 have U8 := Aside0.mk ((Upd.of_below BW6d.out (SC BC BA bl)).trans US8.out (fun k hk => Or.inr (by have h3 : k = gm := hk; have := GMW.out; omega)))
 go_wp2
 refine start_ (n := 17) (S := fun w' => Below w8.heap.size w8 w') (ds := [16]) (bq 17 0) (by kernel_rfl) rfl rfl (below_drew (Below.refl _ _)) (fun hHeld => ?_)
 generalize w8.drew = w9 at  hHeld ⊢
 refine pu 0 88 (bq 17 1) ?_ rfl rfl (by kernel_rfl) (fun _ _ _ h => h) (by rfl) ?_ ?_ ?_ ?_
 rotate_left
 ·intro w'; go_simp; with_reducible rfl
 rotate_left
 ·simp only [Act.put, sqA, sqB, sqC, i64_w, i32_w]
  rfl
 refine pu 1 89 (bq 17 3) ?_ rfl rfl (by kernel_rfl) (fun _ _ _ h => h) (by rfl) ?_ ?_ ?_ ?_
 rotate_left
 ·intro w'; go_simp; with_reducible rfl
 rotate_left
 ·simp only [Act.put, sqA, sqB, sqC, i64_w, i32_w]
  rfl
 refine pu 2 90 (bq 17 7) ?_ rfl rfl (by kernel_rfl) (fun _ _ _ h => h) (by rfl) ?_ ?_ ?_ ?_
 rotate_left
 ·intro w'; go_simp; with_reducible rfl
 rotate_left
 ·simp only [Act.put, sqA, sqB, sqC, i64_w, i32_w]
  rfl
 refine pu 4 92 (bq 17 23) ?_ rfl rfl (by kernel_rfl) (fun _ _ _ h => h) (by rfl) ?_ ?_ ?_ ?_
 rotate_left
 ·intro w'; go_simp; with_reducible rfl
 rotate_left
 ·simp only [Act.put, sqA, sqB, sqC, i64_w, i32_w]
  rfl
 refine pu 5 93 (bq 17 55) ?_ rfl rfl (by kernel_rfl) (fun _ _ _ h => h) (by rfl) ?_ ?_ ?_ ?_
 rotate_left
 ·intro w'; go_simp; with_reducible rfl
 rotate_left
 ·simp only [Act.put, sqA, sqB, sqC, i64_w, i32_w]
  rfl
 refine pu 6 94 (bq 17 119) ?_ rfl rfl (by kernel_rfl) (fun _ _ _ h => h) (by rfl) ?_ ?_ ?_ ?_
 rotate_left
 ·intro w'; go_simp; with_reducible rfl
 rotate_left
 ·simp only [Act.put, sqA, sqB, sqC, i64_w, i32_w]
  rfl
 refine pu 8 96 (bq 17 375) ?_ rfl rfl (by kernel_rfl) (fun _ _ _ h => h) (by rfl) ?_ ?_ ?_ ?_
 rotate_left
 ·intro w'; go_simp; with_reducible rfl
 rotate_left
 ·simp only [Act.put, sqA, sqB, sqC, i64_w, i32_w]
  rfl
 refine pu 9 97 (bq 17 887) ?_ rfl rfl (by kernel_rfl) (fun _ _ _ h => h) (by rfl) ?_ ?_ ?_ ?_
 rotate_left
 ·intro w'; go_simp; with_reducible rfl
 rotate_left
 ·simp only [Act.put, sqA, sqB, sqC, i64_w, i32_w]
  rfl
 refine pu 10 98 (bq 17 1911) ?_ rfl rfl (by kernel_rfl) (fun _ _ _ h => h) (by rfl) ?_ ?_ ?_ ?_
 rotate_left
 ·intro w'; go_simp; with_reducible rfl
 rotate_left
 ·simp only [Act.put, sqA, sqB, sqC, i64_w, i32_w]
  rfl
 refine pu 11 99 (bq 17 3959) ?_ rfl rfl (by kernel_rfl) (fun _ _ _ h => h) (by rfl) ?_ ?_ ?_ ?_
 rotate_left
 ·intro w'; go_simp; with_reducible rfl
 rotate_left
 ·simp only [Act.put, sqA, sqB, sqC, i64_w, i32_w]
  rfl
 refine tk 3 91 (bq 17 3967) ?_ rfl rfl (by kernel_rfl) (fun _ _ _ h => h) (by rfl) ?_ hHeld ?_ ?_ ?_
 rotate_left
 ·intro w' hw'
  have s0 := (blk_cell (blk_below H8.out.blk hw') 0).trans (show _ = some (.pointer (some ⟨BA, 0, none⟩)) from rfl)
  go_simp
  with_reducible rfl
 rotate_left
 ·simp only [Act.put, sqA, sqB, sqC, i64_w, i32_w]
  rfl
 refine tk 7 95 (bq 17 4095) ?_ rfl rfl (by kernel_rfl) (fun _ _ _ h => h) (by rfl) ?_ hHeld ?_ ?_ ?_
 rotate_left
 ·intro w' hw'
  have hb_ := blk_below H8.out.blk hw'
  have s11 := (blk_cell hb_ 11).trans (show _ = some (.int .i64 c.epoch) from rfl)
  have s12 := (blk_cell hb_ 12).trans (show _ = some (.slice A2 c.pieces.length c2) from rfl)
  go_simp
  with_reducible rfl
 rotate_left
 ·simp only [Act.put, sqA, sqB, sqC, i64_w, i32_w]
  rfl
 refine tk 12 100 (bq 17 8191) ?_ rfl rfl (by kernel_rfl) (fun _ _ _ h => h) (by rfl) ?_ hHeld ?_ ?_ ?_
 rotate_left
 ·intro w' hw'
  have s0 := (blk_cell (blk_below H8.out.blk hw') 13).trans (show _ = some (.int .i64 (i : Int)) from by rw [← HST.out]; rfl)
  go_simp
  with_reducible rfl
 rotate_left
 ·simp only [Act.put, sqA, sqB, sqC, i64_w, i32_w]
  rfl
 refine take_ (i := 15) (N := some 103) (a' := ?_) (bq 17 40959) rfl rfl (by kernel_rfl) (fun _ _ _ h => h) (yields_blk (by rfl) 38 _ rfl gm 0 rfl [(.int .i64 c.call.kind), (.int .i64 0), (.int .i64 0), (.int .i64 0), (.int .i64 c.call.queue), (.string y.f0), (.string y.f1), (.string y.f2), (.string c.call.attempt), (.int .i64 c.call.max), (.int .i64 c.call.secs), (.int .i64 y.f3.f0), (.string y.f3.f1), (.int .i64 y.f3.f2), (.int .i64 y.f3.f3), (.int .i64 0), (.int .i64 0), (.int .i64 0), (.slice none 0 0)] rfl (fun w' hw' => blk_below HM8.out hw') Try.underlying38 rfl (by kernel_rfl)) hHeld ?_ ?_
 rotate_left
 ·simp only [Act.put, sqA, sqB, sqC, i64_w, i32_w]
  rfl
 refine one_ (i := 13) (N := some 101) (bq 17 49151) rfl rfl (by kernel_rfl) (by decide) (fun K hK => ?_)
 refine goes_ Try.func55 (by kernel_rfl) rfl #[.pointer (some ⟨BC, 0, none⟩), .int .i64 (i : Int)] (by rfl) rfl rfl (by (try simp only [List.map_toArray, List.map_cons, List.map_nil]); first | done | rfl) ?_
 with_reducible refine (cliPlace _ base BC BA bl q a c _ _ v3 v4 (H8.out.below hHeld) i HI0.out r (by rw [← HYE.out]; exact HRR.out)).mono ?_
 rintro e1 wp_ ⟨rfl, hb_⟩
 refine ⟨_, rfl, ?_⟩
 refine hK.out _ _ (hHeld.trans (hb_.mono hHeld.size)) ?_
 clear hHeld
 intro hHeld
 clear hK K hb_
 refine norm_ (a' := ?_) ?_ ?_
 rotate_left
 ·show Act.put _ (some 101) _ = _; simp only [Act.put, sqA, sqB, sqC, i64_w, i32_w]
  rfl
 refine one_ (i := 14) (N := some 102) (bq 17 65535) rfl rfl (by kernel_rfl) (by decide) (fun K hK => ?_)
 refine goes_ Try.func54 (by kernel_rfl) rfl #[.agg #[.int .i64 c.epoch, .slice A2 c.pieces.length c2], .int .i64 r] (by rfl) rfl rfl (by (try simp only [List.map_toArray, List.map_cons, List.map_nil]); first | done | rfl) ?_
 with_reducible refine (chart_Of.calls kg c.epoch A2 c2 c.pieces r g _ (HC8.out _ hHeld).1 (HC8.out _ hHeld).2 HKG.out).mono ?_
 rintro e1 wo_ ⟨rfl, hb_⟩
 refine ⟨_, rfl, ?_⟩
 refine hK.out _ _ (hHeld.trans (hb_.mono hHeld.size)) ?_
 clear hHeld
 intro hHeld
 clear hK K hb_
 refine norm_ (a' := ?_) ?_ ?_
 rotate_left
 ·show Act.put _ (some 102) _ = _; simp only [Act.put, sqA, sqB, sqC, i64_w, i32_w]
  rfl
 refine last_ (i := 16) (N := some 104) (bq 17 131071) rfl rfl (by kernel_rfl) (by decide) (fun K hK => ?_)
 refine goes_ Try.func27 (by kernel_rfl) rfl #[.pointer (some ⟨BA, 0, none⟩), .int .i64 g, .agg #[(.int .i64 c.call.kind), (.int .i64 0), (.int .i64 0), (.int .i64 0), (.int .i64 c.call.queue), (.string y.f0), (.string y.f1), (.string y.f2), (.string c.call.attempt), (.int .i64 c.call.max), (.int .i64 c.call.secs), (.int .i64 y.f3.f0), (.string y.f3.f1), (.int .i64 y.f3.f2), (.int .i64 y.f3.f3), (.int .i64 0), (.int .i64 0), (.int .i64 0), (.slice none 0 0)]] (by rfl) rfl rfl (by (try simp only [List.map_toArray, List.map_cons, List.map_nil]); first | done | rfl) ?_
 refine (askAsk _ BA bl q a (H8.out.below hHeld).ask HK.out g (cmdV c.call y) rfl).mono ?_
 rintro e1 wx ⟨rfl, ha_, hu_⟩
 have HAX := Aside0.mk ha_
 have HUX := Aside0.mk hu_
 refine ⟨_, rfl, ?_⟩
 refine hK.out _ _ ?_
 clear hK K ha_ hu_
 refine norm_ (a' := ?_) ?_ ?_
 rotate_left
 ·show Act.put _ (some 104) _ = _; simp only [Act.put, sqA, sqB, sqC, i64_w, i32_w]
  rfl
 refine done_ (by kernel_rfl) ?_
 go_wp2
 go_end0
 rw [← HYE.out]
 exact ⟨rfl, (H8.out.below hHeld).asked (HUX.out.mono (fun k hk => Or.inl hk)) HAX.out, (U8.out.and (Upd.of_below hHeld _)).and (HUX.out.mono (fun k hk => Or.inr (Or.inl hk)))⟩
end Go.Proofs.Ytonedijkgddepaa.P
