/- front.Asker, by hand: Ask. No conditions. -/
import Derived.Test.YtonedijkgddepaaSq
import Derived.Test.YtonedijkgddepaaFD
namespace Go.Proofs.Ytonedijkgddepaa.P
open Go.Sq
open Go.RowKit Go.Maps Go.Proofs.YtonedijkgddepaaW.PrintWords Go.Proofs.YtonedijkgddepaaW.PrintLast Go.Proofs.YtonedijkgddepaaW.PrintMore
set_option linter.unusedVariables false
set_option linter.unusedSimpArgs false

/-- What an asker asks. -/
def askedV (s : As) (g : Int) (c : S38) : As := { s with num := s.num + 1, group := g, cmd := { c with f1 := s.id, f2 := s.num + 1 }, busy := true, sent := false }
def askV (s : As) (g : Int) (c : S38) : Int × As := if s.busy = true then (17, s) else (if isG g then (0, askedV s g c) else (2, s))
theorem askV_ok {s : As} {q : Nat} (hk : s.ok q) (hq : q + 1 < 100000) (g : Int) (c : S38) (hc : c.f14 = []) : (askV s g c).2.ok (q + 1) := by
 have h2 := hk.mono (Nat.le_succ q) hq
 unfold askV
 split
 ·exact h2
 ·split
  ·rename_i h
   exact ⟨hk.id1, hk.nodes1, hk.retry1, by have := hk.num1; show 0 ≤ s.num + 1 ∧ s.num + 1 ≤ ((q + 1 : Nat) : Int); omega, h, hk.waited1, hk.lead1, hq, hc⟩
  ·exact h2
set_option maxHeartbeats 4000000 in
set_option maxRecDepth 100000 in
theorem askAsk (w : World) (B bl q : Nat) (s : As) (h : AskAt w B bl q s) (hk : s.ok q) (g : Int) (c : S38) (hc : c.f14 = []) :
  Calls Try.prog 27 #[.pointer (some ⟨B, 0, none⟩), .int .i64 g, .agg #[(.int .i64 c.f0), (.int .i64 c.f1), (.int .i64 c.f2), (.int .i64 c.f3), (.int .i64 c.f4), (.string c.f5), (.string c.f6), (.string c.f7), (.string c.f8), (.int .i64 c.f9), (.int .i64 c.f10), (.int .i64 c.f11.f0), (.string c.f11.f1), (.int .i64 c.f11.f2), (.int .i64 c.f11.f3), (.int .i64 c.f12.f0), (.int .i64 c.f12.f1), (.int .i64 c.f13), (.slice none 0 0)]] w fun e' w' => e' = .returned (.int .i64 (askV s g c).1) ∧ AskAt w' B bl (q + 1) (askV s g c).2 ∧ Upd w w' (fun k => k = B) := by
 have H := Aside0.mk h
 have HK := Aside0.mk hk
 have HI := Aside0.mk (show s.id ≠ 0 by have := hk.id1; omega)
 have HB := Aside0.mk h.blk
 clear h hk
 have HBW := Aside0.mk (fun (W : World) (hb : Below w.heap.size w W) => (blk_below H.out.blk hb))
 cases hbz : s.busy with
 | true =>
  have HV := Aside0.mk (show askV s g c = (17, s) by unfold askV; rw [if_pos hbz])
  rw [HV.out]
  go_enter Try.func27, Try.ntmps27
  go_wp2_with (first | ((with_reducible refine gate_dst (N := 5) rfl ?_); refine box_event ?hg (N := 5) ?hd (cs := #[(.int .i64 c.f0), (.int .i64 c.f1), (.int .i64 c.f2), (.int .i64 c.f3), (.int .i64 c.f4), (.string c.f5), (.string c.f6), (.string c.f7), (.string c.f8), (.int .i64 c.f9), (.int .i64 c.f10), (.int .i64 c.f11.f0), (.string c.f11.f1), (.int .i64 c.f11.f2), (.int .i64 c.f11.f3), (.int .i64 c.f12.f0), (.int .i64 c.f12.f1), (.int .i64 c.f13), (.slice none 0 0)]) (t := 38) ?hr ?_; (case hd => rfl); (case hg => rfl); (case hr => first | (go_simp; done) | (go_simp; rfl)); intro gx hg_ w1 hbox_ hbel_; have HX := Aside0.mk hbox_; have HL := Aside0.mk hbel_; clear hbox_ hbel_; have HG := Aside0.mk hg_; clear hg_))
  have HB1 := Aside0.mk (H.out.below HL.out)
  have a24 : w1.cell? ⟨B, 24, none⟩ = some (.bool s.busy) := (blk_cell HB1.out.blk 24).trans rfl
  rw [hbz] at a24
  go_wp2_with (first | (go_at_call 50; (with_reducible refine (askNoneOk _ B bl q s HB1.out HI.out).mono ?_); rintro e1 wq_ ⟨rfl, hwq_⟩; rw [hwq_]; clear hwq_ wq_))
  go_ret
  exact ⟨rfl, (H.out.below HL.out).mono (Nat.le_succ _), Upd.of_below HL.out _⟩
 | false =>
  by_cases hg : isG g
  ·have HV := Aside0.mk (show askV s g c = (0, askedV s g c) by unfold askV; rw [if_neg (by rw [hbz]; decide), if_pos hg])
   rw [HV.out]
   have HGG := Aside0.mk hg
   clear hg
   go_enter Try.func27, Try.ntmps27
   go_upto_block 0 with (first | ((with_reducible refine gate_dst (N := 5) rfl ?_); refine box_event ?hg (N := 5) ?hd (cs := #[(.int .i64 c.f0), (.int .i64 c.f1), (.int .i64 c.f2), (.int .i64 c.f3), (.int .i64 c.f4), (.string c.f5), (.string c.f6), (.string c.f7), (.string c.f8), (.int .i64 c.f9), (.int .i64 c.f10), (.int .i64 c.f11.f0), (.string c.f11.f1), (.int .i64 c.f11.f2), (.int .i64 c.f11.f3), (.int .i64 c.f12.f0), (.int .i64 c.f12.f1), (.int .i64 c.f13), (.slice none 0 0)]) (t := 38) ?hr ?_; (case hd => rfl); (case hg => rfl); (case hr => first | (go_simp; done) | (go_simp; rfl)); intro gx hg_ w1 hbox_ hbel_; have HX := Aside0.mk hbox_; have HL := Aside0.mk hbel_; clear hbox_ hbel_; have HG := Aside0.mk hg_; clear hg_))
   have HB1 := Aside0.mk (H.out.below HL.out)
   have a24 : w1.cell? ⟨B, 24, none⟩ = some (.bool s.busy) := (blk_cell HB1.out.blk 24).trans rfl
   have a3 : w1.cell? ⟨B, 3, none⟩ = some (.int .i64 s.num) := (blk_cell HB1.out.blk 3).trans rfl
   have az3 := blk_frozen HB1.out.blk 3
   rw [hbz] at a24
   have hw1 : wrap64 (s.num + 1) = s.num + 1 := by have h1 := HK.out.num1; have h2 := HK.out.q1; unfold wrap64; omega
   go_upto_region 8 with (first | (go_at_call 50; (with_reducible refine (askNoneOk _ B bl q s HB1.out HI.out).mono ?_); rintro e1 wq_ ⟨rfl, hwq_⟩; rw [hwq_]; clear hwq_ wq_) | (go_at_call 51; (with_reducible refine (isC _ g HGG.out).mono ?_); rintro e1 wq_ ⟨rfl, hwq_⟩; rw [hwq_]; clear hwq_ wq_))
   clear a24 a3 az3 hw1 hbz
   obtain ⟨w7, hw7⟩ : ∃ w7, w7 = w1.setCell ⟨B, 3, none⟩ (.int .i64 (s.num + 1)) := ⟨_, rfl⟩
   rw [← hw7]
   have NG := Aside0.mk (show B ≠ gx ∧ bl ≠ gx from ⟨fun e => by have h1 := H.out.lt.1; have h2 := HG.out; omega, fun e => by have h1 := H.out.lt.2.1; have h2 := HG.out; omega⟩)
   have HB7 := Aside0.mk (show w7.drew.heap[B]? = some (.cells (askA { s with num := s.num + 1 } bl) 97 (0, 0)) by rw [hw7]; exact blk_drew (askSet (s' := { s with num := s.num + 1 }) HB1.out.blk 3 _ rfl))
   have HX7 := Aside0.mk (show w7.drew.heap[gx]? = some (.cells #[(.int .i64 c.f0), (.int .i64 c.f1), (.int .i64 c.f2), (.int .i64 c.f3), (.int .i64 c.f4), (.string c.f5), (.string c.f6), (.string c.f7), (.string c.f8), (.int .i64 c.f9), (.int .i64 c.f10), (.int .i64 c.f11.f0), (.string c.f11.f1), (.int .i64 c.f11.f2), (.int .i64 c.f11.f3), (.int .i64 c.f12.f0), (.int .i64 c.f12.f1), (.int .i64 c.f13), (.slice none 0 0)] 38 (0, 0)) by rw [hw7]; exact blk_drew (blk_far HX.out (p := ⟨B, 3, none⟩) NG.out.1.symm _))
   have U7 := Aside0.mk (show Upd w w7.drew (fun k => k = B) by rw [hw7]; exact ((Upd.of_below HL.out _).and (Upd.set _ ⟨B, 3, none⟩ _)).and (Upd.drew _ 1 _))
   have MP7 := Aside0.mk (show MapAt NumP (.int .i64 0) w7.drew bl q s.lead by rw [hw7]; exact HB1.out.map.keep (Below.heap_setCell _ _ _ _ H.out.lt.2.2.symm) (fun _ _ h => h))
   clear hw7
   refine start_ (n := 17) (S := fun w' => w'.heap[B]? = some (.cells (askA { s with num := s.num + 1 } bl) 97 (0, 0)) ∧ w'.cell? ⟨gx, 18, none⟩ = some (.slice none 0 0)) (ds := [16]) (bq 17 0) (by kernel_rfl) rfl rfl ⟨HB7.out, (blk_cell HX7.out 18).trans rfl⟩ (fun hHeld => ?_)
   generalize w7.drew = wd at HB7 HX7 U7 MP7 hHeld ⊢
   refine pu 0 26 (bq 17 1) ?_ rfl rfl (by kernel_rfl) (fun _ _ _ h => h) (by rfl) ?_ ?_ ?_ ?_
   rotate_left
   ·intro w'; go_simp; with_reducible rfl
   rotate_left
   ·simp only [Act.put, sqA, sqB, sqC, i64_w, i32_w]
    rfl
   refine pu 1 27 (bq 17 3) ?_ rfl rfl (by kernel_rfl) (fun _ _ _ h => h) (by rfl) ?_ ?_ ?_ ?_
   rotate_left
   ·intro w'; go_simp; with_reducible rfl
   rotate_left
   ·simp only [Act.put, sqA, sqB, sqC, i64_w, i32_w]
    rfl
   refine pu 2 28 (bq 17 7) ?_ rfl rfl (by kernel_rfl) (fun _ _ _ h => h) (by rfl) ?_ ?_ ?_ ?_
   rotate_left
   ·intro w'; go_simp; with_reducible rfl
   rotate_left
   ·simp only [Act.put, sqA, sqB, sqC, i64_w, i32_w]
    rfl
   refine pu 4 30 (bq 17 23) ?_ rfl rfl (by kernel_rfl) (fun _ _ _ h => h) (by rfl) ?_ ?_ ?_ ?_
   rotate_left
   ·intro w'; go_simp; with_reducible rfl
   rotate_left
   ·simp only [Act.put, sqA, sqB, sqC, i64_w, i32_w]
    rfl
   refine pu 5 31 (bq 17 55) ?_ rfl rfl (by kernel_rfl) (fun _ _ _ h => h) (by rfl) ?_ ?_ ?_ ?_
   rotate_left
   ·intro w'; go_simp; with_reducible rfl
   rotate_left
   ·simp only [Act.put, sqA, sqB, sqC, i64_w, i32_w]
    rfl
   refine pu 6 32 (bq 17 119) ?_ rfl rfl (by kernel_rfl) (fun _ _ _ h => h) (by rfl) ?_ ?_ ?_ ?_
   rotate_left
   ·intro w'; go_simp; with_reducible rfl
   rotate_left
   ·simp only [Act.put, sqA, sqB, sqC, i64_w, i32_w]
    rfl
   refine pu 8 34 (bq 17 375) ?_ rfl rfl (by kernel_rfl) (fun _ _ _ h => h) (by rfl) ?_ ?_ ?_ ?_
   rotate_left
   ·intro w'; go_simp; with_reducible rfl
   rotate_left
   ·simp only [Act.put, sqA, sqB, sqC, i64_w, i32_w]
    rfl
   refine tk 3 29 (bq 17 383) ?_ rfl rfl (by kernel_rfl) (fun _ _ _ h => h) (by rfl) ?_ hHeld ?_ ?_ ?_
   rotate_left
   ·intro w' hw'
    have s0 := (blk_cell hw'.1 0).trans (show _ = some (.int .i64 s.id) from rfl)
    go_simp
    with_reducible rfl
   rotate_left
   ·simp only [Act.put, sqA, sqB, sqC, i64_w, i32_w]
    rfl
   refine tk 7 33 (bq 17 511) ?_ rfl rfl (by kernel_rfl) (fun _ _ _ h => h) (by rfl) ?_ hHeld ?_ ?_ ?_
   rotate_left
   ·intro w' hw'
    have s0 := (blk_cell hw'.1 3).trans (show _ = some (.int .i64 (s.num + 1)) from rfl)
    go_simp
    with_reducible rfl
   rotate_left
   ·simp only [Act.put, sqA, sqB, sqC, i64_w, i32_w]
    rfl
   refine tk 9 35 (bq 17 1023) ?_ rfl rfl (by kernel_rfl) (fun _ _ _ h => h) (by rfl) ?_ hHeld ?_ ?_ ?_
   rotate_left
   ·intro w' hw'
    have s0 := hw'.2
    go_simp
    with_reducible rfl
   rotate_left
   ·simp only [Act.put, sqA, sqB, sqC, i64_w, i32_w]
    rfl
   refine pu 11 37 (bq 17 3071) ?_ rfl rfl (by kernel_rfl) (fun _ _ _ h => h) (by rfl) ?_ ?_ ?_ ?_
   rotate_left
   ·intro w'; go_simp; with_reducible rfl
   rotate_left
   ·simp only [Act.put, sqA, sqB, sqC, i64_w, i32_w]
    rfl
   refine one_ (i := 10) (N := some 36) (bq 17 4095) rfl rfl (by kernel_rfl) (by decide) (fun K hK => ?_)
   refine goes_ Try.func45 (by kernel_rfl) rfl #[.slice none 0 0] (by rfl) rfl rfl (by (try simp only [List.map_toArray, List.map_cons, List.map_nil]); first | done | rfl) ?_
   with_reducible refine (cloneNil45 _).mono ?_
   rintro e1 wq_ ⟨rfl, hwq_⟩
   rw [hwq_]
   clear hwq_ wq_
   refine ⟨_, rfl, ?_⟩
   refine hK.out _ _ hHeld ?_
   clear hHeld
   intro hHeld
   clear hK K
   refine norm_ (a' := ?_) ?_ ?_
   rotate_left
   ·show Act.put _ (some 36) _ = _; simp only [Act.put, sqA, sqB, sqC, i64_w, i32_w]
    rfl
   refine one_ (i := 12) (N := none) (bq 17 8191) rfl rfl (by kernel_rfl) (by decide) (fun K hK => ?_)
   have x1 := (blk_cell HX7.out 1).trans (show _ = some (.int .i64 c.f1) from rfl)
   have xz := blk_frozen HX7.out 1
   refine skip_ (w1 := (wd.setCell ⟨gx, 1, none⟩ (.int .i64 s.id))) (by rfl) rfl ?_ ?_
   ·go_simp
   have HX8_12 := Aside0.mk (show (wd.setCell ⟨gx, 1, none⟩ (.int .i64 s.id)).heap[gx]? = some (.cells #[(.int .i64 c.f0), (.int .i64 s.id), (.int .i64 c.f2), (.int .i64 c.f3), (.int .i64 c.f4), (.string c.f5), (.string c.f6), (.string c.f7), (.string c.f8), (.int .i64 c.f9), (.int .i64 c.f10), (.int .i64 c.f11.f0), (.string c.f11.f1), (.int .i64 c.f11.f2), (.int .i64 c.f11.f3), (.int .i64 c.f12.f0), (.int .i64 c.f12.f1), (.int .i64 c.f13), (.slice none 0 0)] 38 (0, 0)) from blk_set HX7.out 1 _)
   refine hK.out _ _ ⟨blk_far hHeld.1 (p := ⟨gx, 1, none⟩) NG.out.1 _, (blk_cell HX8_12.out 18).trans rfl⟩ ?_
   clear hHeld
   intro hHeld
   clear hK K x1 xz
   refine pu 13 38 (bq 17 16383) ?_ rfl rfl (by kernel_rfl) (fun _ _ _ h => h) (by rfl) ?_ ?_ ?_ ?_
   rotate_left
   ·intro w'; go_simp; with_reducible rfl
   rotate_left
   ·simp only [Act.put, sqA, sqB, sqC, i64_w, i32_w]
    rfl
   refine one_ (i := 14) (N := none) (bq 17 32767) rfl rfl (by kernel_rfl) (by decide) (fun K hK => ?_)
   have x1 := (blk_cell HX8_12.out 2).trans (show _ = some (.int .i64 c.f2) from rfl)
   have xz := blk_frozen HX8_12.out 2
   refine skip_ (w1 := ((wd.setCell ⟨gx, 1, none⟩ (.int .i64 s.id)).setCell ⟨gx, 2, none⟩ (.int .i64 (s.num + 1)))) (by rfl) rfl ?_ ?_
   ·go_simp
   have HX8_14 := Aside0.mk (show ((wd.setCell ⟨gx, 1, none⟩ (.int .i64 s.id)).setCell ⟨gx, 2, none⟩ (.int .i64 (s.num + 1))).heap[gx]? = some (.cells #[(.int .i64 c.f0), (.int .i64 s.id), (.int .i64 (s.num + 1)), (.int .i64 c.f3), (.int .i64 c.f4), (.string c.f5), (.string c.f6), (.string c.f7), (.string c.f8), (.int .i64 c.f9), (.int .i64 c.f10), (.int .i64 c.f11.f0), (.string c.f11.f1), (.int .i64 c.f11.f2), (.int .i64 c.f11.f3), (.int .i64 c.f12.f0), (.int .i64 c.f12.f1), (.int .i64 c.f13), (.slice none 0 0)] 38 (0, 0)) from blk_set HX8_12.out 2 _)
   refine hK.out _ _ ⟨blk_far hHeld.1 (p := ⟨gx, 2, none⟩) NG.out.1 _, (blk_cell HX8_14.out 18).trans rfl⟩ ?_
   clear hHeld
   intro hHeld
   clear hK K x1 xz
   refine pu 15 39 (bq 17 65535) ?_ rfl rfl (by kernel_rfl) (fun _ _ _ h => h) (by rfl) ?_ ?_ ?_ ?_
   rotate_left
   ·intro w'; go_simp; with_reducible rfl
   rotate_left
   ·simp only [Act.put, sqA, sqB, sqC, i64_w, i32_w]
    rfl
   refine last_ (i := 16) (N := none) (bq 17 131071) rfl rfl (by kernel_rfl) (by decide) (fun K hK => ?_)
   have x1 := (blk_cell HX8_14.out 18).trans (show _ = some (.slice none 0 0) from rfl)
   have xz := blk_frozen HX8_14.out 18
   refine skip_ (w1 := (((wd.setCell ⟨gx, 1, none⟩ (.int .i64 s.id)).setCell ⟨gx, 2, none⟩ (.int .i64 (s.num + 1))).setCell ⟨gx, 18, none⟩ (.slice none 0 0))) (by rfl) rfl ?_ ?_
   ·go_simp
   refine hK.out _ _ ?_
   clear hK K
   clear x1 xz
   have HX8_16 := Aside0.mk (show (((wd.setCell ⟨gx, 1, none⟩ (.int .i64 s.id)).setCell ⟨gx, 2, none⟩ (.int .i64 (s.num + 1))).setCell ⟨gx, 18, none⟩ (.slice none 0 0)).heap[gx]? = some (.cells #[(.int .i64 c.f0), (.int .i64 s.id), (.int .i64 (s.num + 1)), (.int .i64 c.f3), (.int .i64 c.f4), (.string c.f5), (.string c.f6), (.string c.f7), (.string c.f8), (.int .i64 c.f9), (.int .i64 c.f10), (.int .i64 c.f11.f0), (.string c.f11.f1), (.int .i64 c.f11.f2), (.int .i64 c.f11.f3), (.int .i64 c.f12.f0), (.int .i64 c.f12.f1), (.int .i64 c.f13), (.slice none 0 0)] 38 (0, 0)) from blk_set HX8_14.out 18 _)
   refine done_ (by kernel_rfl) ?_
   have HB8 := Aside0.mk (show (((wd.setCell ⟨gx, 1, none⟩ (.int .i64 s.id)).setCell ⟨gx, 2, none⟩ (.int .i64 (s.num + 1))).setCell ⟨gx, 18, none⟩ (.slice none 0 0)).drew.heap[B]? = some (.cells (askA { s with num := s.num + 1 } bl) 97 (0, 0)) from blk_drew (blk_far (p := ⟨gx, 18, none⟩) (blk_far (p := ⟨gx, 2, none⟩) (blk_far (p := ⟨gx, 1, none⟩) HB7.out NG.out.1 _) NG.out.1 _) NG.out.1 _))
   have HX9 := Aside0.mk (blk_drew HX8_16.out)
   have gxw : w.heap.size ≤ gx := by have h2 := HG.out; omega
   have U9 := Aside0.mk (show Upd w (((wd.setCell ⟨gx, 1, none⟩ (.int .i64 s.id)).setCell ⟨gx, 2, none⟩ (.int .i64 (s.num + 1))).setCell ⟨gx, 18, none⟩ (.slice none 0 0)).drew (fun k => k = B) from (((U7.out.trans (Upd.set _ ⟨gx, 1, none⟩ _) (fun k hk => Or.inr (by have h3 : k = gx := hk; omega))).trans (Upd.set _ ⟨gx, 2, none⟩ _) (fun k hk => Or.inr (by have h3 : k = gx := hk; omega))).trans (Upd.set _ ⟨gx, 18, none⟩ _) (fun k hk => Or.inr (by have h3 : k = gx := hk; omega))).and (Upd.drew _ 1 _))
   have MP9 := Aside0.mk (show MapAt NumP (.int .i64 0) (((wd.setCell ⟨gx, 1, none⟩ (.int .i64 s.id)).setCell ⟨gx, 2, none⟩ (.int .i64 (s.num + 1))).setCell ⟨gx, 18, none⟩ (.slice none 0 0)).drew bl q s.lead from MP7.out.keep (((Below.heap_setCell _ ⟨gx, 18, none⟩ _ _ NG.out.2).trans (Below.heap_setCell _ ⟨gx, 2, none⟩ _ _ NG.out.2)).trans (Below.heap_setCell _ ⟨gx, 1, none⟩ _ _ NG.out.2)) (fun _ _ h => h))
   clear HB7 HX7 U7 MP7 HX8_12 HX8_14 HX8_16 hHeld gxw
   generalize (((wd.setCell ⟨gx, 1, none⟩ (.int .i64 s.id)).setCell ⟨gx, 2, none⟩ (.int .i64 (s.num + 1))).setCell ⟨gx, 18, none⟩ (.slice none 0 0)) = w9 at HB8 HX9 U9 MP9 ⊢
   go_wp2
   refine start_ (n := 18) (S := fun w' => w'.heap[gx]? = some (.cells #[(.int .i64 c.f0), (.int .i64 s.id), (.int .i64 (s.num + 1)), (.int .i64 c.f3), (.int .i64 c.f4), (.string c.f5), (.string c.f6), (.string c.f7), (.string c.f8), (.int .i64 c.f9), (.int .i64 c.f10), (.int .i64 c.f11.f0), (.string c.f11.f1), (.int .i64 c.f11.f2), (.int .i64 c.f11.f3), (.int .i64 c.f12.f0), (.int .i64 c.f12.f1), (.int .i64 c.f13), (.slice none 0 0)] 38 (0, 0))) (ds := [17]) (bq 18 0) (by kernel_rfl) rfl rfl HX9.out (fun hHeld => ?_)
   generalize w9.drew = we at HB8 HX9 U9 MP9 hHeld ⊢
   refine pu 0 40 (bq 18 1) ?_ rfl rfl (by kernel_rfl) (fun _ _ _ h => h) (by rfl) ?_ ?_ ?_ ?_
   rotate_left
   ·intro w'; go_simp; with_reducible rfl
   rotate_left
   ·simp only [Act.put, sqA, sqB, sqC, i64_w, i32_w]
    rfl
   refine pu 1 41 (bq 18 3) ?_ rfl rfl (by kernel_rfl) (fun _ _ _ h => h) (by rfl) ?_ ?_ ?_ ?_
   rotate_left
   ·intro w'; go_simp; with_reducible rfl
   rotate_left
   ·simp only [Act.put, sqA, sqB, sqC, i64_w, i32_w]
    rfl
   refine pu 2 42 (bq 18 7) ?_ rfl rfl (by kernel_rfl) (fun _ _ _ h => h) (by rfl) ?_ ?_ ?_ ?_
   rotate_left
   ·intro w'; go_simp; with_reducible rfl
   rotate_left
   ·simp only [Act.put, sqA, sqB, sqC, i64_w, i32_w]
    rfl
   refine pu 3 43 (bq 18 15) ?_ rfl rfl (by kernel_rfl) (fun _ _ _ h => h) (by rfl) ?_ ?_ ?_ ?_
   rotate_left
   ·intro w'; go_simp; with_reducible rfl
   rotate_left
   ·simp only [Act.put, sqA, sqB, sqC, i64_w, i32_w]
    rfl
   refine pu 4 44 (bq 18 31) ?_ rfl rfl (by kernel_rfl) (fun _ _ _ h => h) (by rfl) ?_ ?_ ?_ ?_
   rotate_left
   ·intro w'; go_simp; with_reducible rfl
   rotate_left
   ·simp only [Act.put, sqA, sqB, sqC, i64_w, i32_w]
    rfl
   refine pu 6 46 (bq 18 95) ?_ rfl rfl (by kernel_rfl) (fun _ _ _ h => h) (by rfl) ?_ ?_ ?_ ?_
   rotate_left
   ·intro w'; go_simp; with_reducible rfl
   rotate_left
   ·simp only [Act.put, sqA, sqB, sqC, i64_w, i32_w]
    rfl
   refine pu 7 47 (bq 18 223) ?_ rfl rfl (by kernel_rfl) (fun _ _ _ h => h) (by rfl) ?_ ?_ ?_ ?_
   rotate_left
   ·intro w'; go_simp; with_reducible rfl
   rotate_left
   ·simp only [Act.put, sqA, sqB, sqC, i64_w, i32_w]
    rfl
   refine take_ (i := 5) (N := some 45) (a' := ?_) (bq 18 255) rfl rfl (by kernel_rfl) (fun _ _ _ h => h) (yields_blk (by rfl) 38 _ rfl gx 0 rfl [(.int .i64 c.f0), (.int .i64 s.id), (.int .i64 (s.num + 1)), (.int .i64 c.f3), (.int .i64 c.f4), (.string c.f5), (.string c.f6), (.string c.f7), (.string c.f8), (.int .i64 c.f9), (.int .i64 c.f10), (.int .i64 c.f11.f0), (.string c.f11.f1), (.int .i64 c.f11.f2), (.int .i64 c.f11.f3), (.int .i64 c.f12.f0), (.int .i64 c.f12.f1), (.int .i64 c.f13), (.slice none 0 0)] rfl (fun w' hw' => hw') Try.underlying38 rfl (by kernel_rfl)) hHeld ?_ ?_
   rotate_left
   ·simp only [Act.put, sqA, sqB, sqC, i64_w, i32_w]
    rfl
   refine one_ (i := 8) (N := none) (bq 18 511) rfl rfl (by kernel_rfl) (by decide) (fun K hK => ?_)
   have x1 := (blk_cell HB8.out 4).trans (show _ = some (.int .i64 s.group) from rfl)
   have xz := blk_frozen HB8.out 4
   refine skip_ (w1 := we.setCell ⟨B, 4, none⟩ (.int .i64 g)) (by rfl) rfl ?_ ?_
   ·go_simp
   have HB10 := Aside0.mk (askSet (s' := { s with num := s.num + 1, group := g }) HB8.out 4 (.int .i64 g) rfl)
   refine hK.out _ _ (blk_far hHeld (p := ⟨B, 4, none⟩) NG.out.1.symm _) ?_
   clear hHeld
   intro hHeld
   clear hK K x1 xz
   refine pu 9 48 (bq 18 1023) ?_ rfl rfl (by kernel_rfl) (fun _ _ _ h => h) (by rfl) ?_ ?_ ?_ ?_
   rotate_left
   ·intro w'; go_simp; with_reducible rfl
   rotate_left
   ·simp only [Act.put, sqA, sqB, sqC, i64_w, i32_w]
    rfl
   refine pu 10 49 (bq 18 2047) ?_ rfl rfl (by kernel_rfl) (fun _ _ _ h => h) (by rfl) ?_ ?_ ?_ ?_
   rotate_left
   ·intro w'; go_simp; with_reducible rfl
   rotate_left
   ·simp only [Act.put, sqA, sqB, sqC, i64_w, i32_w]
    rfl
   refine one_ (i := 11) (N := none) (bq 18 4095) rfl rfl (by kernel_rfl) (by decide) (fun K hK => ?_)
   refine store_step (by rfl) rfl 38 _ _ rfl B 5 [(.int .i64 c.f0), (.int .i64 s.id), (.int .i64 (s.num + 1)), (.int .i64 c.f3), (.int .i64 c.f4), (.string c.f5), (.string c.f6), (.string c.f7), (.string c.f8), (.int .i64 c.f9), (.int .i64 c.f10), (.int .i64 c.f11.f0), (.string c.f11.f1), (.int .i64 c.f11.f2), (.int .i64 c.f11.f3), (.int .i64 c.f12.f0), (.int .i64 c.f12.f1), (.int .i64 c.f13), (.slice none 0 0)] rfl rfl HB10.out (Nat.le_of_ble_eq_true rfl) (by kernel_rfl) (by rfl) (askA { s with num := s.num + 1, group := g, cmd := { c with f1 := s.id, f2 := s.num + 1 } } bl) rfl ?_
   intro wf hb11 hu11
   have HB11 := Aside0.mk hb11
   have HU11 := Aside0.mk hu11
   refine hK.out _ _ (hu11.block hHeld NG.out.1.symm) ?_
   clear hHeld
   intro hHeld
   clear hK K hb11 hu11
   refine pu 12 50 (bq 18 8191) ?_ rfl rfl (by kernel_rfl) (fun _ _ _ h => h) (by rfl) ?_ ?_ ?_ ?_
   rotate_left
   ·intro w'; go_simp; with_reducible rfl
   rotate_left
   ·simp only [Act.put, sqA, sqB, sqC, i64_w, i32_w]
    rfl
   refine pu 13 51 (bq 18 16383) ?_ rfl rfl (by kernel_rfl) (fun _ _ _ h => h) (by rfl) ?_ ?_ ?_ ?_
   rotate_left
   ·intro w'; go_simp; with_reducible rfl
   rotate_left
   ·simp only [Act.put, sqA, sqB, sqC, i64_w, i32_w]
    rfl
   refine one_ (i := 14) (N := none) (bq 18 32767) rfl rfl (by kernel_rfl) (by decide) (fun K hK => ?_)
   have x1 := (blk_cell HB11.out 24).trans (show _ = some (.bool s.busy) from rfl)
   have xz := blk_frozen HB11.out 24
   refine skip_ (w1 := wf.setCell ⟨B, 24, none⟩ (.bool true)) (by rfl) rfl ?_ ?_
   ·go_simp
   have HB14 := Aside0.mk (askSet (s' := { s with num := s.num + 1, group := g, cmd := { c with f1 := s.id, f2 := s.num + 1 }, busy := true }) HB11.out 24 (.bool true) rfl)
   refine hK.out _ _ (blk_far hHeld (p := ⟨B, 24, none⟩) NG.out.1.symm _) ?_
   clear hHeld
   intro hHeld
   clear hK K x1 xz
   refine pu 15 52 (bq 18 65535) ?_ rfl rfl (by kernel_rfl) (fun _ _ _ h => h) (by rfl) ?_ ?_ ?_ ?_
   rotate_left
   ·intro w'; go_simp; with_reducible rfl
   rotate_left
   ·simp only [Act.put, sqA, sqB, sqC, i64_w, i32_w]
    rfl
   refine pu 16 53 (bq 18 131071) ?_ rfl rfl (by kernel_rfl) (fun _ _ _ h => h) (by rfl) ?_ ?_ ?_ ?_
   rotate_left
   ·intro w'; go_simp; with_reducible rfl
   rotate_left
   ·simp only [Act.put, sqA, sqB, sqC, i64_w, i32_w]
    rfl
   refine last_ (i := 17) (N := none) (bq 18 262143) rfl rfl (by kernel_rfl) (by decide) (fun K hK => ?_)
   have x1 := (blk_cell HB14.out 25).trans (show _ = some (.bool s.sent) from rfl)
   have xz := blk_frozen HB14.out 25
   refine skip_ (w1 := (wf.setCell ⟨B, 24, none⟩ (.bool true)).setCell ⟨B, 25, none⟩ (.bool false)) (by rfl) rfl ?_ ?_
   ·go_simp
   refine hK.out _ _ ?_
   clear hK K
   clear x1 xz
   refine done_ (by kernel_rfl) ?_
   go_wp2
   go_ret
   have hb17 : ((wf.setCell ⟨B, 24, none⟩ (.bool true)).setCell ⟨B, 25, none⟩ (.bool false)).heap[B]? = some (.cells (askA (askedV s g c) bl) 97 (0, 0)) := askSet (s' := askedV s g c) HB14.out 25 (.bool false) rfl
   have hu := (((U9.out.and (Upd.set we ⟨B, 4, none⟩ (.int .i64 g))).and HU11.out).and (Upd.set wf ⟨B, 24, none⟩ (.bool true))).and (Upd.set _ ⟨B, 25, none⟩ (.bool false))
   have hbn := H.out.lt.2.2
   have hm := (((MP9.out.keep (w' := we.setCell ⟨B, 4, none⟩ (.int .i64 g)) (P' := NumP) (Below.heap_setCell _ ⟨B, 4, none⟩ _ _ hbn.symm) (fun _ _ h => h)).keep (w' := wf) (P' := NumP) (HU11.out.kept.2 _ (by have := MP9.out.lt; simpa using this) hbn.symm) (fun _ _ h => h)).keep (w' := wf.setCell ⟨B, 24, none⟩ (.bool true)) (P' := NumP) (Below.heap_setCell _ ⟨B, 24, none⟩ _ _ hbn.symm) (fun _ _ h => h)).keep (w' := (wf.setCell ⟨B, 24, none⟩ (.bool true)).setCell ⟨B, 25, none⟩ (.bool false)) (P' := NumP) (Below.heap_setCell _ ⟨B, 25, none⟩ _ _ hbn.symm) (fun _ _ h => h)
   exact ⟨rfl, ⟨hb17, hm.mono (Nat.le_succ _)⟩, hu⟩
  ·have HV := Aside0.mk (show askV s g c = (2, s) by unfold askV; rw [if_neg (by rw [hbz]; decide), if_neg hg])
   rw [HV.out]
   have HGG := Aside0.mk hg
   clear hg
   go_enter Try.func27, Try.ntmps27
   go_upto_block 0 with (first | ((with_reducible refine gate_dst (N := 5) rfl ?_); refine box_event ?hg (N := 5) ?hd (cs := #[(.int .i64 c.f0), (.int .i64 c.f1), (.int .i64 c.f2), (.int .i64 c.f3), (.int .i64 c.f4), (.string c.f5), (.string c.f6), (.string c.f7), (.string c.f8), (.int .i64 c.f9), (.int .i64 c.f10), (.int .i64 c.f11.f0), (.string c.f11.f1), (.int .i64 c.f11.f2), (.int .i64 c.f11.f3), (.int .i64 c.f12.f0), (.int .i64 c.f12.f1), (.int .i64 c.f13), (.slice none 0 0)]) (t := 38) ?hr ?_; (case hd => rfl); (case hg => rfl); (case hr => first | (go_simp; done) | (go_simp; rfl)); intro gx hg_ w1 hbox_ hbel_; have HX := Aside0.mk hbox_; have HL := Aside0.mk hbel_; clear hbox_ hbel_; have HG := Aside0.mk hg_; clear hg_))
   have HB1 := Aside0.mk (H.out.below HL.out)
   have a24 : w1.cell? ⟨B, 24, none⟩ = some (.bool s.busy) := (blk_cell HB1.out.blk 24).trans rfl
   rw [hbz] at a24
   go_wp2_with (first | (go_at_call 50; (with_reducible refine (askNoneOk _ B bl q s HB1.out HI.out).mono ?_); rintro e1 wq_ ⟨rfl, hwq_⟩; rw [hwq_]; clear hwq_ wq_) | (go_at_call 51; (with_reducible refine (isNotC _ g HGG.out).mono ?_); rintro e1 wq_ ⟨rfl, hwq_⟩; rw [hwq_]; clear hwq_ wq_))
   go_ret
   exact ⟨rfl, (H.out.below HL.out).mono (Nat.le_succ _), Upd.of_below HL.out _⟩
end Go.Proofs.Ytonedijkgddepaa.P
