/- front.Asker, by hand: Tick. No conditions. -/
import Derived.Test.YtonedijkgddepaaSq
import Derived.Test.YtonedijkgddepaaFC
import Derived.Test.YtonedijkgddepaaFW
import Derived.BigQuiet
import Derived.Deep.QuietTactic
namespace Go.Proofs.Ytonedijkgddepaa.P
open Go.Sq
open Go.RowKit Go.Maps Go.Proofs.YtonedijkgddepaaW.PrintWords Go.Proofs.YtonedijkgddepaaW.PrintLast Go.Proofs.YtonedijkgddepaaW.PrintMore
set_option linter.unusedVariables false
set_option linter.unusedSimpArgs false

set_option maxRecDepth 100000 in
theorem cloneNil45 (w : World) : Calls Try.prog 45 #[.slice none 0 0] w fun e' w' => e' = .returned (.slice none 0 0) ∧ w' = w := by
 have q : ∀ (w : World) (a : Option Addr) (n c n' c' : Nat), (binOp .eql 36 (.slice a n c) (.slice none n' c')).run Try.prog w = .ok (.bool a.isNone) w := fun w a n c n' c' => Lib.run_eql_slice_nil w _ _ a n c n' c' Try.underlying36
 go_enter Try.func45, Try.ntmps45
 go_wp2
 go_ret
 exact ⟨rfl, rfl⟩
theorem R_one {α : Type} {d : Kd α} (W : World) (base e : Nat) (x : α) (cs : List Value) (hM : d.M W base (fun _ => True) x cs) (hb : base ≤ W.heap.size) (hs : cs.length = d.sz) : d.R e (W.alloc (.cells cs.toArray e)) base (fun _ => True) (.slice (some ⟨W.heap.size, 0, none⟩) 1 1) [x] := by
 refine ⟨fun _ _ => trivial, cs, ?_, ?_⟩
 ·have h2 := World.ownsRow_lit (base := base) (e := e) (size := d.sz) W cs.toArray 1 hb (by unfold maxLen; omega) (by simpa using hs)
  simpa using h2
 ·refine ⟨by simpa using hs, fun j p hj => ?_⟩
  rcases j with _ | j
  ·have hp : x = p := by simpa using hj
   subst hp
   have h3 : d.M (W.alloc (.cells cs.toArray e)) base (fun k => True ∧ some k ≠ (Value.slice (some ⟨W.heap.size, 0, none⟩) 1 1).ownBlock) x cs := d.M_mono (fun k hk => ⟨trivial, fun he => by
    have h4 : k = W.heap.size := by simpa [Value.ownBlock] using he
    have := hk.2.2.1
    omega⟩) (Kd.M_below (d.M_bound hM) (below_alloc (Below.refl _ _) _))
   simpa [← hs] using h3
  ·simp at hj
def askPk (s : As) : S47 := ⟨2, -s.id, getG 0 s.group s.lead, s.group, z31, s.cmd, z42, z45, []⟩
def sendV (s : As) : As := { s with sent := true, waited := 0 }
def tickV (s : As) : As × List S47 := if s.busy = true then (if s.sent = true then (if s.waited < s.retry then ({ s with waited := s.waited + 1 }, []) else (sendV (nextV s), [askPk (sendV (nextV s))])) else (sendV s, [askPk (sendV s)])) else (s, [])
theorem sendV_ok {s : As} {q : Nat} (hk : s.ok q) : (sendV s).ok q := ⟨hk.id1, hk.nodes1, hk.retry1, hk.num1, hk.group1, ⟨Int.le_refl _, by show (0 : Int) ≤ 1000; omega⟩, hk.lead1, hk.q1, hk.data0⟩
theorem tickV_ok {s : As} {q : Nat} (hk : s.ok q) : (tickV s).1.ok q := by
 unfold tickV
 split
 ·split
  ·split
   ·rename_i h
    exact ⟨hk.id1, hk.nodes1, hk.retry1, hk.num1, hk.group1, by have h1 := hk.waited1; have h2 := hk.retry1; show 0 ≤ s.waited + 1 ∧ s.waited + 1 ≤ 1000; omega, hk.lead1, hk.q1, hk.data0⟩
   ·exact sendV_ok (nextV_ok hk)
  ·exact sendV_ok hk
 ·exact hk
theorem neg_w {x : Int} (h : 1 ≤ x ∧ x ≤ 1099511627776) : wrap64 (-x) = -x := by unfold wrap64; omega
set_option maxHeartbeats 4000000 in
set_option maxRecDepth 100000 in
theorem askTick (w : World) (B bl q : Nat) (s : As) (h : AskAt w B bl q s) (hk : s.ok q) :
  Calls Try.prog 22 #[.pointer (some ⟨B, 0, none⟩)] w fun e' w' => ∃ v, e' = .returned v ∧ Kd.R k47 47 w' w.heap.size (fun _ => True) v (tickV s).2 ∧ AskAt w' B bl (q + 1) (tickV s).1 ∧ Upd w w' (SA B bl) := by
 have H := Aside0.mk h
 have HK := Aside0.mk hk
 have HI := Aside0.mk (show s.id ≠ 0 by have := hk.id1; omega)
 have HB := Aside0.mk h.blk
 clear h hk
 cases hbz : s.busy with
 | false =>
  have HV := Aside0.mk (show tickV s = (s, []) by unfold tickV; rw [if_neg (by rw [hbz]; decide)])
  rw [HV.out]
  have h31 := fun (W : World) (hh : AskAt W B bl q s) => askBusyOk W B bl q s hh HI.out
  rw [hbz] at h31
  have H31 := Aside0.mk h31
  clear h31 hbz
  go_enter Try.func22, Try.ntmps22
  go_wp2_with (go_at_call 31; (with_reducible refine (H31.out _ H.out).mono ?_); rintro e1 w1 ⟨rfl, rfl⟩)
  go_ret
  exact ⟨_, rfl, Kd.R_nil _ _ _ _ _, H.out.mono (Nat.le_succ _), Upd.refl _ _⟩
 | true =>
  have h31 := fun (W : World) (hh : AskAt W B bl q s) => askBusyOk W B bl q s hh HI.out
  rw [hbz] at h31
  have H31 := Aside0.mk h31
  clear h31
  cases hsz : s.sent with
  | true =>
   have a25 : w.cell? ⟨B, 25, none⟩ = some (.bool s.sent) := (blk_cell HB.out 25).trans rfl
   have a26 : w.cell? ⟨B, 26, none⟩ = some (.int .i64 s.waited) := (blk_cell HB.out 26).trans rfl
   have a2 : w.cell? ⟨B, 2, none⟩ = some (.int .i64 s.retry) := (blk_cell HB.out 2).trans rfl
   have az26 := blk_frozen HB.out 26
   rw [hsz] at a25
   by_cases hwr : s.waited < s.retry
   ·have HV := Aside0.mk (show tickV s = ({ s with waited := s.waited + 1 }, []) by unfold tickV; rw [if_pos hbz, if_pos hsz, if_pos hwr])
    rw [HV.out]
    have f1 : decide (s.waited < s.retry) = true := decide_eq_true hwr
    have hw1 : wrap64 (s.waited + 1) = s.waited + 1 := by have h1 := HK.out.waited1; unfold wrap64; omega
    clear hwr hbz hsz
    go_enter Try.func22, Try.ntmps22
    go_wp2_with (go_at_call 31; (with_reducible refine (H31.out _ H.out).mono ?_); rintro e1 w1 ⟨rfl, rfl⟩)
    go_quiet (fail)
    go_wp2
    go_ret
    exact ⟨_, rfl, Kd.R_nil _ _ _ _ _, ⟨askSet (s := s) (s' := { s with waited := s.waited + 1 }) (w := w1.drewN _) (blk_drewN H.out.blk _) 26 _ rfl, (H.out.mono (Nat.le_succ q)).map.keep (Below.heap_setCell _ _ _ _ H.out.lt.2.2.symm) (fun _ _ h => h)⟩, (Upd.drew _ _ _).and ((Upd.set _ ⟨B, 26, none⟩ _).mono (fun k hk => Or.inl hk))⟩
   ·have HV := Aside0.mk (show tickV s = (sendV (nextV s), [askPk (sendV (nextV s))]) by unfold tickV; rw [if_pos hbz, if_pos hsz, if_neg hwr])
    rw [HV.out]
    have f1 : decide (s.waited < s.retry) = false := decide_eq_false hwr
    clear hwr hbz hsz
    go_enter Try.func22, Try.ntmps22
    go_wp2_with (go_at_call 31; (with_reducible refine (H31.out _ H.out).mono ?_); rintro e1 w1 ⟨rfl, rfl⟩)
    go_quiet (fail)
    go_upto_region 8 with (go_at_call 44; (with_reducible refine (askNext _ B bl q s (H.out.below (pw_below_drewN (Below.refl _ _) _)) HK.out).mono ?_); rintro e1 wa ⟨rfl, hn1, hn2⟩; have HT := Aside0.mk hn1; have HU := Aside0.mk ((Upd.drew w1 _ (SA B bl)).and hn2); clear hn1 hn2)
    have HKT := Aside0.mk (nextV_ok HK.out)
    have HBT := Aside0.mk HT.out.blk
    have HBL := Aside0.mk HT.out.lt.2.2
    obtain ⟨t, ht⟩ : ∃ t, t = nextV s := ⟨_, rfl⟩
    rw [← ht] at HKT HBT HT
    have HTE := Aside0.mk ht
    clear ht
    have a25 : wa.cell? ⟨B, 25, none⟩ = some (.bool t.sent) := (blk_cell HBT.out 25).trans rfl
    have a26 : wa.cell? ⟨B, 26, none⟩ = some (.int .i64 t.waited) := (blk_cell HBT.out 26).trans rfl
    have az25 := blk_frozen HBT.out 25
    have az26 := blk_frozen HBT.out 26
    go_upto_region 9 with (fail)
    clear a25 a26 az25 az26
    obtain ⟨wb8, hwb⟩ : ∃ wb, wb = (wa.setCell ⟨B, 25, none⟩ (.bool true)).setCell ⟨B, 26, none⟩ (.int .i64 0) := ⟨_, rfl⟩
    rw [← hwb]
    have HB8 := Aside0.mk (show wb8.heap[B]? = some (.cells (askA (sendV t) bl) 97 (0, 0)) by rw [hwb]; exact askSet (s := { t with sent := true }) (s' := sendV t) (askSet (s' := { t with sent := true }) HBT.out 25 _ rfl) 26 _ rfl)
    have U8 := Aside0.mk (show Upd wa wb8 (SA B bl) by rw [hwb]; exact ((Upd.set _ ⟨B, 25, none⟩ _).mono (fun k hk => Or.inl hk)).and ((Upd.set _ ⟨B, 26, none⟩ _).mono (fun k hk => Or.inl hk)))
    have MP8 := Aside0.mk (show MapAt NumP (.int .i64 0) wb8 bl (q + 1) t.lead by rw [hwb]; exact HT.out.map.keep ((Below.heap_setCell _ _ _ _ HBL.out.symm).trans (Below.heap_setCell _ _ _ _ HBL.out.symm)) (fun _ _ h => h))
    clear hwb
    go_upto_region 10 with (first | ((with_reducible refine gate_ (.load 38 (.tmp 43)) rfl ?_); refine load_blk rfl 38 _ rfl B 5 rfl HB8.out [(.int .i64 t.cmd.f0), (.int .i64 t.cmd.f1), (.int .i64 t.cmd.f2), (.int .i64 t.cmd.f3), (.int .i64 t.cmd.f4), (.string t.cmd.f5), (.string t.cmd.f6), (.string t.cmd.f7), (.string t.cmd.f8), (.int .i64 t.cmd.f9), (.int .i64 t.cmd.f10), (.int .i64 t.cmd.f11.f0), (.string t.cmd.f11.f1), (.int .i64 t.cmd.f11.f2), (.int .i64 t.cmd.f11.f3), (.int .i64 t.cmd.f12.f0), (.int .i64 t.cmd.f12.f1), (.int .i64 t.cmd.f13), (.slice none 0 0)] rfl Try.underlying38 rfl (by kernel_rfl) ?_) | ((with_reducible refine gate_dst (N := 3) rfl ?_); refine box_event ?hg (N := 3) ?hd (cs := #[(.int .i64 0), (.int .i64 0), (.int .i64 0), (.int .i64 0), (.int .i64 0), (.string (⟨#[]⟩ : ByteArray)), (.string (⟨#[]⟩ : ByteArray)), (.string (⟨#[]⟩ : ByteArray)), (.string (⟨#[]⟩ : ByteArray)), (.int .i64 0), (.int .i64 0), (.int .i64 0), (.string (⟨#[]⟩ : ByteArray)), (.int .i64 0), (.int .i64 0), (.int .i64 0), (.int .i64 0), (.int .i64 0), (.slice none 0 0)]) (t := 38) ?hr ?_; (case hd => rfl); (case hg => rfl); (case hr => first | (go_simp; done) | (go_simp; rfl)); intro gx hg_ wb9 hbox_ hbel_; have HX9 := Aside0.mk hbox_; have HL9 := Aside0.mk hbel_; clear hbox_ hbel_; have HG9 := Aside0.mk hg_; clear hg_) | ((with_reducible refine gate_ (.store 38 (.tmp 3) (.tmp 44)) rfl ?_); refine store_blk rfl 38 _ _ rfl gx 0 [(.int .i64 t.cmd.f0), (.int .i64 t.cmd.f1), (.int .i64 t.cmd.f2), (.int .i64 t.cmd.f3), (.int .i64 t.cmd.f4), (.string t.cmd.f5), (.string t.cmd.f6), (.string t.cmd.f7), (.string t.cmd.f8), (.int .i64 t.cmd.f9), (.int .i64 t.cmd.f10), (.int .i64 t.cmd.f11.f0), (.string t.cmd.f11.f1), (.int .i64 t.cmd.f11.f2), (.int .i64 t.cmd.f11.f3), (.int .i64 t.cmd.f12.f0), (.int .i64 t.cmd.f12.f1), (.int .i64 t.cmd.f13), (.slice none 0 0)] rfl rfl HX9.out (Nat.le_of_ble_eq_true rfl) (by kernel_rfl) (by rfl) #[(.int .i64 t.cmd.f0), (.int .i64 t.cmd.f1), (.int .i64 t.cmd.f2), (.int .i64 t.cmd.f3), (.int .i64 t.cmd.f4), (.string t.cmd.f5), (.string t.cmd.f6), (.string t.cmd.f7), (.string t.cmd.f8), (.int .i64 t.cmd.f9), (.int .i64 t.cmd.f10), (.int .i64 t.cmd.f11.f0), (.string t.cmd.f11.f1), (.int .i64 t.cmd.f11.f2), (.int .i64 t.cmd.f11.f3), (.int .i64 t.cmd.f12.f0), (.int .i64 t.cmd.f12.f1), (.int .i64 t.cmd.f13), (.slice none 0 0)] (by rfl) ?_; intro wb hnb_ hup_; have HX3 := Aside0.mk hnb_; have HU3 := Aside0.mk hup_; clear hnb_ hup_))
    have hng9 : B ≠ gx := fun e => by have h1 := blk_lt HB8.out; have h2 := HG9.out; omega
    have hnl9 : bl ≠ gx := fun e => by have h1 := MP8.out.lt; have h2 := HG9.out; omega
    have HB3 := Aside0.mk (HU3.out.block (blk_below HB8.out HL9.out) hng9)
    have U3 := Aside0.mk ((U8.out.and (Upd.of_below HL9.out (SA B bl))).trans HU3.out (fun k hk => Or.inr (by have h1 := U8.out.kept.1; have h2 := HG9.out; omega)))
    have MP3 := Aside0.mk ((MP8.out.keep (HL9.out.block _ MP8.out.lt) (fun _ _ h => h)).keep (P' := NumP) (HU3.out.kept.2 _ (Nat.lt_of_lt_of_le MP8.out.lt HL9.out.size) hnl9) (fun _ _ h => h))
    have NG9 := Aside0.mk (And.intro hng9 hnl9)
    clear hng9 hnl9
    have x18 : wb.cell? ⟨gx, 18, none⟩ = some (.slice none 0 0) := (blk_cell HX3.out 18).trans rfl
    have xz := blk_frozen HX3.out 18
    go_upto_region 11 with (first | (go_at_call 45; (with_reducible refine (cloneNil45 _).mono ?_); rintro e1 wq_ ⟨rfl, hwq_⟩; rw [hwq_]; clear hwq_ wq_))
    clear x18 xz
    have n1 := Aside0.mk (blk_far HB3.out (p := ⟨gx, 18, none⟩) NG9.out.1 (.slice none 0 0))
    have n2 := Aside0.mk (show (wb.setCell ⟨gx, 18, none⟩ (.slice none 0 0)).heap[gx]? = some (.cells #[(.int .i64 t.cmd.f0), (.int .i64 t.cmd.f1), (.int .i64 t.cmd.f2), (.int .i64 t.cmd.f3), (.int .i64 t.cmd.f4), (.string t.cmd.f5), (.string t.cmd.f6), (.string t.cmd.f7), (.string t.cmd.f8), (.int .i64 t.cmd.f9), (.int .i64 t.cmd.f10), (.int .i64 t.cmd.f11.f0), (.string t.cmd.f11.f1), (.int .i64 t.cmd.f11.f2), (.int .i64 t.cmd.f11.f3), (.int .i64 t.cmd.f12.f0), (.int .i64 t.cmd.f12.f1), (.int .i64 t.cmd.f13), (.slice none 0 0)] 38 (0, 0)) from blk_set HX3.out 18 _)
    have n3 := Aside0.mk (U3.out.trans (Upd.set wb ⟨gx, 18, none⟩ (.slice none 0 0)) (fun k hk => Or.inr (by have h1 := U8.out.kept.1; have h2 := HG9.out; have h3 : k = gx := hk; omega)))
    have n4 := Aside0.mk (MP3.out.keep (w' := wb.setCell ⟨gx, 18, none⟩ (.slice none 0 0)) (P' := NumP) (Below.heap_setCell _ _ _ _ NG9.out.2) (fun _ _ h => h))
    clear HB3 HX3 U3 MP3 HU3
    have HB3 := n1
    have HX3 := n2
    have U3 := n3
    have MP3 := n4
    clear n1 n2 n3 n4
    generalize wb.setCell ⟨gx, 18, none⟩ (.slice none 0 0) = wb2 at HB3 HX3 U3 MP3 ⊢
    have HL := Aside0.mk (fun (w' : World) (hb : Below wb2.heap.size wb2 w') => MapAt.look (t := 95) (MP3.out.keep (hb.block _ MP3.out.lt) (fun _ _ h => h)) Try.underlying95 t.group (by have := HKT.out.group1; omega))
    have hng := neg_w HKT.out.id1
    refine start_ (n := 22) (S := fun w' => Below wb2.heap.size wb2 w') (ds := []) (bq 22 0) (by kernel_rfl) rfl rfl (below_drew (Below.refl _ _)) (fun hHeld => ?_)
    generalize wb2.drew = wd at hHeld ⊢
    refine pu 0 49 (bq 22 1) ?_ rfl rfl (by kernel_rfl) (fun _ _ _ h => h) (by rfl) ?_ ?_ ?_ ?_
    rotate_left
    ·intro w'; go_simp; with_reducible rfl
    rotate_left
    ·simp only [Act.put, sqA, sqB, sqC, i64_w, i32_w]
     rfl
    refine pu 1 50 (bq 22 3) ?_ rfl rfl (by kernel_rfl) (fun _ _ _ h => h) (by rfl) ?_ ?_ ?_ ?_
    rotate_left
    ·intro w'; go_simp; with_reducible rfl
    rotate_left
    ·simp only [Act.put, sqA, sqB, sqC, i64_w, i32_w]
     rfl
    refine pu 2 51 (bq 22 7) ?_ rfl rfl (by kernel_rfl) (fun _ _ _ h => h) (by rfl) ?_ ?_ ?_ ?_
    rotate_left
    ·intro w'; go_simp; with_reducible rfl
    rotate_left
    ·simp only [Act.put, sqA, sqB, sqC, i64_w, i32_w]
     rfl
    refine pu 5 54 (bq 22 39) ?_ rfl rfl (by kernel_rfl) (fun _ _ _ h => h) (by rfl) ?_ ?_ ?_ ?_
    rotate_left
    ·intro w'; go_simp; with_reducible rfl
    rotate_left
    ·simp only [Act.put, sqA, sqB, sqC, i64_w, i32_w]
     rfl
    refine pu 6 55 (bq 22 103) ?_ rfl rfl (by kernel_rfl) (fun _ _ _ h => h) (by rfl) ?_ ?_ ?_ ?_
    rotate_left
    ·intro w'; go_simp; with_reducible rfl
    rotate_left
    ·simp only [Act.put, sqA, sqB, sqC, i64_w, i32_w]
     rfl
    refine pu 7 56 (bq 22 231) ?_ rfl rfl (by kernel_rfl) (fun _ _ _ h => h) (by rfl) ?_ ?_ ?_ ?_
    rotate_left
    ·intro w'; go_simp; with_reducible rfl
    rotate_left
    ·simp only [Act.put, sqA, sqB, sqC, i64_w, i32_w]
     rfl
    refine pu 9 58 (bq 22 743) ?_ rfl rfl (by kernel_rfl) (fun _ _ _ h => h) (by rfl) ?_ ?_ ?_ ?_
    rotate_left
    ·intro w'; go_simp; with_reducible rfl
    rotate_left
    ·simp only [Act.put, sqA, sqB, sqC, i64_w, i32_w]
     rfl
    refine pu 10 59 (bq 22 1767) ?_ rfl rfl (by kernel_rfl) (fun _ _ _ h => h) (by rfl) ?_ ?_ ?_ ?_
    rotate_left
    ·intro w'; go_simp; with_reducible rfl
    rotate_left
    ·simp only [Act.put, sqA, sqB, sqC, i64_w, i32_w]
     rfl
    refine pu 11 60 (bq 22 3815) ?_ rfl rfl (by kernel_rfl) (fun _ _ _ h => h) (by rfl) ?_ ?_ ?_ ?_
    rotate_left
    ·intro w'; go_simp; with_reducible rfl
    rotate_left
    ·simp only [Act.put, sqA, sqB, sqC, i64_w, i32_w]
     rfl
    refine pu 14 63 (bq 22 20199) ?_ rfl rfl (by kernel_rfl) (fun _ _ _ h => h) (by rfl) ?_ ?_ ?_ ?_
    rotate_left
    ·intro w'; go_simp; with_reducible rfl
    rotate_left
    ·simp only [Act.put, sqA, sqB, sqC, i64_w, i32_w]
     rfl
    refine pu 15 64 (bq 22 52967) ?_ rfl rfl (by kernel_rfl) (fun _ _ _ h => h) (by rfl) ?_ ?_ ?_ ?_
    rotate_left
    ·intro w'; go_simp; with_reducible rfl
    rotate_left
    ·simp only [Act.put, sqA, sqB, sqC, i64_w, i32_w]
     rfl
    refine pu 16 65 (bq 22 118503) ?_ rfl rfl (by kernel_rfl) (fun _ _ _ h => h) (by rfl) ?_ ?_ ?_ ?_
    rotate_left
    ·intro w'; go_simp; with_reducible rfl
    rotate_left
    ·simp only [Act.put, sqA, sqB, sqC, i64_w, i32_w]
     rfl
    refine tk 3 52 (bq 22 118511) ?_ rfl rfl (by kernel_rfl) (fun _ _ _ h => h) (by rfl) ?_ hHeld ?_ ?_ ?_
    rotate_left
    ·intro w' hw'
     have s0 := (blk_cell (blk_below HB3.out hw') 0).trans (show _ = some (.int .i64 t.id) from rfl)
     go_simp
     with_reducible rfl
    rotate_left
    ·simp only [Act.put, sqA, sqB, sqC, i64_w, i32_w]
     rfl
    refine pu 4 53 (bq 22 118527) ?_ rfl rfl (by kernel_rfl) (fun _ _ _ h => h) (by rfl) ?_ ?_ ?_ ?_
    rotate_left
    ·intro w'; go_simp; with_reducible rfl
    rotate_left
    ·simp only [Act.put, sqA, sqB, sqC, i64_w, i32_w]
     rfl
    refine tk 8 57 (bq 22 118783) ?_ rfl rfl (by kernel_rfl) (fun _ _ _ h => h) (by rfl) ?_ hHeld ?_ ?_ ?_
    rotate_left
    ·intro w' hw'
     have s0 := (blk_cell (blk_below HB3.out hw') 27).trans (show _ = some (.map (some bl)) from rfl)
     go_simp
     with_reducible rfl
    rotate_left
    ·simp only [Act.put, sqA, sqB, sqC, i64_w, i32_w]
     rfl
    refine tk 12 61 (bq 22 122879) ?_ rfl rfl (by kernel_rfl) (fun _ _ _ h => h) (by rfl) ?_ hHeld ?_ ?_ ?_
    rotate_left
    ·intro w' hw'
     have s0 := (blk_cell (blk_below HB3.out hw') 4).trans (show _ = some (.int .i64 t.group) from rfl)
     go_simp
     with_reducible rfl
    rotate_left
    ·simp only [Act.put, sqA, sqB, sqC, i64_w, i32_w]
     rfl
    refine tk 13 62 (bq 22 131071) ?_ rfl rfl (by kernel_rfl) (fun _ _ _ h => h) (by rfl) ?_ hHeld ?_ ?_ ?_
    rotate_left
    ·intro w' hw'
     have s0 := HL.out w' hw'
     go_simp
     with_reducible rfl
    rotate_left
    ·simp only [Act.put, sqA, sqB, sqC, i64_w, i32_w]
     rfl
    refine tk 17 66 (bq 22 262143) ?_ rfl rfl (by kernel_rfl) (fun _ _ _ h => h) (by rfl) ?_ hHeld ?_ ?_ ?_
    rotate_left
    ·intro w' hw'
     have s0 := (blk_cell (blk_below HB3.out hw') 4).trans (show _ = some (.int .i64 t.group) from rfl)
     go_simp
     with_reducible rfl
    rotate_left
    ·simp only [Act.put, sqA, sqB, sqC, i64_w, i32_w]
     rfl
    refine take_ (i := 18) (N := some 67) (a' := ?_) (bq 22 524287) rfl rfl (by kernel_rfl) (fun _ _ _ h => h) (yields_blk (by rfl) 38 _ rfl gx 0 rfl [(.int .i64 t.cmd.f0), (.int .i64 t.cmd.f1), (.int .i64 t.cmd.f2), (.int .i64 t.cmd.f3), (.int .i64 t.cmd.f4), (.string t.cmd.f5), (.string t.cmd.f6), (.string t.cmd.f7), (.string t.cmd.f8), (.int .i64 t.cmd.f9), (.int .i64 t.cmd.f10), (.int .i64 t.cmd.f11.f0), (.string t.cmd.f11.f1), (.int .i64 t.cmd.f11.f2), (.int .i64 t.cmd.f11.f3), (.int .i64 t.cmd.f12.f0), (.int .i64 t.cmd.f12.f1), (.int .i64 t.cmd.f13), (.slice none 0 0)] rfl (fun w' hw' => blk_below HX3.out hw') Try.underlying38 rfl (by kernel_rfl)) hHeld ?_ ?_
    rotate_left
    ·simp only [Act.put, sqA, sqB, sqC, i64_w, i32_w]
     rfl
    refine pu 19 68 (bq 22 1048575) ?_ rfl rfl (by kernel_rfl) (fun _ _ _ h => h) (by rfl) ?_ ?_ ?_ ?_
    rotate_left
    ·intro w'; go_simp; with_reducible rfl
    rotate_left
    ·simp only [Act.put, sqA, sqB, sqC, i64_w, i32_w]
     rfl
    refine one_ (i := 20) (N := some 69) (bq 22 2097151) rfl rfl (by kernel_rfl) (by decide) (fun K hK => ?_)
    refine value_ (w1 := ?_) (v := ?_) (by rfl) rfl ?_ ?_
    rotate_left 2
    ·go_simp
     constructor
     ·rfl
     ·rfl
    refine hK.out _ _ (below_alloc hHeld _) ?_
    intro _
    clear hK K
    refine norm_ (a' := ?_) ?_ ?_
    rotate_left
    ·show Act.put _ (some 69) _ = _; simp only [Act.put, sqA, sqB, sqC, i64_w, i32_w]
     rfl
    refine pu 21 2 (bq 22 4194303) ?_ rfl rfl (by kernel_rfl) (fun _ _ _ h => h) (by rfl) ?_ ?_ ?_ ?_
    rotate_left
    ·intro w'; go_simp; with_reducible rfl
    rotate_left
    ·simp only [Act.put, sqA, sqB, sqC, i64_w, i32_w]
     rfl
    refine done_ (by kernel_rfl) ?_
    go_wp2
    go_ret
    rw [hng, ← HTE.out]
    have hDW := Upd.and HU.out (U3.out.and (Upd.of_below hHeld _))
    have hd : Kd.string.R 9 wd w1.heap.size (fun _ => True) (.slice none 0 0) t.cmd.f14 := by rw [HKT.out.data0]; exact Kd.R_nil _ _ _ _ _
    have hM : k47.M wd w1.heap.size (fun _ => True) (askPk (sendV t)) [(.int .i64 2), (.int .i64 (-t.id)), (.int .i64 (getG 0 t.group t.lead)), (.int .i64 t.group), (.int .i64 0), (.int .i64 0), (.int .i64 0), (.int .i64 0), (.int .i64 0), (.int .i64 0), (.slice none 0 0), (.slice none 0 0), (.int .i64 t.cmd.f0), (.int .i64 t.cmd.f1), (.int .i64 t.cmd.f2), (.int .i64 t.cmd.f3), (.int .i64 t.cmd.f4), (.string t.cmd.f5), (.string t.cmd.f6), (.string t.cmd.f7), (.string t.cmd.f8), (.int .i64 t.cmd.f9), (.int .i64 t.cmd.f10), (.int .i64 t.cmd.f11.f0), (.string t.cmd.f11.f1), (.int .i64 t.cmd.f11.f2), (.int .i64 t.cmd.f11.f3), (.int .i64 t.cmd.f12.f0), (.int .i64 t.cmd.f12.f1), (.int .i64 t.cmd.f13), (.slice none 0 0), (.int .i64 0), (.int .i64 0), (.int .i64 0), (.slice none 0 0), (.slice none 0 0), (.slice none 0 0), (.int .i64 0), (.slice none 0 0), (.slice none 0 0)] := k47_mkM wd _ _ (askPk (sendV t)) (Kd.R_nil _ _ _ _ _) (Kd.R_nil _ _ _ _ _) hd (Kd.R_nil _ _ _ _ _) (Kd.R_nil _ _ _ _ _) (Kd.R_nil _ _ _ _ _) (Kd.R_nil _ _ _ _ _) (Kd.R_nil _ _ _ _ _)
    have hR := R_one wd w1.heap.size 47 (askPk (sendV t)) _ hM hDW.kept.1 rfl
    exact ⟨_, rfl, hR, ⟨blk_alloc (blk_below HB3.out hHeld) _, (MP3.out.keep (hHeld.block _ MP3.out.lt) (fun _ _ h => h)).keep (Below.heap_alloc _ _ _ (Nat.lt_of_lt_of_le MP3.out.lt hHeld.size)) (fun _ _ h => h)⟩, hDW.and (Upd.of_below (below_alloc (Below.refl _ _) _) _)⟩
  | false =>
   have a25 : w.cell? ⟨B, 25, none⟩ = some (.bool s.sent) := (blk_cell HB.out 25).trans rfl
   rw [hsz] at a25
   have HV := Aside0.mk (show tickV s = (sendV s, [askPk (sendV s)]) by unfold tickV; rw [if_pos hbz, if_neg (by rw [hsz]; decide)])
   rw [HV.out]
   clear hbz hsz
   go_enter Try.func22, Try.ntmps22
   go_wp2_with (go_at_call 31; (with_reducible refine (H31.out _ H.out).mono ?_); rintro e1 w1 ⟨rfl, rfl⟩)
   go_quiet (fail)
   go_upto_region 8 with (fail)
   rename Nat => nq_
   have HT := Aside0.mk ((H.out.mono (Nat.le_succ q)).below (pw_below_drewN (Below.refl w1.heap.size w1) nq_))
   have HU := Aside0.mk (Upd.drew w1 nq_ (SA B bl))
   generalize w1.drewN nq_ = wa at HT HU ⊢
   obtain ⟨t, ht⟩ : ∃ t, t = s := ⟨_, rfl⟩
   rw [← ht] at HT
   have HKT := Aside0.mk (show t.ok q by rw [ht]; exact HK.out)
   have HBT := Aside0.mk HT.out.blk
   have HBL := Aside0.mk HT.out.lt.2.2
   have HTE := Aside0.mk ht
   clear ht
   have a25 : wa.cell? ⟨B, 25, none⟩ = some (.bool t.sent) := (blk_cell HBT.out 25).trans rfl
   have a26 : wa.cell? ⟨B, 26, none⟩ = some (.int .i64 t.waited) := (blk_cell HBT.out 26).trans rfl
   have az25 := blk_frozen HBT.out 25
   have az26 := blk_frozen HBT.out 26
   go_upto_region 9 with (fail)
   clear a25 a26 az25 az26
   obtain ⟨wb8, hwb⟩ : ∃ wb, wb = (wa.setCell ⟨B, 25, none⟩ (.bool true)).setCell ⟨B, 26, none⟩ (.int .i64 0) := ⟨_, rfl⟩
   rw [← hwb]
   have HB8 := Aside0.mk (show wb8.heap[B]? = some (.cells (askA (sendV t) bl) 97 (0, 0)) by rw [hwb]; exact askSet (s := { t with sent := true }) (s' := sendV t) (askSet (s' := { t with sent := true }) HBT.out 25 _ rfl) 26 _ rfl)
   have U8 := Aside0.mk (show Upd wa wb8 (SA B bl) by rw [hwb]; exact ((Upd.set _ ⟨B, 25, none⟩ _).mono (fun k hk => Or.inl hk)).and ((Upd.set _ ⟨B, 26, none⟩ _).mono (fun k hk => Or.inl hk)))
   have MP8 := Aside0.mk (show MapAt NumP (.int .i64 0) wb8 bl (q + 1) t.lead by rw [hwb]; exact HT.out.map.keep ((Below.heap_setCell _ _ _ _ HBL.out.symm).trans (Below.heap_setCell _ _ _ _ HBL.out.symm)) (fun _ _ h => h))
   clear hwb
   go_upto_region 10 with (first | ((with_reducible refine gate_ (.load 38 (.tmp 43)) rfl ?_); refine load_blk rfl 38 _ rfl B 5 rfl HB8.out [(.int .i64 t.cmd.f0), (.int .i64 t.cmd.f1), (.int .i64 t.cmd.f2), (.int .i64 t.cmd.f3), (.int .i64 t.cmd.f4), (.string t.cmd.f5), (.string t.cmd.f6), (.string t.cmd.f7), (.string t.cmd.f8), (.int .i64 t.cmd.f9), (.int .i64 t.cmd.f10), (.int .i64 t.cmd.f11.f0), (.string t.cmd.f11.f1), (.int .i64 t.cmd.f11.f2), (.int .i64 t.cmd.f11.f3), (.int .i64 t.cmd.f12.f0), (.int .i64 t.cmd.f12.f1), (.int .i64 t.cmd.f13), (.slice none 0 0)] rfl Try.underlying38 rfl (by kernel_rfl) ?_) | ((with_reducible refine gate_dst (N := 3) rfl ?_); refine box_event ?hg (N := 3) ?hd (cs := #[(.int .i64 0), (.int .i64 0), (.int .i64 0), (.int .i64 0), (.int .i64 0), (.string (⟨#[]⟩ : ByteArray)), (.string (⟨#[]⟩ : ByteArray)), (.string (⟨#[]⟩ : ByteArray)), (.string (⟨#[]⟩ : ByteArray)), (.int .i64 0), (.int .i64 0), (.int .i64 0), (.string (⟨#[]⟩ : ByteArray)), (.int .i64 0), (.int .i64 0), (.int .i64 0), (.int .i64 0), (.int .i64 0), (.slice none 0 0)]) (t := 38) ?hr ?_; (case hd => rfl); (case hg => rfl); (case hr => first | (go_simp; done) | (go_simp; rfl)); intro gx hg_ wb9 hbox_ hbel_; have HX9 := Aside0.mk hbox_; have HL9 := Aside0.mk hbel_; clear hbox_ hbel_; have HG9 := Aside0.mk hg_; clear hg_) | ((with_reducible refine gate_ (.store 38 (.tmp 3) (.tmp 44)) rfl ?_); refine store_blk rfl 38 _ _ rfl gx 0 [(.int .i64 t.cmd.f0), (.int .i64 t.cmd.f1), (.int .i64 t.cmd.f2), (.int .i64 t.cmd.f3), (.int .i64 t.cmd.f4), (.string t.cmd.f5), (.string t.cmd.f6), (.string t.cmd.f7), (.string t.cmd.f8), (.int .i64 t.cmd.f9), (.int .i64 t.cmd.f10), (.int .i64 t.cmd.f11.f0), (.string t.cmd.f11.f1), (.int .i64 t.cmd.f11.f2), (.int .i64 t.cmd.f11.f3), (.int .i64 t.cmd.f12.f0), (.int .i64 t.cmd.f12.f1), (.int .i64 t.cmd.f13), (.slice none 0 0)] rfl rfl HX9.out (Nat.le_of_ble_eq_true rfl) (by kernel_rfl) (by rfl) #[(.int .i64 t.cmd.f0), (.int .i64 t.cmd.f1), (.int .i64 t.cmd.f2), (.int .i64 t.cmd.f3), (.int .i64 t.cmd.f4), (.string t.cmd.f5), (.string t.cmd.f6), (.string t.cmd.f7), (.string t.cmd.f8), (.int .i64 t.cmd.f9), (.int .i64 t.cmd.f10), (.int .i64 t.cmd.f11.f0), (.string t.cmd.f11.f1), (.int .i64 t.cmd.f11.f2), (.int .i64 t.cmd.f11.f3), (.int .i64 t.cmd.f12.f0), (.int .i64 t.cmd.f12.f1), (.int .i64 t.cmd.f13), (.slice none 0 0)] (by rfl) ?_; intro wb hnb_ hup_; have HX3 := Aside0.mk hnb_; have HU3 := Aside0.mk hup_; clear hnb_ hup_))
   have hng9 : B ≠ gx := fun e => by have h1 := blk_lt HB8.out; have h2 := HG9.out; omega
   have hnl9 : bl ≠ gx := fun e => by have h1 := MP8.out.lt; have h2 := HG9.out; omega
   have HB3 := Aside0.mk (HU3.out.block (blk_below HB8.out HL9.out) hng9)
   have U3 := Aside0.mk ((U8.out.and (Upd.of_below HL9.out (SA B bl))).trans HU3.out (fun k hk => Or.inr (by have h1 := U8.out.kept.1; have h2 := HG9.out; omega)))
   have MP3 := Aside0.mk ((MP8.out.keep (HL9.out.block _ MP8.out.lt) (fun _ _ h => h)).keep (P' := NumP) (HU3.out.kept.2 _ (Nat.lt_of_lt_of_le MP8.out.lt HL9.out.size) hnl9) (fun _ _ h => h))
   have NG9 := Aside0.mk (And.intro hng9 hnl9)
   clear hng9 hnl9
   have x18 : wb.cell? ⟨gx, 18, none⟩ = some (.slice none 0 0) := (blk_cell HX3.out 18).trans rfl
   have xz := blk_frozen HX3.out 18
   go_upto_region 11 with (first | (go_at_call 45; (with_reducible refine (cloneNil45 _).mono ?_); rintro e1 wq_ ⟨rfl, hwq_⟩; rw [hwq_]; clear hwq_ wq_))
   clear x18 xz
   have n1 := Aside0.mk (blk_far HB3.out (p := ⟨gx, 18, none⟩) NG9.out.1 (.slice none 0 0))
   have n2 := Aside0.mk (show (wb.setCell ⟨gx, 18, none⟩ (.slice none 0 0)).heap[gx]? = some (.cells #[(.int .i64 t.cmd.f0), (.int .i64 t.cmd.f1), (.int .i64 t.cmd.f2), (.int .i64 t.cmd.f3), (.int .i64 t.cmd.f4), (.string t.cmd.f5), (.string t.cmd.f6), (.string t.cmd.f7), (.string t.cmd.f8), (.int .i64 t.cmd.f9), (.int .i64 t.cmd.f10), (.int .i64 t.cmd.f11.f0), (.string t.cmd.f11.f1), (.int .i64 t.cmd.f11.f2), (.int .i64 t.cmd.f11.f3), (.int .i64 t.cmd.f12.f0), (.int .i64 t.cmd.f12.f1), (.int .i64 t.cmd.f13), (.slice none 0 0)] 38 (0, 0)) from blk_set HX3.out 18 _)
   have n3 := Aside0.mk (U3.out.trans (Upd.set wb ⟨gx, 18, none⟩ (.slice none 0 0)) (fun k hk => Or.inr (by have h1 := U8.out.kept.1; have h2 := HG9.out; have h3 : k = gx := hk; omega)))
   have n4 := Aside0.mk (MP3.out.keep (w' := wb.setCell ⟨gx, 18, none⟩ (.slice none 0 0)) (P' := NumP) (Below.heap_setCell _ _ _ _ NG9.out.2) (fun _ _ h => h))
   clear HB3 HX3 U3 MP3 HU3
   have HB3 := n1
   have HX3 := n2
   have U3 := n3
   have MP3 := n4
   clear n1 n2 n3 n4
   generalize wb.setCell ⟨gx, 18, none⟩ (.slice none 0 0) = wb2 at HB3 HX3 U3 MP3 ⊢
   have HL := Aside0.mk (fun (w' : World) (hb : Below wb2.heap.size wb2 w') => MapAt.look (t := 95) (MP3.out.keep (hb.block _ MP3.out.lt) (fun _ _ h => h)) Try.underlying95 t.group (by have := HKT.out.group1; omega))
   have hng := neg_w HKT.out.id1
   refine start_ (n := 22) (S := fun w' => Below wb2.heap.size wb2 w') (ds := []) (bq 22 0) (by kernel_rfl) rfl rfl (below_drew (Below.refl _ _)) (fun hHeld => ?_)
   generalize wb2.drew = wd at hHeld ⊢
   refine pu 0 49 (bq 22 1) ?_ rfl rfl (by kernel_rfl) (fun _ _ _ h => h) (by rfl) ?_ ?_ ?_ ?_
   rotate_left
   ·intro w'; go_simp; with_reducible rfl
   rotate_left
   ·simp only [Act.put, sqA, sqB, sqC, i64_w, i32_w]
    rfl
   refine pu 1 50 (bq 22 3) ?_ rfl rfl (by kernel_rfl) (fun _ _ _ h => h) (by rfl) ?_ ?_ ?_ ?_
   rotate_left
   ·intro w'; go_simp; with_reducible rfl
   rotate_left
   ·simp only [Act.put, sqA, sqB, sqC, i64_w, i32_w]
    rfl
   refine pu 2 51 (bq 22 7) ?_ rfl rfl (by kernel_rfl) (fun _ _ _ h => h) (by rfl) ?_ ?_ ?_ ?_
   rotate_left
   ·intro w'; go_simp; with_reducible rfl
   rotate_left
   ·simp only [Act.put, sqA, sqB, sqC, i64_w, i32_w]
    rfl
   refine pu 5 54 (bq 22 39) ?_ rfl rfl (by kernel_rfl) (fun _ _ _ h => h) (by rfl) ?_ ?_ ?_ ?_
   rotate_left
   ·intro w'; go_simp; with_reducible rfl
   rotate_left
   ·simp only [Act.put, sqA, sqB, sqC, i64_w, i32_w]
    rfl
   refine pu 6 55 (bq 22 103) ?_ rfl rfl (by kernel_rfl) (fun _ _ _ h => h) (by rfl) ?_ ?_ ?_ ?_
   rotate_left
   ·intro w'; go_simp; with_reducible rfl
   rotate_left
   ·simp only [Act.put, sqA, sqB, sqC, i64_w, i32_w]
    rfl
   refine pu 7 56 (bq 22 231) ?_ rfl rfl (by kernel_rfl) (fun _ _ _ h => h) (by rfl) ?_ ?_ ?_ ?_
   rotate_left
   ·intro w'; go_simp; with_reducible rfl
   rotate_left
   ·simp only [Act.put, sqA, sqB, sqC, i64_w, i32_w]
    rfl
   refine pu 9 58 (bq 22 743) ?_ rfl rfl (by kernel_rfl) (fun _ _ _ h => h) (by rfl) ?_ ?_ ?_ ?_
   rotate_left
   ·intro w'; go_simp; with_reducible rfl
   rotate_left
   ·simp only [Act.put, sqA, sqB, sqC, i64_w, i32_w]
    rfl
   refine pu 10 59 (bq 22 1767) ?_ rfl rfl (by kernel_rfl) (fun _ _ _ h => h) (by rfl) ?_ ?_ ?_ ?_
   rotate_left
   ·intro w'; go_simp; with_reducible rfl
   rotate_left
   ·simp only [Act.put, sqA, sqB, sqC, i64_w, i32_w]
    rfl
   refine pu 11 60 (bq 22 3815) ?_ rfl rfl (by kernel_rfl) (fun _ _ _ h => h) (by rfl) ?_ ?_ ?_ ?_
   rotate_left
   ·intro w'; go_simp; with_reducible rfl
   rotate_left
   ·simp only [Act.put, sqA, sqB, sqC, i64_w, i32_w]
    rfl
   refine pu 14 63 (bq 22 20199) ?_ rfl rfl (by kernel_rfl) (fun _ _ _ h => h) (by rfl) ?_ ?_ ?_ ?_
   rotate_left
   ·intro w'; go_simp; with_reducible rfl
   rotate_left
   ·simp only [Act.put, sqA, sqB, sqC, i64_w, i32_w]
    rfl
   refine pu 15 64 (bq 22 52967) ?_ rfl rfl (by kernel_rfl) (fun _ _ _ h => h) (by rfl) ?_ ?_ ?_ ?_
   rotate_left
   ·intro w'; go_simp; with_reducible rfl
   rotate_left
   ·simp only [Act.put, sqA, sqB, sqC, i64_w, i32_w]
    rfl
   refine pu 16 65 (bq 22 118503) ?_ rfl rfl (by kernel_rfl) (fun _ _ _ h => h) (by rfl) ?_ ?_ ?_ ?_
   rotate_left
   ·intro w'; go_simp; with_reducible rfl
   rotate_left
   ·simp only [Act.put, sqA, sqB, sqC, i64_w, i32_w]
    rfl
   refine tk 3 52 (bq 22 118511) ?_ rfl rfl (by kernel_rfl) (fun _ _ _ h => h) (by rfl) ?_ hHeld ?_ ?_ ?_
   rotate_left
   ·intro w' hw'
    have s0 := (blk_cell (blk_below HB3.out hw') 0).trans (show _ = some (.int .i64 t.id) from rfl)
    go_simp
    with_reducible rfl
   rotate_left
   ·simp only [Act.put, sqA, sqB, sqC, i64_w, i32_w]
    rfl
   refine pu 4 53 (bq 22 118527) ?_ rfl rfl (by kernel_rfl) (fun _ _ _ h => h) (by rfl) ?_ ?_ ?_ ?_
   rotate_left
   ·intro w'; go_simp; with_reducible rfl
   rotate_left
   ·simp only [Act.put, sqA, sqB, sqC, i64_w, i32_w]
    rfl
   refine tk 8 57 (bq 22 118783) ?_ rfl rfl (by kernel_rfl) (fun _ _ _ h => h) (by rfl) ?_ hHeld ?_ ?_ ?_
   rotate_left
   ·intro w' hw'
    have s0 := (blk_cell (blk_below HB3.out hw') 27).trans (show _ = some (.map (some bl)) from rfl)
    go_simp
    with_reducible rfl
   rotate_left
   ·simp only [Act.put, sqA, sqB, sqC, i64_w, i32_w]
    rfl
   refine tk 12 61 (bq 22 122879) ?_ rfl rfl (by kernel_rfl) (fun _ _ _ h => h) (by rfl) ?_ hHeld ?_ ?_ ?_
   rotate_left
   ·intro w' hw'
    have s0 := (blk_cell (blk_below HB3.out hw') 4).trans (show _ = some (.int .i64 t.group) from rfl)
    go_simp
    with_reducible rfl
   rotate_left
   ·simp only [Act.put, sqA, sqB, sqC, i64_w, i32_w]
    rfl
   refine tk 13 62 (bq 22 131071) ?_ rfl rfl (by kernel_rfl) (fun _ _ _ h => h) (by rfl) ?_ hHeld ?_ ?_ ?_
   rotate_left
   ·intro w' hw'
    have s0 := HL.out w' hw'
    go_simp
    with_reducible rfl
   rotate_left
   ·simp only [Act.put, sqA, sqB, sqC, i64_w, i32_w]
    rfl
   refine tk 17 66 (bq 22 262143) ?_ rfl rfl (by kernel_rfl) (fun _ _ _ h => h) (by rfl) ?_ hHeld ?_ ?_ ?_
   rotate_left
   ·intro w' hw'
    have s0 := (blk_cell (blk_below HB3.out hw') 4).trans (show _ = some (.int .i64 t.group) from rfl)
    go_simp
    with_reducible rfl
   rotate_left
   ·simp only [Act.put, sqA, sqB, sqC, i64_w, i32_w]
    rfl
   refine take_ (i := 18) (N := some 67) (a' := ?_) (bq 22 524287) rfl rfl (by kernel_rfl) (fun _ _ _ h => h) (yields_blk (by rfl) 38 _ rfl gx 0 rfl [(.int .i64 t.cmd.f0), (.int .i64 t.cmd.f1), (.int .i64 t.cmd.f2), (.int .i64 t.cmd.f3), (.int .i64 t.cmd.f4), (.string t.cmd.f5), (.string t.cmd.f6), (.string t.cmd.f7), (.string t.cmd.f8), (.int .i64 t.cmd.f9), (.int .i64 t.cmd.f10), (.int .i64 t.cmd.f11.f0), (.string t.cmd.f11.f1), (.int .i64 t.cmd.f11.f2), (.int .i64 t.cmd.f11.f3), (.int .i64 t.cmd.f12.f0), (.int .i64 t.cmd.f12.f1), (.int .i64 t.cmd.f13), (.slice none 0 0)] rfl (fun w' hw' => blk_below HX3.out hw') Try.underlying38 rfl (by kernel_rfl)) hHeld ?_ ?_
   rotate_left
   ·simp only [Act.put, sqA, sqB, sqC, i64_w, i32_w]
    rfl
   refine pu 19 68 (bq 22 1048575) ?_ rfl rfl (by kernel_rfl) (fun _ _ _ h => h) (by rfl) ?_ ?_ ?_ ?_
   rotate_left
   ·intro w'; go_simp; with_reducible rfl
   rotate_left
   ·simp only [Act.put, sqA, sqB, sqC, i64_w, i32_w]
    rfl
   refine one_ (i := 20) (N := some 69) (bq 22 2097151) rfl rfl (by kernel_rfl) (by decide) (fun K hK => ?_)
   refine value_ (w1 := ?_) (v := ?_) (by rfl) rfl ?_ ?_
   rotate_left 2
   ·go_simp
    constructor
    ·rfl
    ·rfl
   refine hK.out _ _ (below_alloc hHeld _) ?_
   intro _
   clear hK K
   refine norm_ (a' := ?_) ?_ ?_
   rotate_left
   ·show Act.put _ (some 69) _ = _; simp only [Act.put, sqA, sqB, sqC, i64_w, i32_w]
    rfl
   refine pu 21 2 (bq 22 4194303) ?_ rfl rfl (by kernel_rfl) (fun _ _ _ h => h) (by rfl) ?_ ?_ ?_ ?_
   rotate_left
   ·intro w'; go_simp; with_reducible rfl
   rotate_left
   ·simp only [Act.put, sqA, sqB, sqC, i64_w, i32_w]
    rfl
   refine done_ (by kernel_rfl) ?_
   go_wp2
   go_ret
   rw [hng, ← HTE.out]
   have hDW := Upd.and HU.out (U3.out.and (Upd.of_below hHeld _))
   have hd : Kd.string.R 9 wd w1.heap.size (fun _ => True) (.slice none 0 0) t.cmd.f14 := by rw [HKT.out.data0]; exact Kd.R_nil _ _ _ _ _
   have hM : k47.M wd w1.heap.size (fun _ => True) (askPk (sendV t)) [(.int .i64 2), (.int .i64 (-t.id)), (.int .i64 (getG 0 t.group t.lead)), (.int .i64 t.group), (.int .i64 0), (.int .i64 0), (.int .i64 0), (.int .i64 0), (.int .i64 0), (.int .i64 0), (.slice none 0 0), (.slice none 0 0), (.int .i64 t.cmd.f0), (.int .i64 t.cmd.f1), (.int .i64 t.cmd.f2), (.int .i64 t.cmd.f3), (.int .i64 t.cmd.f4), (.string t.cmd.f5), (.string t.cmd.f6), (.string t.cmd.f7), (.string t.cmd.f8), (.int .i64 t.cmd.f9), (.int .i64 t.cmd.f10), (.int .i64 t.cmd.f11.f0), (.string t.cmd.f11.f1), (.int .i64 t.cmd.f11.f2), (.int .i64 t.cmd.f11.f3), (.int .i64 t.cmd.f12.f0), (.int .i64 t.cmd.f12.f1), (.int .i64 t.cmd.f13), (.slice none 0 0), (.int .i64 0), (.int .i64 0), (.int .i64 0), (.slice none 0 0), (.slice none 0 0), (.slice none 0 0), (.int .i64 0), (.slice none 0 0), (.slice none 0 0)] := k47_mkM wd _ _ (askPk (sendV t)) (Kd.R_nil _ _ _ _ _) (Kd.R_nil _ _ _ _ _) hd (Kd.R_nil _ _ _ _ _) (Kd.R_nil _ _ _ _ _) (Kd.R_nil _ _ _ _ _) (Kd.R_nil _ _ _ _ _) (Kd.R_nil _ _ _ _ _)
   have hR := R_one wd w1.heap.size 47 (askPk (sendV t)) _ hM hDW.kept.1 rfl
   exact ⟨_, rfl, hR, ⟨blk_alloc (blk_below HB3.out hHeld) _, (MP3.out.keep (hHeld.block _ MP3.out.lt) (fun _ _ h => h)).keep (Below.heap_alloc _ _ _ (Nat.lt_of_lt_of_le MP3.out.lt hHeld.size)) (fun _ _ h => h)⟩, hDW.and (Upd.of_below (below_alloc (Below.refl _ _) _) _)⟩
end Go.Proofs.Ytonedijkgddepaa.P
