/- front.Asker, by hand: Recv. No conditions. -/
import Derived.Test.YtonedijkgddepaaSq
import Derived.Test.YtonedijkgddepaaFE
import Derived.Test.YtonedijkgddepaaFClone
import Derived.BigQuiet
import Derived.Deep.QuietTactic
namespace Go.Proofs.Ytonedijkgddepaa.P
open Go.Sq
open Go.RowKit Go.Maps Go.Proofs.YtonedijkgddepaaW.PrintWords Go.Proofs.YtonedijkgddepaaW.PrintLast Go.Proofs.YtonedijkgddepaaW.PrintMore
set_option linter.unusedVariables false
set_option linter.unusedSimpArgs false

theorem R_upd {α : Type} {d : Kd α} {e base : Nat} {ok : Nat → Prop} {v : Value} {xs : List α} {w w1 : World} {S : Nat → Prop} (h : d.R e w base ok v xs) (hu : Upd w w1 S) (hs : ∀ k, S k → k < base) : d.R e w1 base ok v xs :=
 Kd.R_mono (Kd.R_step (Kd.R_bound h) (fun k hk hl => hu.kept.2 k hl (fun hS => by have h1 := hk.2.1; have h2 := hs k hS; omega))) (fun _ hk => hk.1)
def hit (s : As) (p : S47) : Prop := s.busy = true ∧ p.f0 = 3 ∧ p.f2 = -s.id ∧ p.f3 = s.group ∧ p.f5.f1 = s.id ∧ p.f5.f2 = s.num
instance (s : As) (p : S47) : Decidable (hit s p) := by unfold hit; infer_instance
def MissIs (b : Bool) (s : As) (p : S47) : Prop := b = true ↔ ¬ hit s p
def leadV (s : As) (n : Int) : As := if 1 ≤ n ∧ n ≤ s.nodes then { s with sent := false, lead := putM s.group (n - 1) s.lead } else nextV { s with sent := false }
def recvV (s : As) (p : S47) : As × S42 × Bool := if hit s p then (if p.f6.f0 = 15 then (leadV s p.f6.f2, z42, false) else ({ s with busy := false }, p.f6, true)) else (s, z42, false)
theorem sentF_ok {s : As} {q : Nat} (hk : s.ok q) : As.ok { s with sent := false } q := ⟨hk.id1, hk.nodes1, hk.retry1, hk.num1, hk.group1, hk.waited1, hk.lead1, hk.q1, hk.data0⟩
theorem recvV_ok {s : As} {q : Nat} (hk : s.ok q) (p : S47) : (recvV s p).1.ok q := by
 unfold recvV
 split
 ·split
  ·unfold leadV
   split
   ·rename_i h
    refine ⟨hk.id1, hk.nodes1, hk.retry1, hk.num1, hk.group1, hk.waited1, fun x hx => ?_, hk.q1, hk.data0⟩
    rcases putM_mem _ _ _ _ hx with rfl | hx
    ·show 0 ≤ p.f6.f2 - 1 ∧ p.f6.f2 - 1 < s.nodes
     omega
    ·exact hk.lead1 x hx
   ·exact nextV_ok (sentF_ok hk)
  ·exact ⟨hk.id1, hk.nodes1, hk.retry1, hk.num1, hk.group1, hk.waited1, hk.lead1, hk.q1, hk.data0⟩
 ·exact hk
set_option maxHeartbeats 4000000 in
set_option maxRecDepth 100000 in
theorem askRecv (w : World) (B bl q : Nat) (s : As) (h : AskAt w B bl q s) (hk : s.ok q) (p : S47) (vm vv vd vpc vpd : Value) (A3 A5 : Option Addr) (c3 c5 : Nat) (h3 : p.f6.f3.length ≤ c3) (h5 : p.f6.f5.length ≤ c5) (hr : ∀ W, Kept w W (SA B bl) → Kd.C k115 W A3 p.f6.f3.length p.f6.f3 ∧ Kd.C k35 W A5 p.f6.f5.length p.f6.f5) (hl3 : p.f6.f3.length ≤ 1000) (hl5 : p.f6.f5.length ≤ 1000) :
  Calls Try.prog 24 #[.pointer (some ⟨B, 0, none⟩), .agg #[(.int .i64 p.f0), (.int .i64 p.f1), (.int .i64 p.f2), (.int .i64 p.f3), (.int .i64 p.f4.f0), (.int .i64 p.f4.f1), (.int .i64 p.f4.f2), (.int .i64 p.f4.f3), (.int .i64 p.f4.f4), (.int .i64 p.f4.f5), vm, vv, (.int .i64 p.f5.f0), (.int .i64 p.f5.f1), (.int .i64 p.f5.f2), (.int .i64 p.f5.f3), (.int .i64 p.f5.f4), (.string p.f5.f5), (.string p.f5.f6), (.string p.f5.f7), (.string p.f5.f8), (.int .i64 p.f5.f9), (.int .i64 p.f5.f10), (.int .i64 p.f5.f11.f0), (.string p.f5.f11.f1), (.int .i64 p.f5.f11.f2), (.int .i64 p.f5.f11.f3), (.int .i64 p.f5.f12.f0), (.int .i64 p.f5.f12.f1), (.int .i64 p.f5.f13), vd, (.int .i64 p.f6.f0), (.int .i64 p.f6.f1), (.int .i64 p.f6.f2), (.slice A3 p.f6.f3.length c3), (.slice none 0 0), (.slice A5 p.f6.f5.length c5), (.int .i64 p.f7.f0), vpc, vpd]] w fun e' w' => ∃ v3 v5, e' = .returned (.tuple #[.agg #[.int .i64 (recvV s p).2.1.f0, .int .i64 (recvV s p).2.1.f1, .int .i64 (recvV s p).2.1.f2, v3, .slice none 0 0, v5], .bool (recvV s p).2.2]) ∧ Kd.R k115 115 w' w.heap.size (fun _ => True) v3 (recvV s p).2.1.f3 ∧ Kd.R k35 35 w' w.heap.size (fun _ => True) v5 (recvV s p).2.1.f5 ∧ AskAt w' B bl (q + 1) (recvV s p).1 ∧ Upd w w' (SA B bl) := by
 have H := Aside0.mk h
 have HK := Aside0.mk hk
 have HI := Aside0.mk (show s.id ≠ 0 by have := hk.id1; omega)
 have HC := Aside0.mk (And.intro (And.intro h3 h5) (And.intro hr (And.intro hl3 hl5)))
 have hng := neg_w hk.id1
 clear h hk h3 h5 hr hl3 hl5
 obtain ⟨bz, hbz⟩ : ∃ bz, bz = s.busy := ⟨_, rfl⟩
 have HBZ := Aside0.mk hbz
 have H31 := Aside0.mk (fun (W : World) (hh : AskAt W B bl q s) => (show Calls Try.prog 31 #[.pointer (some ⟨B, 0, none⟩)] W (fun e' w' => e' = .returned (.bool bz) ∧ w' = W) by rw [hbz]; exact askBusyOk W B bl q s hh HI.out))
 go_enter Try.func24, Try.ntmps24
 go_wp2_with (first | ((with_reducible refine gate_dst (N := 3) rfl ?_); refine box_event ?hg (N := 3) ?hd (cs := #[(.int .i64 p.f0), (.int .i64 p.f1), (.int .i64 p.f2), (.int .i64 p.f3), (.int .i64 p.f4.f0), (.int .i64 p.f4.f1), (.int .i64 p.f4.f2), (.int .i64 p.f4.f3), (.int .i64 p.f4.f4), (.int .i64 p.f4.f5), vm, vv, (.int .i64 p.f5.f0), (.int .i64 p.f5.f1), (.int .i64 p.f5.f2), (.int .i64 p.f5.f3), (.int .i64 p.f5.f4), (.string p.f5.f5), (.string p.f5.f6), (.string p.f5.f7), (.string p.f5.f8), (.int .i64 p.f5.f9), (.int .i64 p.f5.f10), (.int .i64 p.f5.f11.f0), (.string p.f5.f11.f1), (.int .i64 p.f5.f11.f2), (.int .i64 p.f5.f11.f3), (.int .i64 p.f5.f12.f0), (.int .i64 p.f5.f12.f1), (.int .i64 p.f5.f13), vd, (.int .i64 p.f6.f0), (.int .i64 p.f6.f1), (.int .i64 p.f6.f2), (.slice A3 p.f6.f3.length c3), (.slice none 0 0), (.slice A5 p.f6.f5.length c5), (.int .i64 p.f7.f0), vpc, vpd]) (t := 47) ?hr ?_; (case hd => rfl); (case hg => rfl); (case hr => first | (go_simp; done) | (go_simp; rfl)); intro gp hg_ w1 hbox_ hbel_; have HP := Aside0.mk hbox_; have HL1 := Aside0.mk hbel_; clear hbox_ hbel_; have HG1 := Aside0.mk hg_; clear hg_) | ((with_reducible refine gate_dst (N := 4) rfl ?_); refine box_event ?hg (N := 4) ?hd (cs := #[(.int .i64 0), (.int .i64 0), (.int .i64 0), (.slice none 0 0), (.slice none 0 0), (.slice none 0 0)]) (t := 42) ?hr ?_; (case hd => rfl); (case hg => rfl); (case hr => first | (go_simp; done) | (go_simp; rfl)); intro gr hg_ w2 hbox_ hbel_; have HR := Aside0.mk hbox_; have HL2 := Aside0.mk hbel_; clear hbox_ hbel_; have HG2 := Aside0.mk hg_; clear hg_))
 have HA2 := Aside0.mk ((H.out.below HL1.out).below HL2.out)
 have HP2 := Aside0.mk (blk_below HP.out HL2.out)
 have p0 : w2.cell? ⟨gp, 0, none⟩ = some (.int .i64 p.f0) := (blk_cell HP2.out 0).trans rfl
 have p2 : w2.cell? ⟨gp, 2, none⟩ = some (.int .i64 p.f2) := (blk_cell HP2.out 2).trans rfl
 have p3 : w2.cell? ⟨gp, 3, none⟩ = some (.int .i64 p.f3) := (blk_cell HP2.out 3).trans rfl
 have p13 : w2.cell? ⟨gp, 13, none⟩ = some (.int .i64 p.f5.f1) := (blk_cell HP2.out 13).trans rfl
 have p14 : w2.cell? ⟨gp, 14, none⟩ = some (.int .i64 p.f5.f2) := (blk_cell HP2.out 14).trans rfl
 have a0 : w2.cell? ⟨B, 0, none⟩ = some (.int .i64 s.id) := (blk_cell HA2.out.blk 0).trans rfl
 have a3 : w2.cell? ⟨B, 3, none⟩ = some (.int .i64 s.num) := (blk_cell HA2.out.blk 3).trans rfl
 have a4 : w2.cell? ⟨B, 4, none⟩ = some (.int .i64 s.group) := (blk_cell HA2.out.blk 4).trans rfl
 clear hbz
 go_cut [53] (fun v53 w' => ∃ b, v53 = .bool b ∧ Aside0 (MissIs b s p) ∧ Aside0 (∃ m, w' = w2.drewN m))
 case first =>
  cases bz with
  | false =>
   have HH := Aside0.mk (show MissIs true s p from ⟨fun _ hh => (by have h1 := hh.1; rw [← HBZ.out] at h1; cases h1), fun _ => rfl⟩)
   go_quiet ((go_at_call 31; refine Calls.quiet_of_same (H31.out _ (HA2.out.below (pw_below_drewN (Below.refl _ _) _)))))
   go_wp2
   go_meet
   exact ⟨true, rfl, HH, ⟨_, rfl⟩⟩
  | true =>
   by_cases e0 : p.f0 = 3
   case neg =>
    have HH := Aside0.mk (show MissIs true s p from ⟨fun _ hh => e0 hh.2.1, fun _ => rfl⟩)
    have t0 : (p.f0 == 3) = false := beq_eq_false_iff_ne.2 e0
    have u0 : (p.f0 != 3) = true := by rw [bne, t0]; rfl
    clear e0
    go_quiet ((go_at_call 31; refine Calls.quiet_of_same (H31.out _ (HA2.out.below (pw_below_drewN (Below.refl _ _) _)))))
    go_wp2
    go_meet
    exact ⟨true, rfl, HH, ⟨_, rfl⟩⟩
   have E0 := Aside0.mk e0
   have t0 : (p.f0 == 3) = true := beq_iff_eq.2 e0
   have u0 : (p.f0 != 3) = false := by rw [bne, t0]; rfl
   clear e0
   by_cases e1 : p.f2 = -s.id
   case neg =>
    have HH := Aside0.mk (show MissIs true s p from ⟨fun _ hh => e1 hh.2.2.1, fun _ => rfl⟩)
    have t1 : (p.f2 == -s.id) = false := beq_eq_false_iff_ne.2 e1
    have u1 : (p.f2 != -s.id) = true := by rw [bne, t1]; rfl
    clear e1
    go_quiet ((go_at_call 31; refine Calls.quiet_of_same (H31.out _ (HA2.out.below (pw_below_drewN (Below.refl _ _) _)))))
    go_wp2
    go_meet
    exact ⟨true, rfl, HH, ⟨_, rfl⟩⟩
   have E1 := Aside0.mk e1
   have t1 : (p.f2 == -s.id) = true := beq_iff_eq.2 e1
   have u1 : (p.f2 != -s.id) = false := by rw [bne, t1]; rfl
   clear e1
   by_cases e2 : p.f3 = s.group
   case neg =>
    have HH := Aside0.mk (show MissIs true s p from ⟨fun _ hh => e2 hh.2.2.2.1, fun _ => rfl⟩)
    have t2 : (p.f3 == s.group) = false := beq_eq_false_iff_ne.2 e2
    have u2 : (p.f3 != s.group) = true := by rw [bne, t2]; rfl
    clear e2
    go_quiet ((go_at_call 31; refine Calls.quiet_of_same (H31.out _ (HA2.out.below (pw_below_drewN (Below.refl _ _) _)))))
    go_wp2
    go_meet
    exact ⟨true, rfl, HH, ⟨_, rfl⟩⟩
   have E2 := Aside0.mk e2
   have t2 : (p.f3 == s.group) = true := beq_iff_eq.2 e2
   have u2 : (p.f3 != s.group) = false := by rw [bne, t2]; rfl
   clear e2
   by_cases e3 : p.f5.f1 = s.id
   case neg =>
    have HH := Aside0.mk (show MissIs true s p from ⟨fun _ hh => e3 hh.2.2.2.2.1, fun _ => rfl⟩)
    have t3 : (p.f5.f1 == s.id) = false := beq_eq_false_iff_ne.2 e3
    have u3 : (p.f5.f1 != s.id) = true := by rw [bne, t3]; rfl
    clear e3
    go_quiet ((go_at_call 31; refine Calls.quiet_of_same (H31.out _ (HA2.out.below (pw_below_drewN (Below.refl _ _) _)))))
    go_wp2
    go_meet
    exact ⟨true, rfl, HH, ⟨_, rfl⟩⟩
   have E3 := Aside0.mk e3
   have t3 : (p.f5.f1 == s.id) = true := beq_iff_eq.2 e3
   have u3 : (p.f5.f1 != s.id) = false := by rw [bne, t3]; rfl
   clear e3
   by_cases e4 : p.f5.f2 = s.num
   case neg =>
    have HH := Aside0.mk (show MissIs true s p from ⟨fun _ hh => e4 hh.2.2.2.2.2, fun _ => rfl⟩)
    have t4 : (p.f5.f2 == s.num) = false := beq_eq_false_iff_ne.2 e4
    have u4 : (p.f5.f2 != s.num) = true := by rw [bne, t4]; rfl
    clear e4
    go_quiet ((go_at_call 31; refine Calls.quiet_of_same (H31.out _ (HA2.out.below (pw_below_drewN (Below.refl _ _) _)))))
    go_wp2
    go_meet
    exact ⟨true, rfl, HH, ⟨_, rfl⟩⟩
   have E4 := Aside0.mk e4
   have t4 : (p.f5.f2 == s.num) = true := beq_iff_eq.2 e4
   have u4 : (p.f5.f2 != s.num) = false := by rw [bne, t4]; rfl
   clear e4
   have HH := Aside0.mk (show MissIs false s p from ⟨fun h => (by cases h), fun h => (h ⟨HBZ.out.symm, E0.out, E1.out, E2.out, E3.out, E4.out⟩).elim⟩)
   go_quiet ((go_at_call 31; refine Calls.quiet_of_same (H31.out _ (HA2.out.below (pw_below_drewN (Below.refl _ _) _)))))
   go_wp2
   go_meet
   exact ⟨false, rfl, HH, ⟨_, rfl⟩⟩
 case rest =>
  obtain ⟨b, rfl, HM, HW⟩ := hcut
  have bw : Below w2.heap.size w2 wc := by obtain ⟨m, hm⟩ := HW.out; rw [hm]; exact pw_below_drewN (Below.refl _ _) _
  have HAc := Aside0.mk (HA2.out.below bw)
  have HPc := Aside0.mk (blk_below HP2.out bw)
  have HRc := Aside0.mk (blk_below HR.out bw)
  have Uc := Aside0.mk ((Upd.of_below HL1.out (SA B bl)).and ((Upd.of_below HL2.out _).and (Upd.of_below bw _)))
  have NG := Aside0.mk (show B ≠ gr ∧ bl ≠ gr ∧ B ≠ gp ∧ bl ≠ gp ∧ gp ≠ gr ∧ w.heap.size ≤ gr from by have h1 := H.out.lt; have h2 := HG1.out; have h3 := HG2.out; have h4 := HL1.out.size; have h5 := blk_lt HP.out; exact ⟨by omega, by omega, by omega, by omega, by omega, by omega⟩)
  clear bw HA2 HP2 HR HP HL1 HL2 HG1 HG2 HW p0 p2 p3 p13 p14 a0 a3 a4 hng H31
  cases b with
  | true =>
   have HV := Aside0.mk (show recvV s p = (s, z42, false) by unfold recvV; rw [if_neg (HM.out.1 rfl)])
   clear HM
   go_wp2_with (first | ((with_reducible refine gate_ (.store 42 (.tmp 4) (.tmp 54)) rfl ?_); refine store_blk rfl 42 _ _ rfl gr 0 [(.int .i64 0), (.int .i64 0), (.int .i64 0), (.slice none 0 0), (.slice none 0 0), (.slice none 0 0)] rfl rfl HRc.out (Nat.le_of_ble_eq_true rfl) (by kernel_rfl) (by rfl) #[(.int .i64 0), (.int .i64 0), (.int .i64 0), (.slice none 0 0), (.slice none 0 0), (.slice none 0 0)] (by rfl) ?_; intro wd hnb_ hup_; have HRd := Aside0.mk hnb_; have HUd := Aside0.mk hup_; clear hnb_ hup_))
   refine bodyPost_ret (results_ct rfl _ _ gr 42 #[(.int .i64 0), (.int .i64 0), (.int .i64 0), (.slice none 0 0), (.slice none 0 0), (.slice none 0 0)] (0, 0) _ rfl HRd.out Try.underlying42 rfl (by kernel_rfl)) rfl ?_
   rw [HV.out]
   exact ⟨_, _, rfl, Kd.R_nil _ _ _ _ _, Kd.R_nil _ _ _ _ _, (HAc.out.mono (Nat.le_succ _)).keep (HUd.out.kept.2 _ HAc.out.lt.1 NG.out.1) (HUd.out.kept.2 _ HAc.out.lt.2.1 NG.out.2.1), Uc.out.trans HUd.out (fun k hk => Or.inr (by have h3 : k = gr := hk; have := NG.out.2.2.2.2.2; omega))⟩
  | false =>
   have HIT := Aside0.mk (show hit s p from Classical.byContradiction (fun h => by have := HM.out.2 h; cases this))
   clear HM
   have p31 : wc.cell? ⟨gp, 31, none⟩ = some (.int .i64 p.f6.f0) := (blk_cell HPc.out 31).trans rfl
   have p33 : wc.cell? ⟨gp, 33, none⟩ = some (.int .i64 p.f6.f2) := (blk_cell HPc.out 33).trans rfl
   by_cases e15 : p.f6.f0 = 15
   case neg =>
    have HV := Aside0.mk (show recvV s p = ({ s with busy := false }, p.f6, true) by unfold recvV; rw [if_pos HIT.out, if_neg e15])
    have f1 : (p.f6.f0 == 15) = false := beq_eq_false_iff_ne.2 e15
    clear e15
    have a24 : wc.cell? ⟨B, 24, none⟩ = some (.bool s.busy) := (blk_cell HAc.out.blk 24).trans rfl
    have az24 := blk_frozen HAc.out.blk 24
    go_upto_region 11 with (fail)
    obtain ⟨wd, hwd⟩ : ∃ wd, wd = wc.setCell ⟨B, 24, none⟩ (.bool false) := ⟨_, rfl⟩
    rw [← hwd]
    have HBd := Aside0.mk (show AskAt wd B bl q { s with busy := false } by rw [hwd]; exact ⟨askSet (s' := { s with busy := false }) HAc.out.blk 24 _ rfl, HAc.out.map.keep (Below.heap_setCell _ ⟨B, 24, none⟩ _ _ HAc.out.lt.2.2.symm) (fun _ _ h => h)⟩)
    have HPd := Aside0.mk (show wd.heap[gp]? = some (.cells #[(.int .i64 p.f0), (.int .i64 p.f1), (.int .i64 p.f2), (.int .i64 p.f3), (.int .i64 p.f4.f0), (.int .i64 p.f4.f1), (.int .i64 p.f4.f2), (.int .i64 p.f4.f3), (.int .i64 p.f4.f4), (.int .i64 p.f4.f5), vm, vv, (.int .i64 p.f5.f0), (.int .i64 p.f5.f1), (.int .i64 p.f5.f2), (.int .i64 p.f5.f3), (.int .i64 p.f5.f4), (.string p.f5.f5), (.string p.f5.f6), (.string p.f5.f7), (.string p.f5.f8), (.int .i64 p.f5.f9), (.int .i64 p.f5.f10), (.int .i64 p.f5.f11.f0), (.string p.f5.f11.f1), (.int .i64 p.f5.f11.f2), (.int .i64 p.f5.f11.f3), (.int .i64 p.f5.f12.f0), (.int .i64 p.f5.f12.f1), (.int .i64 p.f5.f13), vd, (.int .i64 p.f6.f0), (.int .i64 p.f6.f1), (.int .i64 p.f6.f2), (.slice A3 p.f6.f3.length c3), (.slice none 0 0), (.slice A5 p.f6.f5.length c5), (.int .i64 p.f7.f0), vpc, vpd] 47 (0, 0)) by rw [hwd]; exact blk_far HPc.out (p := ⟨B, 24, none⟩) NG.out.2.2.1.symm _)
    have HRd := Aside0.mk (show wd.heap[gr]? = some (.cells #[(.int .i64 0), (.int .i64 0), (.int .i64 0), (.slice none 0 0), (.slice none 0 0), (.slice none 0 0)] 42 (0, 0)) by rw [hwd]; exact blk_far HRc.out (p := ⟨B, 24, none⟩) NG.out.1.symm _)
    have Ud := Aside0.mk (show Upd w wd (SA B bl) by rw [hwd]; exact Uc.out.and ((Upd.set _ ⟨B, 24, none⟩ _).mono (fun k hk => Or.inl hk)))
    clear hwd a24 az24 p31 p33 f1 HAc HPc HRc Uc
    go_upto_region 12 with (first | ((with_reducible refine gate_ (.load 42 (.tmp 91)) rfl ?_); refine load_blk rfl 42 _ rfl gp 31 rfl HPd.out [(.int .i64 p.f6.f0), (.int .i64 p.f6.f1), (.int .i64 p.f6.f2), (.slice A3 p.f6.f3.length c3), (.slice none 0 0), (.slice A5 p.f6.f5.length c5)] rfl Try.underlying42 rfl (by kernel_rfl) ?_) | ((with_reducible refine gate_ (.store 42 (.tmp 4) (.tmp 92)) rfl ?_); refine store_blk rfl 42 _ _ rfl gr 0 [(.int .i64 p.f6.f0), (.int .i64 p.f6.f1), (.int .i64 p.f6.f2), (.slice A3 p.f6.f3.length c3), (.slice none 0 0), (.slice A5 p.f6.f5.length c5)] rfl rfl HRd.out (Nat.le_of_ble_eq_true rfl) (by kernel_rfl) (by rfl) #[(.int .i64 p.f6.f0), (.int .i64 p.f6.f1), (.int .i64 p.f6.f2), (.slice A3 p.f6.f3.length c3), (.slice none 0 0), (.slice A5 p.f6.f5.length c5)] (by rfl) ?_; intro we hnb_ hup_; have HRe := Aside0.mk hnb_; have HUe := Aside0.mk hup_; clear hnb_ hup_))
    have NGR := Aside0.mk (show gr < wd.heap.size from blk_lt HRd.out)
    have HAe := Aside0.mk (HBd.out.keep (HUe.out.kept.2 _ HBd.out.lt.1 NG.out.1) (HUe.out.kept.2 _ HBd.out.lt.2.1 NG.out.2.1))
    have Ue := Aside0.mk (Ud.out.trans HUe.out (fun k hk => Or.inr (by have h3 : k = gr := hk; have := NG.out.2.2.2.2.2; omega)))
    have HRW := Aside0.mk (fun (W : World) (hb : Below we.heap.size we W) => (show Kd.C k115 W A3 p.f6.f3.length p.f6.f3 ∧ Kd.C k35 W A5 p.f6.f5.length p.f6.f5 from HC.out.2.1 W ((Ue.out.kept).below hb)))
    refine start_ (n := 15) (S := fun w' => Below we.heap.size we w') (ds := [10, 12, 14]) (bq 15 0) (by kernel_rfl) rfl rfl (below_drew (Below.refl _ _)) (fun hHeld => ?_)
    generalize we.drew = wf at  hHeld ⊢
    refine pu 0 93 (bq 15 1) ?_ rfl rfl (by kernel_rfl) (fun _ _ _ h => h) (by rfl) ?_ ?_ ?_ ?_
    rotate_left
    ·intro w'; go_simp; with_reducible rfl
    rotate_left
    ·simp only [Act.put, sqA, sqB, sqC, i64_w, i32_w]
     rfl
    refine pu 3 96 (bq 15 9) ?_ rfl rfl (by kernel_rfl) (fun _ _ _ h => h) (by rfl) ?_ ?_ ?_ ?_
    rotate_left
    ·intro w'; go_simp; with_reducible rfl
    rotate_left
    ·simp only [Act.put, sqA, sqB, sqC, i64_w, i32_w]
     rfl
    refine pu 6 99 (bq 15 73) ?_ rfl rfl (by kernel_rfl) (fun _ _ _ h => h) (by rfl) ?_ ?_ ?_ ?_
    rotate_left
    ·intro w'; go_simp; with_reducible rfl
    rotate_left
    ·simp only [Act.put, sqA, sqB, sqC, i64_w, i32_w]
     rfl
    refine tk 1 94 (bq 15 75) ?_ rfl rfl (by kernel_rfl) (fun _ _ _ h => h) (by rfl) ?_ hHeld ?_ ?_ ?_
    rotate_left
    ·intro w' hw'
     have s0 := (blk_cell (blk_below HRe.out hw') 3).trans (show _ = some (.slice A3 p.f6.f3.length c3) from rfl)
     go_simp
     with_reducible rfl
    rotate_left
    ·simp only [Act.put, sqA, sqB, sqC, i64_w, i32_w]
     rfl
    refine tk 4 97 (bq 15 91) ?_ rfl rfl (by kernel_rfl) (fun _ _ _ h => h) (by rfl) ?_ hHeld ?_ ?_ ?_
    rotate_left
    ·intro w' hw'
     have s0 := (blk_cell (blk_below HRe.out hw') 4).trans (show _ = some (.slice none 0 0) from rfl)
     go_simp
     with_reducible rfl
    rotate_left
    ·simp only [Act.put, sqA, sqB, sqC, i64_w, i32_w]
     rfl
    refine tk 7 100 (bq 15 219) ?_ rfl rfl (by kernel_rfl) (fun _ _ _ h => h) (by rfl) ?_ hHeld ?_ ?_ ?_
    rotate_left
    ·intro w' hw'
     have s0 := (blk_cell (blk_below HRe.out hw') 5).trans (show _ = some (.slice A5 p.f6.f5.length c5) from rfl)
     go_simp
     with_reducible rfl
    rotate_left
    ·simp only [Act.put, sqA, sqB, sqC, i64_w, i32_w]
     rfl
    refine one_ (i := 2) (N := some 95) (bq 15 223) rfl rfl (by kernel_rfl) (by decide) (fun K hK => ?_)
    refine goes_ Try.func47 (by kernel_rfl) rfl #[(.slice A3 p.f6.f3.length c3)] (by rfl) rfl rfl (by (try simp only [List.map_toArray, List.map_cons, List.map_nil]); first | done | rfl) ?_
    with_reducible refine (cloneGot.calls A3 c3 p.f6.f3 p.f6.f3 _ (HRW.out _ hHeld).1 HC.out.1.1 (by unfold cloneGot.f; rw [if_pos (by have := HC.out.2.2.1; omega)])).mono ?_
    rintro e1 wg_ ⟨v3, rfl, hR_, hb_⟩
    obtain ⟨Ag, cg, rfl⟩ := Kd.R_slice hR_
    have Rg := Aside0.mk hR_
    have Bg := Aside0.mk hb_
    have Sg := Aside0.mk hHeld
    refine ⟨_, rfl, ?_⟩
    refine hK.out _ _ (hHeld.trans (hb_.mono hHeld.size)) ?_
    clear hHeld
    intro hHeld
    clear hK K hR_ hb_
    refine norm_ (a' := ?_) ?_ ?_
    rotate_left
    ·show Act.put _ (some 95) _ = _; simp only [Act.put, sqA, sqB, sqC, i64_w, i32_w]
     rfl
    refine pu 9 102 (bq 15 735) ?_ rfl rfl (by kernel_rfl) (fun _ _ _ h => h) (by rfl) ?_ ?_ ?_ ?_
    rotate_left
    ·intro w'; go_simp; with_reducible rfl
    rotate_left
    ·simp only [Act.put, sqA, sqB, sqC, i64_w, i32_w]
     rfl
    refine one_ (i := 5) (N := some 98) (bq 15 767) rfl rfl (by kernel_rfl) (by decide) (fun K hK => ?_)
    refine goes_ Try.func45 (by kernel_rfl) rfl #[.slice none 0 0] (by rfl) rfl rfl (by (try simp only [List.map_toArray, List.map_cons, List.map_nil]); first | done | rfl) ?_
    with_reducible refine (cloneNil45 _).mono ?_
    rintro e1 wq_ ⟨rfl, hwq_⟩
    rw [hwq_]
    clear hwq_ wq_
    refine ⟨_, rfl, ?_⟩
    refine hK.out _ _ hHeld ?_
    clear hHeld
    intro hHeld
    clear hK K
    refine norm_ (a' := ?_) ?_ ?_
    rotate_left
    ·show Act.put _ (some 98) _ = _; simp only [Act.put, sqA, sqB, sqC, i64_w, i32_w]
     rfl
    refine one_ (i := 8) (N := some 101) (bq 15 1023) rfl rfl (by kernel_rfl) (by decide) (fun K hK => ?_)
    refine goes_ Try.func48 (by kernel_rfl) rfl #[(.slice A5 p.f6.f5.length c5)] (by rfl) rfl rfl (by (try simp only [List.map_toArray, List.map_cons, List.map_nil]); first | done | rfl) ?_
    with_reducible refine (cloneRange.calls A5 c5 p.f6.f5 p.f6.f5 _ (HRW.out _ hHeld).2 HC.out.1.2 (by unfold cloneRange.f; rw [if_pos (by have := HC.out.2.2.2; omega)])).mono ?_
    rintro e1 wr_ ⟨v5, rfl, hR_, hb_⟩
    obtain ⟨Ar, cr, rfl⟩ := Kd.R_slice hR_
    have Rr := Aside0.mk hR_
    have Br := Aside0.mk hb_
    have Sr := Aside0.mk hHeld
    refine ⟨_, rfl, ?_⟩
    refine hK.out _ _ (hHeld.trans (hb_.mono hHeld.size)) ?_
    clear hHeld
    intro hHeld
    clear hK K hR_ hb_
    refine norm_ (a' := ?_) ?_ ?_
    rotate_left
    ·show Act.put _ (some 101) _ = _; simp only [Act.put, sqA, sqB, sqC, i64_w, i32_w]
     rfl
    have HRx := Aside0.mk (blk_below HRe.out hHeld)
    have HHx := Aside0.mk hHeld
    clear hHeld
    refine last_ (i := 10) (N := none) (bq 15 2047) rfl rfl (by kernel_rfl) (by decide) (fun K hK => ?_)
    have x1 := (blk_cell HRx.out 3).trans (show _ = some (.slice A3 p.f6.f3.length c3) from rfl)
    have xz := blk_frozen HRx.out 3
    refine skip_ (w1 := (wr_.setCell ⟨gr, 3, none⟩ (.slice Ag p.f6.f3.length cg))) (by rfl) rfl ?_ ?_
    ·go_simp
    refine hK.out _ _ ?_
    clear hK K
    clear x1 xz
    have HRx10 := Aside0.mk (show (wr_.setCell ⟨gr, 3, none⟩ (.slice Ag p.f6.f3.length cg)).heap[gr]? = some (.cells #[(.int .i64 p.f6.f0), (.int .i64 p.f6.f1), (.int .i64 p.f6.f2), (.slice Ag p.f6.f3.length cg), (.slice none 0 0), (.slice A5 p.f6.f5.length c5)] 42 (0, 0)) from blk_set HRx.out 3 _)
    refine pu 11 103 (bq 15 4095) ?_ rfl rfl (by kernel_rfl) (fun _ _ _ h => h) (by rfl) ?_ ?_ ?_ ?_
    rotate_left
    ·intro w'; go_simp; with_reducible rfl
    rotate_left
    ·simp only [Act.put, sqA, sqB, sqC, i64_w, i32_w]
     rfl
    refine last_ (i := 12) (N := none) (bq 15 8191) rfl rfl (by kernel_rfl) (by decide) (fun K hK => ?_)
    have x1 := (blk_cell HRx10.out 4).trans (show _ = some (.slice none 0 0) from rfl)
    have xz := blk_frozen HRx10.out 4
    refine skip_ (w1 := ((wr_.setCell ⟨gr, 3, none⟩ (.slice Ag p.f6.f3.length cg)).setCell ⟨gr, 4, none⟩ (.slice none 0 0))) (by rfl) rfl ?_ ?_
    ·go_simp
    refine hK.out _ _ ?_
    clear hK K
    clear x1 xz
    have HRx12 := Aside0.mk (show ((wr_.setCell ⟨gr, 3, none⟩ (.slice Ag p.f6.f3.length cg)).setCell ⟨gr, 4, none⟩ (.slice none 0 0)).heap[gr]? = some (.cells #[(.int .i64 p.f6.f0), (.int .i64 p.f6.f1), (.int .i64 p.f6.f2), (.slice Ag p.f6.f3.length cg), (.slice none 0 0), (.slice A5 p.f6.f5.length c5)] 42 (0, 0)) from blk_set HRx10.out 4 _)
    refine pu 13 104 (bq 15 16383) ?_ rfl rfl (by kernel_rfl) (fun _ _ _ h => h) (by rfl) ?_ ?_ ?_ ?_
    rotate_left
    ·intro w'; go_simp; with_reducible rfl
    rotate_left
    ·simp only [Act.put, sqA, sqB, sqC, i64_w, i32_w]
     rfl
    refine last_ (i := 14) (N := none) (bq 15 32767) rfl rfl (by kernel_rfl) (by decide) (fun K hK => ?_)
    have x1 := (blk_cell HRx12.out 5).trans (show _ = some (.slice A5 p.f6.f5.length c5) from rfl)
    have xz := blk_frozen HRx12.out 5
    refine skip_ (w1 := (((wr_.setCell ⟨gr, 3, none⟩ (.slice Ag p.f6.f3.length cg)).setCell ⟨gr, 4, none⟩ (.slice none 0 0)).setCell ⟨gr, 5, none⟩ (.slice Ar p.f6.f5.length cr))) (by rfl) rfl ?_ ?_
    ·go_simp
    refine hK.out _ _ ?_
    clear hK K
    clear x1 xz
    have HRx14 := Aside0.mk (show (((wr_.setCell ⟨gr, 3, none⟩ (.slice Ag p.f6.f3.length cg)).setCell ⟨gr, 4, none⟩ (.slice none 0 0)).setCell ⟨gr, 5, none⟩ (.slice Ar p.f6.f5.length cr)).heap[gr]? = some (.cells #[(.int .i64 p.f6.f0), (.int .i64 p.f6.f1), (.int .i64 p.f6.f2), (.slice Ag p.f6.f3.length cg), (.slice none 0 0), (.slice Ar p.f6.f5.length cr)] 42 (0, 0)) from blk_set HRx12.out 5 _)
    refine done_ (by kernel_rfl) ?_
    have US := Aside0.mk ((((Upd.set wr_ ⟨gr, 3, none⟩ (.slice Ag p.f6.f3.length cg)).and (Upd.set _ ⟨gr, 4, none⟩ (.slice none 0 0))).and (Upd.set _ ⟨gr, 5, none⟩ (.slice Ar p.f6.f5.length cr))))
    generalize (((wr_.setCell ⟨gr, 3, none⟩ (.slice Ag p.f6.f3.length cg)).setCell ⟨gr, 4, none⟩ (.slice none 0 0)).setCell ⟨gr, 5, none⟩ (.slice Ar p.f6.f5.length cr)) = wg at HRx14 US ⊢
    go_wp2_with (first | ((with_reducible refine gate_ (.load 42 (.tmp 4)) rfl ?_); refine load_blk rfl 42 _ rfl gr 0 rfl HRx14.out [(.int .i64 p.f6.f0), (.int .i64 p.f6.f1), (.int .i64 p.f6.f2), (.slice Ag p.f6.f3.length cg), (.slice none 0 0), (.slice Ar p.f6.f5.length cr)] rfl Try.underlying42 rfl (by kernel_rfl) ?_) | ((with_reducible refine gate_ (.store 42 (.tmp 4) (.tmp 105)) rfl ?_); refine store_blk rfl 42 _ _ rfl gr 0 [(.int .i64 p.f6.f0), (.int .i64 p.f6.f1), (.int .i64 p.f6.f2), (.slice Ag p.f6.f3.length cg), (.slice none 0 0), (.slice Ar p.f6.f5.length cr)] rfl rfl HRx14.out (Nat.le_of_ble_eq_true rfl) (by kernel_rfl) (by rfl) #[(.int .i64 p.f6.f0), (.int .i64 p.f6.f1), (.int .i64 p.f6.f2), (.slice Ag p.f6.f3.length cg), (.slice none 0 0), (.slice Ar p.f6.f5.length cr)] (by rfl) ?_; intro wh hnb_ hup_; have HRh := Aside0.mk hnb_; have HUh := Aside0.mk hup_; clear hnb_ hup_))
    refine bodyPost_ret (results_ct rfl _ _ gr 42 #[(.int .i64 p.f6.f0), (.int .i64 p.f6.f1), (.int .i64 p.f6.f2), (.slice Ag p.f6.f3.length cg), (.slice none 0 0), (.slice Ar p.f6.f5.length cr)] (0, 0) _ rfl HRh.out Try.underlying42 rfl (by kernel_rfl)) rfl ?_
    rw [HV.out]
    have hu2 : Upd wr_ wh (fun k => k = gr) := US.out.and HUh.out
    have hsz : gr < we.heap.size := blk_lt HRe.out
    have hbr : Below we.heap.size we wr_ := HHx.out
    have hgr : gr < wf.heap.size := Nat.lt_of_lt_of_le hsz Sg.out.size
    have hlow : ∀ k, (fun k => k = gr) k → k < wf.heap.size := fun k hk => by have h3 : k = gr := hk; omega
    have hlow2 : ∀ k, (fun k => k = gr) k → k < wg_.heap.size := fun k hk => by have h3 : k = gr := hk; have := Bg.out.size; omega
    have hww : w.heap.size ≤ we.heap.size := Ue.out.kept.1
    refine ⟨_, _, rfl, Kd.R_lower (R_upd (Kd.R_below Rg.out Br.out) hu2 hlow) (Nat.le_trans hww Sg.out.size), Kd.R_lower (R_upd Rr.out hu2 hlow2) (Nat.le_trans hww (Nat.le_trans Sg.out.size Bg.out.size)), ?_, ?_⟩
    ·have ha := ((HAe.out.below hbr).keep (hu2.kept.2 _ (HAe.out.below hbr).lt.1 NG.out.1) (hu2.kept.2 _ (HAe.out.below hbr).lt.2.1 NG.out.2.1))
     exact ha.mono (Nat.le_succ _)
    ·exact (Ue.out.and (Upd.of_below hbr _)).trans hu2 (fun k hk => Or.inr (by have h3 : k = gr := hk; have := NG.out.2.2.2.2.2; omega))
   case pos =>
    have HV := Aside0.mk (show recvV s p = (leadV s p.f6.f2, z42, false) by unfold recvV; rw [if_pos HIT.out, if_pos e15])
    have f1 : (p.f6.f0 == 15) = true := beq_iff_eq.2 e15
    have p31z : wc.cell? ⟨gp, 31, none⟩ = some (.int .i64 15) := by rw [p31, e15]
    clear p31 f1 e15
    have a25 : wc.cell? ⟨B, 25, none⟩ = some (.bool s.sent) := (blk_cell HAc.out.blk 25).trans rfl
    have az25 := blk_frozen HAc.out.blk 25
    go_upto_region 6 with (fail)
    obtain ⟨wd, hwd⟩ : ∃ wd, wd = wc.setCell ⟨B, 25, none⟩ (.bool false) := ⟨_, rfl⟩
    rw [← hwd]
    have HBd := Aside0.mk (show AskAt wd B bl q { s with sent := false } by rw [hwd]; exact ⟨askSet (s' := { s with sent := false }) HAc.out.blk 25 _ rfl, HAc.out.map.keep (Below.heap_setCell _ ⟨B, 25, none⟩ _ _ HAc.out.lt.2.2.symm) (fun _ _ h => h)⟩)
    have HRd := Aside0.mk (show wd.heap[gr]? = some (.cells #[(.int .i64 0), (.int .i64 0), (.int .i64 0), (.slice none 0 0), (.slice none 0 0), (.slice none 0 0)] 42 (0, 0)) by rw [hwd]; exact blk_far HRc.out (p := ⟨B, 25, none⟩) NG.out.1.symm _)
    have Ud := Aside0.mk (show Upd w wd (SA B bl) by rw [hwd]; exact Uc.out.and ((Upd.set _ ⟨B, 25, none⟩ _).mono (fun k hk => Or.inl hk)))
    clear hwd a25 az25 p31z p33 HAc HPc HRc Uc
    have HKF := Aside0.mk (sentF_ok HK.out)
    have a1 : wd.cell? ⟨B, 1, none⟩ = some (.int .i64 s.nodes) := (blk_cell HBd.out.blk 1).trans rfl
    obtain ⟨nn, hnn⟩ : ∃ nn, nn = p.f6.f2 := ⟨_, rfl⟩
    rw [← hnn] at HV ⊢
    clear hnn
    by_cases hn : 1 ≤ nn ∧ nn ≤ s.nodes
    case pos =>
     have HN := Aside0.mk (And.intro hn.1 hn.2)
     have HLV := Aside0.mk (show leadV s nn = { s with sent := false, lead := putM s.group (nn - 1) s.lead } by unfold leadV; rw [if_pos hn])
     rw [HLV.out] at HV
     have f1 : decide (1 ≤ nn) = true := decide_eq_true hn.1
     have f2 : decide (nn ≤ s.nodes) = true := decide_eq_true hn.2
     clear hn
     have hw1 : wrap64 (nn - 1) = nn - 1 := by have h1 := HN.out; have h2 := HK.out.nodes1; unfold wrap64; omega
     go_upto_region 7 with (fail)
     have HM7 := Aside0.mk HBd.out.map
     refine start_ (n := 11) (S := fun w' => Below wd.heap.size wd w') (ds := [10]) (bq 11 0) (by kernel_rfl) rfl rfl (below_drew (Below.refl _ _)) (fun hHeld => ?_)
     generalize wd.drew = wx at  hHeld ⊢
     refine pu 0 75 (bq 11 1) ?_ rfl rfl (by kernel_rfl) (fun _ _ _ h => h) (by rfl) ?_ ?_ ?_ ?_
     rotate_left
     ·intro w'; go_simp; with_reducible rfl
     rotate_left
     ·simp only [Act.put, sqA, sqB, sqC, i64_w, i32_w]
      rfl
     refine pu 1 76 (bq 11 3) ?_ rfl rfl (by kernel_rfl) (fun _ _ _ h => h) (by rfl) ?_ ?_ ?_ ?_
     rotate_left
     ·intro w'; go_simp; with_reducible rfl
     rotate_left
     ·simp only [Act.put, sqA, sqB, sqC, i64_w, i32_w]
      rfl
     refine pu 2 77 (bq 11 7) ?_ rfl rfl (by kernel_rfl) (fun _ _ _ h => h) (by rfl) ?_ ?_ ?_ ?_
     rotate_left
     ·intro w'; go_simp; with_reducible rfl
     rotate_left
     ·simp only [Act.put, sqA, sqB, sqC, i64_w, i32_w]
      rfl
     refine pu 4 79 (bq 11 23) ?_ rfl rfl (by kernel_rfl) (fun _ _ _ h => h) (by rfl) ?_ ?_ ?_ ?_
     rotate_left
     ·intro w'; go_simp; with_reducible rfl
     rotate_left
     ·simp only [Act.put, sqA, sqB, sqC, i64_w, i32_w]
      rfl
     refine pu 5 80 (bq 11 55) ?_ rfl rfl (by kernel_rfl) (fun _ _ _ h => h) (by rfl) ?_ ?_ ?_ ?_
     rotate_left
     ·intro w'; go_simp; with_reducible rfl
     rotate_left
     ·simp only [Act.put, sqA, sqB, sqC, i64_w, i32_w]
      rfl
     refine pu 6 81 (bq 11 119) ?_ rfl rfl (by kernel_rfl) (fun _ _ _ h => h) (by rfl) ?_ ?_ ?_ ?_
     rotate_left
     ·intro w'; go_simp; with_reducible rfl
     rotate_left
     ·simp only [Act.put, sqA, sqB, sqC, i64_w, i32_w]
      rfl
     refine pu 8 83 (bq 11 375) ?_ rfl rfl (by kernel_rfl) (fun _ _ _ h => h) (by rfl) ?_ ?_ ?_ ?_
     rotate_left
     ·intro w'; go_simp; with_reducible rfl
     rotate_left
     ·simp only [Act.put, sqA, sqB, sqC, i64_w, i32_w]
      rfl
     refine pu 9 84 (bq 11 887) ?_ rfl rfl (by kernel_rfl) (fun _ _ _ h => h) (by rfl) ?_ ?_ ?_ ?_
     rotate_left
     ·intro w'; go_simp; with_reducible rfl
     rotate_left
     ·simp only [Act.put, sqA, sqB, sqC, i64_w, i32_w]
      rfl
     refine tk 3 78 (bq 11 895) ?_ rfl rfl (by kernel_rfl) (fun _ _ _ h => h) (by rfl) ?_ hHeld ?_ ?_ ?_
     rotate_left
     ·intro w' hw'
      have hb_ := blk_below HBd.out.blk hw'
      have s4 := (blk_cell hb_ 4).trans (show _ = some (.int .i64 s.group) from rfl)
      have s27 := (blk_cell hb_ 27).trans (show _ = some (.map (some bl)) from rfl)
      go_simp
      with_reducible rfl
     rotate_left
     ·simp only [Act.put, sqA, sqB, sqC, i64_w, i32_w]
      rfl
     refine tk 7 82 (bq 11 1023) ?_ rfl rfl (by kernel_rfl) (fun _ _ _ h => h) (by rfl) ?_ hHeld ?_ ?_ ?_
     rotate_left
     ·intro w' hw'
      have hb_ := blk_below HBd.out.blk hw'
      have s4 := (blk_cell hb_ 4).trans (show _ = some (.int .i64 s.group) from rfl)
      have s27 := (blk_cell hb_ 27).trans (show _ = some (.map (some bl)) from rfl)
      go_simp
      with_reducible rfl
     rotate_left
     ·simp only [Act.put, sqA, sqB, sqC, i64_w, i32_w]
      rfl
     refine last_ (i := 10) (N := none) (bq 11 2047) rfl rfl (by kernel_rfl) (by decide) (fun K hK => ?_)
     obtain ⟨w2_, hrun, hm2, hg2⟩ := (HM7.out.keep (w' := wx) (P' := NumP) (hHeld.block _ HM7.out.lt) (fun _ _ h => h)).put (t := 95) Try.underlying95 HK.out.q1 s.group (nn - 1) (by have := HK.out.group1; omega)
     refine skip_ (w1 := w2_) (by rfl) rfl ?_ ?_
     ·simp only [execOp, Act.eval, Act.put, List.setIfInBounds_toArray, List.set_cons_zero, List.set_cons_succ]
      go_simp
     refine hK.out _ _ ?_
     clear hK K
     refine done_ (by kernel_rfl) ?_
     have hnb := HBd.out.lt.2.2
     have HBz := Aside0.mk (show AskAt w2_ B bl (q + 1) { s with sent := false, lead := putM s.group (nn - 1) s.lead } from ⟨(hg2.block B (Nat.lt_of_lt_of_le HBd.out.lt.1 hHeld.size) (fun e => hnb (Option.some.inj e))).trans ((hHeld.block B HBd.out.lt.1).trans HBd.out.blk), hm2⟩)
     have Uz := Aside0.mk (Ud.out.and ((Upd.of_below hHeld _).and ((Upd.grown hg2).mono (fun k hk => Or.inr hk))))
     have HRz := Aside0.mk ((Upd.grown hg2).block (blk_below HRd.out hHeld) (fun e => NG.out.2.1 e.symm))
     clear hm2 hg2 hHeld hrun hnb f1 f2 hw1 a1
     go_wp2_with (first | ((with_reducible refine gate_ (.store 42 (.tmp 4) (.tmp 87)) rfl ?_); refine store_blk rfl 42 _ _ rfl gr 0 [(.int .i64 0), (.int .i64 0), (.int .i64 0), (.slice none 0 0), (.slice none 0 0), (.slice none 0 0)] rfl rfl HRz.out (Nat.le_of_ble_eq_true rfl) (by kernel_rfl) (by rfl) #[(.int .i64 0), (.int .i64 0), (.int .i64 0), (.slice none 0 0), (.slice none 0 0), (.slice none 0 0)] (by rfl) ?_; intro wd9 hnb_ hup_; have HR9 := Aside0.mk hnb_; have HU9 := Aside0.mk hup_; clear hnb_ hup_))
     refine bodyPost_ret (results_ct rfl _ _ gr 42 #[(.int .i64 0), (.int .i64 0), (.int .i64 0), (.slice none 0 0), (.slice none 0 0), (.slice none 0 0)] (0, 0) _ rfl HR9.out Try.underlying42 rfl (by kernel_rfl)) rfl ?_
     rw [HV.out]
     exact ⟨_, _, rfl, Kd.R_nil _ _ _ _ _, Kd.R_nil _ _ _ _ _, HBz.out.keep (HU9.out.kept.2 _ HBz.out.lt.1 NG.out.1) (HU9.out.kept.2 _ HBz.out.lt.2.1 NG.out.2.1), Uz.out.trans HU9.out (fun k hk => Or.inr (by have h3 : k = gr := hk; have := NG.out.2.2.2.2.2; omega))⟩
    case neg =>
     have HLV := Aside0.mk (show leadV s nn = nextV { s with sent := false } by unfold leadV; rw [if_neg hn])
     rw [HLV.out] at HV
     have f12 : (decide (1 ≤ nn) && decide (nn ≤ s.nodes)) = false := by simp only [Bool.and_eq_false_iff, decide_eq_false_iff_not]; omega
     by_cases f1 : 1 ≤ nn
     case pos =>
      have f2 : decide (nn ≤ s.nodes) = false := decide_eq_false (fun h => hn ⟨f1, h⟩)
      have f1z : decide (1 ≤ nn) = true := decide_eq_true f1
      clear f1 hn f12
      go_upto_region 9 with (go_at_call 44; (with_reducible refine (askNext _ B bl q { s with sent := false } HBd.out HKF.out).mono ?_); rintro e1 wz ⟨rfl, hn1, hn2⟩; have HBz := Aside0.mk hn1; have Uz := Aside0.mk (Ud.out.and hn2); have HRz := Aside0.mk (hn2.block HRd.out (fun e => by rcases e with e | e; exact NG.out.1 e.symm; exact NG.out.2.1 e.symm)); clear hn1 hn2)
      go_wp2_with (first | ((with_reducible refine gate_ (.store 42 (.tmp 4) (.tmp 87)) rfl ?_); refine store_blk rfl 42 _ _ rfl gr 0 [(.int .i64 0), (.int .i64 0), (.int .i64 0), (.slice none 0 0), (.slice none 0 0), (.slice none 0 0)] rfl rfl HRz.out (Nat.le_of_ble_eq_true rfl) (by kernel_rfl) (by rfl) #[(.int .i64 0), (.int .i64 0), (.int .i64 0), (.slice none 0 0), (.slice none 0 0), (.slice none 0 0)] (by rfl) ?_; intro wd9 hnb_ hup_; have HR9 := Aside0.mk hnb_; have HU9 := Aside0.mk hup_; clear hnb_ hup_))
      refine bodyPost_ret (results_ct rfl _ _ gr 42 #[(.int .i64 0), (.int .i64 0), (.int .i64 0), (.slice none 0 0), (.slice none 0 0), (.slice none 0 0)] (0, 0) _ rfl HR9.out Try.underlying42 rfl (by kernel_rfl)) rfl ?_
      rw [HV.out]
      exact ⟨_, _, rfl, Kd.R_nil _ _ _ _ _, Kd.R_nil _ _ _ _ _, HBz.out.keep (HU9.out.kept.2 _ HBz.out.lt.1 NG.out.1) (HU9.out.kept.2 _ HBz.out.lt.2.1 NG.out.2.1), Uz.out.trans HU9.out (fun k hk => Or.inr (by have h3 : k = gr := hk; have := NG.out.2.2.2.2.2; omega))⟩
     case neg =>
      have f1z : decide (1 ≤ nn) = false := decide_eq_false f1
      clear f1 hn f12
      go_upto_region 9 with (go_at_call 44; (with_reducible refine (askNext _ B bl q { s with sent := false } HBd.out HKF.out).mono ?_); rintro e1 wz ⟨rfl, hn1, hn2⟩; have HBz := Aside0.mk hn1; have Uz := Aside0.mk (Ud.out.and hn2); have HRz := Aside0.mk (hn2.block HRd.out (fun e => by rcases e with e | e; exact NG.out.1 e.symm; exact NG.out.2.1 e.symm)); clear hn1 hn2)
      go_wp2_with (first | ((with_reducible refine gate_ (.store 42 (.tmp 4) (.tmp 87)) rfl ?_); refine store_blk rfl 42 _ _ rfl gr 0 [(.int .i64 0), (.int .i64 0), (.int .i64 0), (.slice none 0 0), (.slice none 0 0), (.slice none 0 0)] rfl rfl HRz.out (Nat.le_of_ble_eq_true rfl) (by kernel_rfl) (by rfl) #[(.int .i64 0), (.int .i64 0), (.int .i64 0), (.slice none 0 0), (.slice none 0 0), (.slice none 0 0)] (by rfl) ?_; intro wd9 hnb_ hup_; have HR9 := Aside0.mk hnb_; have HU9 := Aside0.mk hup_; clear hnb_ hup_))
      refine bodyPost_ret (results_ct rfl _ _ gr 42 #[(.int .i64 0), (.int .i64 0), (.int .i64 0), (.slice none 0 0), (.slice none 0 0), (.slice none 0 0)] (0, 0) _ rfl HR9.out Try.underlying42 rfl (by kernel_rfl)) rfl ?_
      rw [HV.out]
      exact ⟨_, _, rfl, Kd.R_nil _ _ _ _ _, Kd.R_nil _ _ _ _ _, HBz.out.keep (HU9.out.kept.2 _ HBz.out.lt.1 NG.out.1) (HU9.out.kept.2 _ HBz.out.lt.2.1 NG.out.2.1), Uz.out.trans HU9.out (fun k hk => Or.inr (by have h3 : k = gr := hk; have := NG.out.2.2.2.2.2; omega))⟩
end Go.Proofs.Ytonedijkgddepaa.P
