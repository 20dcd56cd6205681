/- SessionLast's walk, by hand. No conditions. -/
import Derived.Test.YthelhieeplfffaaHLastA
namespace Go.Proofs.Ythelhieeplfffaa.P
open Go.RowKit Go.Maps Go.Proofs.YthelhieeplfffaaW.PrintWords Go.Proofs.YthelhieeplfffaaW.PrintLast Go.Proofs.YthelhieeplfffaaW.PrintMore
set_option linter.unusedVariables false
set_option linter.unusedSimpArgs false

set_option maxHeartbeats 8000000 in
set_option maxRecDepth 100000 in
theorem last3.calls (acts : List Ac) (A : Option Addr) (c : Nat) (w : World) (hc : acts.length ≤ c) (hr : Kd.C k34 w A acts.length acts) : Calls Try.prog 3 #[.slice A acts.length c] w fun e w' => e = .returned (.bool true) ∧ Below w.heap.size w w' := by
  have hmm := @run_makeMap Try.prog
  have HR := Aside0.mk hr
  have HCC := Aside0.mk hc
  clear hr hc
  obtain ⟨n0, hn0⟩ : ∃ n0, n0 = min acts.length 60 := ⟨_, rfl⟩
  have HN0 := Aside0.mk hn0
  clear hn0
  go_enter Try.func3, Try.ntmps3
  go_wp2_with (first
    | (go_at_call 6; (with_reducible refine (newR _).mono ?_); rintro e1 w1 ⟨B, b, rfl, hB, hb, hT, hb1⟩; have T1 := Aside0.mk hT; have B1 := Aside0.mk hb1; have LB := Aside0.mk (And.intro hB hb); clear hT hb1 hB hb))
  obtain ⟨W, hW⟩ : ∃ W, W = (w1.alloc (.map #[] 0)).alloc (.map #[] 0) := ⟨_, rfl⟩
  have HI0 := Aside0.mk (show LInv w W B b w1.heap.size (w1.heap.size + 1) 0 [] ∧ LAp w B b w1.heap.size (w1.heap.size + 1) by
    have h0 := T1.out (S3 b w1.heap.size (w1.heap.size + 1))
    have hlt := h0.lt
    have hs := B1.out.size
    have hl := LB.out
    have hbl : Below w1.heap.size w1 W := by rw [hW]; exact below_alloc (below_alloc (Below.refl _ _) _) _
    have h1 := World.ownsMap_made w1 Try.prog 3 RH
    have h2 := World.ownsMap_made (w1.alloc (.map #[] 0)) Try.prog 3 RH
    refine ⟨⟨h0.below hbl, ?_, ?_, Nat.zero_le _, fun x hx => (by cases hx), B1.out.trans (hbl.mono hs)⟩, ⟨hl.2, hs, by omega, by omega, by omega, by omega, by omega, by omega⟩⟩
    · rw [hW]
      exact ⟨_, owns_below h1 (below_alloc (Below.refl _ _) _), RelG.start⟩
    · rw [hW]
      refine ⟨_, ?_, RelG.start⟩
      simpa using h2)
  have HS := Aside0.mk (show W.heap.size = w1.heap.size + 2 by rw [hW]; simp)
  rw [← hW]
  clear hW T1 B1 LB
  obtain ⟨bL, hbL⟩ : ∃ b, b = w1.heap.size := ⟨_, rfl⟩
  obtain ⟨bS, hbS⟩ : ∃ b, b = w1.heap.size + 1 := ⟨_, rfl⟩
  rw [← hbS, ← hbL] at HI0 ⊢
  clear hbL hbS HS
  go_loopg [6] n0 (fun kq v6 w' => ∃ (i : Nat) (M : LM), v6 = .int .i64 i ∧ i ≤ n0 ∧ n0 - i ≤ kq ∧ Aside0 (LInv w w' B b bL bS i M))
  case atStart => exact ⟨0, [], rfl, Nat.zero_le _, by omega, ⟨HI0.out.1⟩⟩
  case round =>
    obtain ⟨i, M, rfl, hi, hg, HI⟩ := hrel
    have HAP := Aside0.mk HI0.out.2
    clear HI0
    by_cases hlt : i < n0
    · have hi60 : i < 60 := by have := HN0.out; omega
      have f1 : decide (i < acts.length) = true := decide_eq_true (by have := HN0.out; omega)
      have f2 : decide ((i : Int) < 60) = true := decide_eq_true (by omega)
      obtain ⟨ad, x, A1, c1, A2, c2, A3, c3, e0, y1, y2, y3, y4, y5, y6, y7, y8, HX⟩ := at_T34 HR.out i (by have := HN0.out; omega)
      cases e0
      have HBW := Aside0.mk HI.out.bel
      replace y1 := pw_cell_below HBW.out y1
      replace y2 := pw_cell_below HBW.out y2
      replace y3 := pw_cell_below HBW.out y3
      replace y4 := pw_cell_below HBW.out y4
      replace y5 := pw_cell_below HBW.out y5
      replace y6 := pw_cell_below HBW.out y6
      replace y7 := pw_cell_below HBW.out y7
      replace y8 := pw_cell_below HBW.out y8
      have hN := modB x.client 5 1 (by omega) (by omega) (by omega) (by omega)
      have hM := modB x.num 20 1 (by omega) (by omega) (by omega) (by omega)
      generalize hn0 : wrap64 (1 + (wrap64 (x.client.tmod 5 + 5)).tmod 5) = cz at hN
      generalize hm0 : wrap64 (1 + (wrap64 (x.num.tmod 20 + 20)).tmod 20) = nz at hM
      have HCZ := Aside0.mk hN
      have HNZ := Aside0.mk hM
      clear hN hM
      have hlm : i < acts.length := by have := HN0.out; omega
      have hlmz : (i : Int) < (acts.length : Int) := by omega
      go_wp2
      go_quiet (fail)
      rename_i nq
      obtain ⟨rg, rd, hev, lrg, lrd⟩ := few_ev x.r.e x.r.s x.r.n x.r.got x.r.data x.r.about
      obtain ⟨kf, hkf⟩ := hev.rounds
      have HKF := Aside0.mk hkf
      have HFEW := Aside0.mk (show (⟨x.r.e, x.r.s, x.r.n, rg, rd, x.r.about.take 10⟩ : Rp).few from ⟨lrg, lrd, by simp only [List.length_take]; omega⟩)
      clear hev hkf lrg lrd
      obtain ⟨ra, hra⟩ : ∃ ra, ra = x.r.about.take 10 := ⟨_, rfl⟩
      rw [← hra] at HKF HFEW
      clear hra
      go_wp2_with (fail)
      rw [hn0, hm0]
      clear hn0 hm0
      (with_reducible refine (racewaylaw13_few.calls kf x.r.e x.r.s x.r.n A1 c1 x.r.got A2 c2 x.r.data A3 c3 x.r.about x.r.e x.r.s x.r.n rg rd ra _ (Kd.C_drewN (Kd.C_below HX.out.2.1 HBW.out) _) HX.out.1.1 (Kd.C_drewN (Kd.C_below HX.out.2.2.1 HBW.out) _) HX.out.1.2.1 (Kd.C_drewN (Kd.C_below HX.out.2.2.2 HBW.out) _) HX.out.1.2.2 HKF.out).mono ?_)
      rintro e1 w5 ⟨v3, v4, v5, rfl, hr3, hr4, hr5, hb5⟩
      have HB5 := Aside0.mk (show Below wr.heap.size wr w5 from ⟨hb5.os, hb5.tape, hb5.output, hb5.size, hb5.block⟩)
      have HRP := Aside0.mk (show RepAt (S3 b bL bS) w5 ⟨x.r.e, x.r.s, x.r.n, rg, rd, ra⟩ v3 v4 v5 from ⟨RowAt.of_R hr3 HI.out.lt, RowAt.of_R hr4 HI.out.lt, RowAt.of_R hr5 HI.out.lt⟩)
      obtain ⟨A4, c4, rfl, hl4, hC4⟩ := Kd.R_reads hr3
      obtain ⟨A5, c5, rfl, hl5, hC5⟩ := Kd.R_reads hr4
      obtain ⟨A6, c6, rfl, hl6, hC6⟩ := Kd.R_reads hr5
      have HC5 := Aside0.mk (And.intro (And.intro hl4 (And.intro hl5 hl6)) (And.intro hC4 (And.intro hC5 hC6)))
      have HI5 := Aside0.mk (HI.out.below HB5.out)
      clear hr3 hr4 hr5 hb5 hl4 hl5 hl6 hC4 hC5 hC6
      go_wp2_with (fail)
      (with_reducible refine (noteAny (S3 b bL bS) _ B b i M ((HI5.out.below (by repeat (first | exact Below.refl _ _ | refine below_alloc ?_ _))).tab) cz nz x.r.e x.r.s x.r.n rg rd ra A4 A5 A6 c4 c5 c6 HFEW.out HC5.out.1 (by repeat (first | exact HC5.out.2.1 | apply Kd.C_alloc)) (by repeat (first | exact HC5.out.2.2.1 | apply Kd.C_alloc)) (by repeat (first | exact HC5.out.2.2.2 | apply Kd.C_alloc)) (HI5.out.below (by repeat (first | exact Below.refl _ _ | refine below_alloc ?_ _))).lt (S3.b _ _ _) (by have := HCZ.out; omega) (by have := HNZ.out; omega) (by have := HI5.out.len; omega) (by omega)).mono ?_)
      rintro e1 w6 ⟨ev, M', rfl, hT6, hg6, hev⟩
      have T6 := Aside0.mk hT6
      have G6 := Aside0.mk hg6
      have E6 := Aside0.mk hev
      clear hT6 hg6 hev
      obtain ⟨okb, hok1, hok2, hok3⟩ : ∃ okb : Bool, (ev == 0) = okb ∧ decide (lastM cz M < nz) = okb ∧ M' = (if okb = true then putM cz (nz, ⟨x.r.e, x.r.s, x.r.n, rg, rd, ra⟩) M else M) := by
        rcases E6.out with ⟨rfl, h1, h2⟩ | ⟨rfl, h1, h2⟩
        · exact ⟨true, rfl, decide_eq_true h1, h2⟩
        · exact ⟨false, rfl, decide_eq_false (by omega), h2⟩
      have OK2 := Aside0.mk hok2
      have OK3 := Aside0.mk hok3
      clear hok3 E6
      have HBA := Aside0.mk (HI5.out.below (below_alloc (Below.refl _ _) (.cells #[.int .i64 x.r.e, .int .i64 x.r.s, .int .i64 x.r.n, .slice A4 rg.length c4, .slice A5 rd.length c5, .slice A6 ra.length c6] 32)))
      obtain ⟨⟨hl6, hs6⟩, hb6, hk6⟩ := HBA.out.noted HAP.out G6.out
      have L6 := Aside0.mk hl6
      have S6 := Aside0.mk hs6
      have B6 := Aside0.mk hb6
      have K6 := Aside0.mk hk6
      clear hl6 hs6 hb6 hk6
      obtain ⟨DL, hol, hrl⟩ := L6.out
      have HOL := Aside0.mk hol
      have HRL := Aside0.mk hrl
      have HAT := Aside0.mk (at_last hrl (by obtain ⟨_, _, hh⟩ := HI.out.tab.2; exact hh.apart) cz)
      have HKY := Aside0.mk (keyOf_int_mk (P := Try.prog) (k := 3) Try.underlying3 (show (Lit.int .i64 cz).wf = true by have h_ := HCZ.out; simp [Lit.wf]; simp [IntKind.min, IntKind.bits]; omega))
      have KB9 := Aside0.mk (blk_grown (heap_alloc_new w5 (.cells #[.int .i64 x.r.e, .int .i64 x.r.s, .int .i64 x.r.n, .slice A4 rg.length c4, .slice A5 rd.length c5, .slice A6 ra.length c6] 32)) G6.out (fun e => by have h1 := HI5.out.tab.lt.2.1; have h2 := Option.some.inj e; omega))
      clear hol hrl
      go_upto_if 73 with (at_lookup; refine look_held _ rfl _ _ 25 rfl 3 3 law3 Try.underlying25 (.int .i64 0) (zero3 _) bL i DL rfl HOL.out _ (.int .i64 cz) rfl HKY.out (.int .i64 (lastM cz M)) HAT.out ?_)
      go_cut [10] (fun v10 w' => v10 = .int .i64 ev ∧ Aside0 (∃ (M2 : LM) (y : Int × Rp), LInv w w' B b bL bS (i + 1) M2 ∧ (cz, y) ∈ M2))
      case first =>
        cases okb
        · go_wp2
          go_meet
          have hin9 : ∃ y, (cz, y) ∈ M := by
            apply Classical.byContradiction
            intro hno
            have h1 := of_decide_eq_false OK2.out
            rw [lastM_no cz M hno] at h1
            have := HNZ.out
            omega
          obtain ⟨y, hy⟩ := hin9
          exact ⟨rfl, ⟨M, y, ⟨by have h := T6.out; rw [OK3.out] at h; simpa using h, L6.out.mono (Nat.le_succ _), S6.out.mono (Nat.le_succ _), Nat.le_succ_of_le HI.out.len, HI.out.key, B6.out⟩, hy⟩⟩
        · go_wp2
          refine start_ (n := 8) (S := fun w' => w'.cell? ⟨w5.heap.size, 0, none⟩ = some (.int .i64 x.r.e) ∧ w'.cell? ⟨w5.heap.size, 1, none⟩ = some (.int .i64 x.r.s) ∧ w'.cell? ⟨w5.heap.size, 2, none⟩ = some (.int .i64 x.r.n) ∧ w'.cell? ⟨w5.heap.size, 3, none⟩ = some (.slice A4 rg.length c4) ∧ w'.cell? ⟨w5.heap.size, 4, none⟩ = some (.slice A5 rd.length c5) ∧ w'.cell? ⟨w5.heap.size, 5, none⟩ = some (.slice A6 ra.length c6)) (ds := [7]) #[false, false, false, false, false, false, false, false] (by kernel_rfl) rfl rfl ⟨(blk_cell KB9.out 0).trans rfl, (blk_cell KB9.out 1).trans rfl, (blk_cell KB9.out 2).trans rfl, (blk_cell KB9.out 3).trans rfl, (blk_cell KB9.out 4).trans rfl, (blk_cell KB9.out 5).trans rfl⟩ (fun hHeld => ?_)
          have HBD := Aside0.mk (below_drew (Below.refl w6.heap.size w6))
          generalize w6.drew = wd at HBD hHeld ⊢
          refine pure_ (i := 0) (N := some 74) (v := ?_) (a' := ?_) #[true, false, false, false, false, false, false, false] rfl rfl (by kernel_rfl) (fun _ _ _ h => h) (Or.inl ⟨by rfl, ?_⟩) ?_ ?_
          rotate_left
          · intro w'
            go_simp
            with_reducible rfl
          rotate_left
          · simp only [Act.put, List.setIfInBounds_toArray, List.set_cons_zero, List.set_cons_succ, i64_w, i32_w]
            rfl
          refine pure_ (i := 1) (N := some 75) (v := ?_) (a' := ?_) #[true, true, false, false, false, false, false, false] rfl rfl (by kernel_rfl) (fun _ _ _ h => h) (Or.inl ⟨by rfl, ?_⟩) ?_ ?_
          rotate_left
          · intro w'
            go_simp
            with_reducible rfl
          rotate_left
          · simp only [Act.put, List.setIfInBounds_toArray, List.set_cons_zero, List.set_cons_succ, i64_w, i32_w]
            rfl
          refine pure_ (i := 2) (N := some 76) (v := ?_) (a' := ?_) #[true, true, true, false, false, false, false, false] rfl rfl (by kernel_rfl) (fun _ _ _ h => h) (Or.inl ⟨by rfl, ?_⟩) ?_ ?_
          rotate_left
          · intro w'
            go_simp
            with_reducible rfl
          rotate_left
          · simp only [Act.put, List.setIfInBounds_toArray, List.set_cons_zero, List.set_cons_succ, i64_w, i32_w]
            rfl
          refine pure_ (i := 3) (N := some 77) (v := ?_) (a' := ?_) #[true, true, true, true, false, false, false, false] rfl rfl (by kernel_rfl) (fun _ _ _ h => h) (Or.inl ⟨by rfl, ?_⟩) ?_ ?_
          rotate_left
          · intro w'
            go_simp
            with_reducible rfl
          rotate_left
          · simp only [Act.put, List.setIfInBounds_toArray, List.set_cons_zero, List.set_cons_succ, i64_w, i32_w]
            rfl
          refine pure_ (i := 4) (N := some 78) (v := ?_) (a' := ?_) #[true, true, true, true, true, false, false, false] rfl rfl (by kernel_rfl) (fun _ _ _ h => h) (Or.inl ⟨by rfl, ?_⟩) ?_ ?_
          rotate_left
          · intro w'
            go_simp
            with_reducible rfl
          rotate_left
          · simp only [Act.put, List.setIfInBounds_toArray, List.set_cons_zero, List.set_cons_succ, i64_w, i32_w]
            rfl
          refine take_ (i := 5) (N := some 79) (v := ?_) (a' := ?_) #[true, true, true, true, true, true, false, false] rfl rfl (by kernel_rfl) (fun _ _ _ h => h) (Or.inl ⟨by rfl, ?_⟩) hHeld ?_ ?_
          rotate_left
          · rintro w' ⟨s0, s1, s2, s3, s4, s5⟩
            go_simp
            with_reducible rfl
          rotate_left
          · simp only [Act.put, List.setIfInBounds_toArray, List.set_cons_zero, List.set_cons_succ, i64_w, i32_w]
            rfl
          refine one_ (i := 6) (N := none) #[true, true, true, true, true, true, true, false] rfl rfl (by kernel_rfl) (by decide) (fun K hK => ?_)
          obtain ⟨w7, hrun7, hown7, hgrow7⟩ := (owns_below HOL.out HBD.out).update law3 Try.underlying25 (show i < maxLen by unfold maxLen; omega) HKY.out (show RH (.int .i64 nz) = some (.held (.int .i64 nz), []) from rfl)
          have OW7 := Aside0.mk hown7
          have G7 := Aside0.mk ((show w6.grownBy wd (some bL) from grown_of_below HBD.out _).trans hgrow7)
          refine skip_ (w1 := w7) (by rfl) rfl ?_ ?_
          · simp only [execOp, Act.eval, Act.put, List.setIfInBounds_toArray, List.set_cons_zero, List.set_cons_succ]
            go_simp
          have KB7 := Aside0.mk (blk_grown KB9.out G7.out (fun e => by have h1 := HI5.out.las.lt; have h2 := Option.some.inj e; omega))
          refine hK.out _ _ ⟨(blk_cell KB7.out 0).trans rfl, (blk_cell KB7.out 1).trans rfl, (blk_cell KB7.out 2).trans rfl, (blk_cell KB7.out 3).trans rfl, (blk_cell KB7.out 4).trans rfl, (blk_cell KB7.out 5).trans rfl⟩ ?_
          intro hHeld
          clear hK K hrun7 hown7 hgrow7
          have MS7 := Aside0.mk (S6.out.keep (P' := RepP (S3 b bL bS) w7) (G7.out.block _ S6.out.lt (fun e => HAP.out.b6 (Option.some.inj e).symm)) (RepP.kept (Kept.of_grown G7.out (Kept.refl _ _) (fun k hk => Or.inl (by cases hk; exact Or.inr (Or.inl rfl))))))
          obtain ⟨DS, hos, hrs⟩ := MS7.out
          have HOS := Aside0.mk hos
          have HRS := Aside0.mk hrs
          clear hos hrs
          refine last_ (i := 7) (N := none) #[true, true, true, true, true, true, true, true] rfl rfl (by kernel_rfl) (by decide) (fun K hK => ?_)
          obtain ⟨w8, hrun8, hown8, hgrow8⟩ := HOS.out.update law3 Try.underlying26 (show i < maxLen by unfold maxLen; omega) HKY.out (show RH (repV ⟨x.r.e, x.r.s, x.r.n, rg, rd, ra⟩ (.slice A4 rg.length c4) (.slice A5 rd.length c5) (.slice A6 ra.length c6)) = some (.held (repV ⟨x.r.e, x.r.s, x.r.n, rg, rd, ra⟩ (.slice A4 rg.length c4) (.slice A5 rd.length c5) (.slice A6 ra.length c6)), []) from rfl)
          have OW8 := Aside0.mk hown8
          have G8 := Aside0.mk hgrow8
          refine skip_ (w1 := w8) (by rfl) rfl ?_ ?_
          · unfold repV at hrun8
            simp only [execOp, Act.eval, Act.put, List.setIfInBounds_toArray, List.set_cons_zero, List.set_cons_succ]
            go_simp
          refine hK.out _ _ ?_
          clear hK K hrun8 hown8 hgrow8
          refine done_ (by kernel_rfl) ?_
          go_wp2
          go_meet
          refine ⟨rfl, ⟨_, (nz, ⟨x.r.e, x.r.s, x.r.n, rg, rd, ra⟩), HI.out.put2 HAP.out (by have h := T6.out; rw [OK3.out] at h; simpa using h) B6.out DL HRL.out (HOL.out.tidy law3) OW7.out G7.out DS HRS.out (HOS.out.tidy law3) OW8.out G8.out (HRP.out.kept (((Kept.of_below (below_alloc (Below.refl _ _) _) _).then_ K6.out (fun k hk => Or.inl hk)).then_ (Kept.of_grown G7.out (Kept.refl _ _) (fun k hk => Or.inl (by cases hk; exact Or.inr (Or.inl rfl)))) (fun k hk => Or.inl hk))) HFEW.out (by have := HCZ.out; omega) (by have := HNZ.out; omega), putM_in _ _ _⟩⟩
      case rest =>
        obtain ⟨rfl, hcut⟩ := hcut
        obtain ⟨M2, y, hL2, hin2⟩ := hcut.out
        rename World => wc
        clear hcut OK2 OK3 HBA G6 T6 L6 S6 B6 K6 HOL HRL HAT KB9 HRP HC5 HI5 HKF HFEW HB5 hok1 y1 y2 y3 y4 y5 y6 y7 y8 HX HBW
        have HL2 := Aside0.mk hL2
        have HIN := Aside0.mk hin2
        have HKEY := Aside0.mk (show 1 ≤ cz ∧ cz ≤ 5 ∧ 1 ≤ y.1 ∧ y.1 ≤ 20 ∧ y.2.few from hL2.key _ hin2)
        have LR := Aside0.mk (fun (w' : World) (hb : Below wc.heap.size wc w') => (hL2.below hb).las_run hin2)
        have TR := Aside0.mk (fun (w' : World) (hb : Below wc.heap.size wc w') => (hL2.below hb).tab)
        obtain ⟨E1, d1, E2, d2, E3, d3, hle, hsr, hsl⟩ := hL2.sai_run hin2
        have SL := Aside0.mk hle
        have SR := Aside0.mk hsr
        have SK := Aside0.mk hsl
        clear hL2 hin2 hle hsr hsl
        have hw1 : wrap64 (y.1 + 1) = y.1 + 1 := wrapS (by have := HKEY.out; omega) (by have := HKEY.out; omega)
        have HB0 := Aside0.mk (Below.refl wc.heap.size wc)
        go_upto_region 17 with (first
          | (at_lookup; refine look_by _ rfl _ _ 25 rfl (.map (some bL)) (.int .i64 cz) (.int .i64 y.1) rfl rfl (LR.out _ HB0.out) ?_)
          | (go_at_call 9; (with_reducible refine (lookHitR (S3 b bL bS) _ B b (i + 1) M2 (TR.out _ HB0.out) cz y.1 (by have := HCZ.out; omega) (by have := HKEY.out; omega) y HIN.out rfl).mono ?_); rintro e1 w7 ⟨g7, d7, a7, rfl, hr7, hb7⟩; have R7 := Aside0.mk (hr7 (S3 b bL bS) HL2.out.lt); obtain ⟨⟨A7, c7, rfl, lx7, gx7⟩, ⟨A8, c8, rfl, lx8, gx8⟩, ⟨A9, c9, rfl, lx9, gx9⟩⟩ := hr7 (S3 b bL bS) HL2.out.lt; have RC := Aside0.mk (And.intro (And.intro lx7 (And.intro lx8 lx9)) (And.intro (gx7 _ (Kept.refl _ _)) (And.intro (gx8 _ (Kept.refl _ _)) (gx9 _ (Kept.refl _ _))))); clear lx7 lx8 lx9 gx7 gx8 gx9; have B7 := Aside0.mk hb7; clear hr7 hb7))
        have KB10 := Aside0.mk (heap_alloc_new w7 (.cells #[.int .i64 y.2.e, .int .i64 y.2.s, .int .i64 y.2.n, .slice A7 y.2.got.length c7, .slice A8 y.2.data.length c8, .slice A9 y.2.about.length c9] 32))
        have B10 := Aside0.mk (below_alloc B7.out (.cells #[.int .i64 y.2.e, .int .i64 y.2.s, .int .i64 y.2.n, .slice A7 y.2.got.length c7, .slice A8 y.2.data.length c8, .slice A9 y.2.about.length c9] 32))
        have B78 := Aside0.mk (below_alloc (Below.refl w7.heap.size w7) (.cells #[.int .i64 y.2.e, .int .i64 y.2.s, .int .i64 y.2.n, .slice A7 y.2.got.length c7, .slice A8 y.2.data.length c8, .slice A9 y.2.about.length c9] 32))
        generalize w7.alloc (.cells #[.int .i64 y.2.e, .int .i64 y.2.s, .int .i64 y.2.n, .slice A7 y.2.got.length c7, .slice A8 y.2.data.length c8, .slice A9 y.2.about.length c9] 32) = w8 at KB10 B10 B78 ⊢
        go_upto_region 18 with (first
          | (at_lookup; refine look_by _ rfl _ _ 25 rfl (.map (some bL)) (.int .i64 cz) (.int .i64 y.1) rfl rfl (LR.out _ B10.out) ?_)
          | (go_at_call 9; (with_reducible refine (lookMoreR (S3 b bL bS) _ B b (i + 1) M2 (TR.out _ B10.out) cz (y.1 + 1) (by have := HCZ.out; omega) (by have := HKEY.out; omega) y HIN.out (show y.1 < y.1 + 1 by omega)).mono ?_); rintro e1 w9 ⟨rfl, hb9⟩; have B9 := Aside0.mk hb9; clear hb9))
        have KB11 := Aside0.mk (blk_alloc (blk_below KB10.out B9.out) (.cells #[.int .i64 0, .int .i64 0, .int .i64 0, .slice none 0 0, .slice none 0 0, .slice none 0 0] 32))
        have B11 := Aside0.mk (below_alloc (B10.out.trans (B9.out.mono B10.out.size)) (.cells #[.int .i64 0, .int .i64 0, .int .i64 0, .slice none 0 0, .slice none 0 0, .slice none 0 0] 32))
        have B7z := Aside0.mk (show Below w7.heap.size w7 (w9.alloc (.cells #[.int .i64 0, .int .i64 0, .int .i64 0, .slice none 0 0, .slice none 0 0, .slice none 0 0] 32)) from below_alloc (B78.out.trans (B9.out.mono B78.out.size)) _)
        generalize w9.alloc (.cells #[.int .i64 0, .int .i64 0, .int .i64 0, .slice none 0 0, .slice none 0 0, .slice none 0 0] 32) = wz at KB11 B11 B7z ⊢
        obtain ⟨ks, hks⟩ := (reply_self y.2.e y.2.s y.2.n y.2.got y.2.data y.2.about (by have h := HKEY.out.2.2.2.2.1; omega) (by have h := HKEY.out.2.2.2.2.2.1; omega) (by have h := HKEY.out.2.2.2.2.2.2; omega)).rounds
        have HKS := Aside0.mk hks
        clear hks
        refine start_ (n := 27) (S := fun w' => Below wz.heap.size wz w') (ds := []) #[false, false, false, false, false, false, false, false, false, false, false, false, false, false, false, false, false, false, false, false, false, false, false, false, false, false, false] (by kernel_rfl) rfl rfl (below_drew (Below.refl _ _)) (fun hHeld => ?_)
        generalize wz.drew = wd at hHeld ⊢
        refine pure_ (i := 0) (N := some 101) (v := ?_) (a' := ?_) #[true, false, false, false, false, false, false, false, false, false, false, false, false, false, false, false, false, false, false, false, false, false, false, false, false, false, false] rfl rfl (by kernel_rfl) (fun _ _ _ h => h) (Or.inl ⟨by rfl, ?_⟩) ?_ ?_
        rotate_left
        · intro w'
          go_simp
          with_reducible rfl
        rotate_left
        · simp only [Act.put, List.setIfInBounds_toArray, List.set_cons_zero, List.set_cons_succ, i64_w, i32_w]
          rfl
        refine pure_ (i := 1) (N := some 102) (v := ?_) (a' := ?_) #[true, true, false, false, false, false, false, false, false, false, false, false, false, false, false, false, false, false, false, false, false, false, false, false, false, false, false] rfl rfl (by kernel_rfl) (fun _ _ _ h => h) (Or.inl ⟨by rfl, ?_⟩) ?_ ?_
        rotate_left
        · intro w'
          go_simp
          with_reducible rfl
        rotate_left
        · simp only [Act.put, List.setIfInBounds_toArray, List.set_cons_zero, List.set_cons_succ, i64_w, i32_w]
          rfl
        refine pure_ (i := 2) (N := some 103) (v := ?_) (a' := ?_) #[true, true, true, false, false, false, false, false, false, false, false, false, false, false, false, false, false, false, false, false, false, false, false, false, false, false, false] rfl rfl (by kernel_rfl) (fun _ _ _ h => h) (Or.inl ⟨by rfl, ?_⟩) ?_ ?_
        rotate_left
        · intro w'
          go_simp
          with_reducible rfl
        rotate_left
        · simp only [Act.put, List.setIfInBounds_toArray, List.set_cons_zero, List.set_cons_succ, i64_w, i32_w]
          rfl
        refine pure_ (i := 3) (N := some 104) (v := ?_) (a' := ?_) #[true, true, true, true, false, false, false, false, false, false, false, false, false, false, false, false, false, false, false, false, false, false, false, false, false, false, false] rfl rfl (by kernel_rfl) (fun _ _ _ h => h) (Or.inl ⟨by rfl, ?_⟩) ?_ ?_
        rotate_left
        · intro w'
          go_simp
          with_reducible rfl
        rotate_left
        · simp only [Act.put, List.setIfInBounds_toArray, List.set_cons_zero, List.set_cons_succ, i64_w, i32_w]
          rfl
        refine pure_ (i := 4) (N := some 105) (v := ?_) (a' := ?_) #[true, true, true, true, true, false, false, false, false, false, false, false, false, false, false, false, false, false, false, false, false, false, false, false, false, false, false] rfl rfl (by kernel_rfl) (fun _ _ _ h => h) (Or.inl ⟨by rfl, ?_⟩) ?_ ?_
        rotate_left
        · intro w'
          go_simp
          with_reducible rfl
        rotate_left
        · simp only [Act.put, List.setIfInBounds_toArray, List.set_cons_zero, List.set_cons_succ, i64_w, i32_w]
          rfl
        refine pure_ (i := 5) (N := some 106) (v := ?_) (a' := ?_) #[true, true, true, true, true, true, false, false, false, false, false, false, false, false, false, false, false, false, false, false, false, false, false, false, false, false, false] rfl rfl (by kernel_rfl) (fun _ _ _ h => h) (Or.inl ⟨by rfl, ?_⟩) ?_ ?_
        rotate_left
        · intro w'
          go_simp
          with_reducible rfl
        rotate_left
        · simp only [Act.put, List.setIfInBounds_toArray, List.set_cons_zero, List.set_cons_succ, i64_w, i32_w]
          rfl
        refine pure_ (i := 6) (N := some 107) (v := ?_) (a' := ?_) #[true, true, true, true, true, true, true, false, false, false, false, false, false, false, false, false, false, false, false, false, false, false, false, false, false, false, false] rfl rfl (by kernel_rfl) (fun _ _ _ h => h) (Or.inl ⟨by rfl, ?_⟩) ?_ ?_
        rotate_left
        · intro w'
          go_simp
          with_reducible rfl
        rotate_left
        · simp only [Act.put, List.setIfInBounds_toArray, List.set_cons_zero, List.set_cons_succ, i64_w, i32_w]
          rfl
        refine pure_ (i := 7) (N := some 108) (v := ?_) (a' := ?_) #[true, true, true, true, true, true, true, true, false, false, false, false, false, false, false, false, false, false, false, false, false, false, false, false, false, false, false] rfl rfl (by kernel_rfl) (fun _ _ _ h => h) (Or.inl ⟨by rfl, ?_⟩) ?_ ?_
        rotate_left
        · intro w'
          go_simp
          with_reducible rfl
        rotate_left
        · simp only [Act.put, List.setIfInBounds_toArray, List.set_cons_zero, List.set_cons_succ, i64_w, i32_w]
          rfl
        refine pure_ (i := 8) (N := some 109) (v := ?_) (a' := ?_) #[true, true, true, true, true, true, true, true, true, false, false, false, false, false, false, false, false, false, false, false, false, false, false, false, false, false, false] rfl rfl (by kernel_rfl) (fun _ _ _ h => h) (Or.inl ⟨by rfl, ?_⟩) ?_ ?_
        rotate_left
        · intro w'
          go_simp
          with_reducible rfl
        rotate_left
        · simp only [Act.put, List.setIfInBounds_toArray, List.set_cons_zero, List.set_cons_succ, i64_w, i32_w]
          rfl
        refine pure_ (i := 9) (N := some 110) (v := ?_) (a' := ?_) #[true, true, true, true, true, true, true, true, true, true, false, false, false, false, false, false, false, false, false, false, false, false, false, false, false, false, false] rfl rfl (by kernel_rfl) (fun _ _ _ h => h) (Or.inl ⟨by rfl, ?_⟩) ?_ ?_
        rotate_left
        · intro w'
          go_simp
          with_reducible rfl
        rotate_left
        · simp only [Act.put, List.setIfInBounds_toArray, List.set_cons_zero, List.set_cons_succ, i64_w, i32_w]
          rfl
        refine pure_ (i := 10) (N := some 111) (v := ?_) (a' := ?_) #[true, true, true, true, true, true, true, true, true, true, true, false, false, false, false, false, false, false, false, false, false, false, false, false, false, false, false] rfl rfl (by kernel_rfl) (fun _ _ _ h => h) (Or.inl ⟨by rfl, ?_⟩) ?_ ?_
        rotate_left
        · intro w'
          go_simp
          with_reducible rfl
        rotate_left
        · simp only [Act.put, List.setIfInBounds_toArray, List.set_cons_zero, List.set_cons_succ, i64_w, i32_w]
          rfl
        refine take_ (i := 11) (N := some 112) (v := ?_) (a' := ?_) #[true, true, true, true, true, true, true, true, true, true, true, true, false, false, false, false, false, false, false, false, false, false, false, false, false, false, false] rfl rfl (by kernel_rfl) (fun _ _ _ h => h) (Or.inl ⟨by rfl, ?_⟩) hHeld ?_ ?_
        rotate_left
        · intro w' hw'
          have s0 : w'.cell? ⟨w7.heap.size, 0, none⟩ = some (.int .i64 y.2.e) := (blk_cell (blk_below KB11.out hw') 0).trans rfl
          have s1 : w'.cell? ⟨w7.heap.size, 1, none⟩ = some (.int .i64 y.2.s) := (blk_cell (blk_below KB11.out hw') 1).trans rfl
          have s2 : w'.cell? ⟨w7.heap.size, 2, none⟩ = some (.int .i64 y.2.n) := (blk_cell (blk_below KB11.out hw') 2).trans rfl
          have s3 : w'.cell? ⟨w7.heap.size, 3, none⟩ = some (.slice A7 y.2.got.length c7) := (blk_cell (blk_below KB11.out hw') 3).trans rfl
          have s4 : w'.cell? ⟨w7.heap.size, 4, none⟩ = some (.slice A8 y.2.data.length c8) := (blk_cell (blk_below KB11.out hw') 4).trans rfl
          have s5 : w'.cell? ⟨w7.heap.size, 5, none⟩ = some (.slice A9 y.2.about.length c9) := (blk_cell (blk_below KB11.out hw') 5).trans rfl
          go_simp
          with_reducible rfl
        rotate_left
        · simp only [Act.put, List.setIfInBounds_toArray, List.set_cons_zero, List.set_cons_succ, i64_w, i32_w]
          rfl
        refine pure_ (i := 12) (N := some 113) (v := ?_) (a' := ?_) #[true, true, true, true, true, true, true, true, true, true, true, true, true, false, false, false, false, false, false, false, false, false, false, false, false, false, false] rfl rfl (by kernel_rfl) (fun _ _ _ h => h) (Or.inl ⟨by rfl, ?_⟩) ?_ ?_
        rotate_left
        · intro w'
          go_simp
          with_reducible rfl
        rotate_left
        · simp only [Act.put, List.setIfInBounds_toArray, List.set_cons_zero, List.set_cons_succ, i64_w, i32_w]
          rfl
        refine pure_ (i := 13) (N := some 114) (v := ?_) (a' := ?_) #[true, true, true, true, true, true, true, true, true, true, true, true, true, true, false, false, false, false, false, false, false, false, false, false, false, false, false] rfl rfl (by kernel_rfl) (fun _ _ _ h => h) (Or.inl ⟨by rfl, ?_⟩) ?_ ?_
        rotate_left
        · intro w'
          go_simp
          with_reducible rfl
        rotate_left
        · simp only [Act.put, List.setIfInBounds_toArray, List.set_cons_zero, List.set_cons_succ, i64_w, i32_w]
          rfl
        refine take_ (i := 14) (N := some 115) (v := ?_) (a' := ?_) #[true, true, true, true, true, true, true, true, true, true, true, true, true, true, true, false, false, false, false, false, false, false, false, false, false, false, false] rfl rfl (by kernel_rfl) (fun _ _ _ h => h) (Or.inl ⟨by rfl, ?_⟩) hHeld ?_ ?_
        rotate_left
        · intro w' hw'
          have s0 := SK.out w' (B11.out.trans (hw'.mono B11.out.size))
          go_simp
          with_reducible rfl
        rotate_left
        · simp only [Act.put, List.setIfInBounds_toArray, List.set_cons_zero, List.set_cons_succ, i64_w, i32_w]
          rfl
        refine one_ (i := 15) (N := some 116) #[true, true, true, true, true, true, true, true, true, true, true, true, true, true, true, true, false, false, false, false, false, false, false, false, false, false, false] rfl rfl (by kernel_rfl) (by decide) (fun K hK => ?_)
        refine goes_ Try.func10 (by kernel_rfl) rfl #[.agg #[.int .i64 y.2.e, .int .i64 y.2.s, .int .i64 y.2.n, .slice A7 y.2.got.length c7, .slice A8 y.2.data.length c8, .slice A9 y.2.about.length c9], .agg #[.int .i64 y.2.e, .int .i64 y.2.s, .int .i64 y.2.n, .slice E1 y.2.got.length d1, .slice E2 y.2.data.length d2, .slice E3 y.2.about.length d3]] (by rfl) rfl rfl (by (try simp only [List.map_toArray, List.map_cons, List.map_nil]); first | done | rfl) ?_
        with_reducible refine (racewayref05_SameReply.calls ks y.2.e y.2.s y.2.n A7 c7 y.2.got A8 c8 y.2.data A9 c9 y.2.about y.2.e y.2.s y.2.n E1 d1 y.2.got E2 d2 y.2.data E3 d3 y.2.about true _ (Kd.C_below RC.out.2.1 (B7z.out.trans (hHeld.mono B7z.out.size))) RC.out.1.1 (Kd.C_below RC.out.2.2.1 (B7z.out.trans (hHeld.mono B7z.out.size))) RC.out.1.2.1 (Kd.C_below RC.out.2.2.2 (B7z.out.trans (hHeld.mono B7z.out.size))) RC.out.1.2.2 (SR.out _ (B11.out.trans (hHeld.mono B11.out.size))).1 SL.out.1 (SR.out _ (B11.out.trans (hHeld.mono B11.out.size))).2.1 SL.out.2.1 (SR.out _ (B11.out.trans (hHeld.mono B11.out.size))).2.2 SL.out.2.2 HKS.out).mono ?_
        rintro e1 we ⟨rfl, hb⟩
        refine ⟨_, rfl, ?_⟩
        refine hK.out _ _ (hHeld.trans (hb.mono hHeld.size)) ?_
        clear hHeld
        intro hHeld
        clear hK K hb
        refine norm_ (a' := ?_) ?_ ?_
        rotate_left
        · show Act.put _ (some 116) _ = _; simp only [Act.put, List.setIfInBounds_toArray, List.set_cons_zero, List.set_cons_succ, i64_w, i32_w]
          rfl
        refine pure_ (i := 16) (N := some 117) (v := ?_) (a' := ?_) #[true, true, true, true, true, true, true, true, true, true, true, true, true, true, true, true, true, false, false, false, false, false, false, false, false, false, false] rfl rfl (by kernel_rfl) (fun _ _ _ h => h) (Or.inl ⟨by rfl, ?_⟩) ?_ ?_
        rotate_left
        · intro w'
          go_simp
          with_reducible rfl
        rotate_left
        · simp only [Act.put, List.setIfInBounds_toArray, List.set_cons_zero, List.set_cons_succ, i64_w, i32_w]
          rfl
        refine pure_ (i := 17) (N := some 118) (v := ?_) (a' := ?_) #[true, true, true, true, true, true, true, true, true, true, true, true, true, true, true, true, true, true, false, false, false, false, false, false, false, false, false] rfl rfl (by kernel_rfl) (fun _ _ _ h => h) (Or.inl ⟨by rfl, ?_⟩) ?_ ?_
        rotate_left
        · intro w'
          go_simp
          with_reducible rfl
        rotate_left
        · simp only [Act.put, List.setIfInBounds_toArray, List.set_cons_zero, List.set_cons_succ, i64_w, i32_w]
          rfl
        refine pure_ (i := 18) (N := some 119) (v := ?_) (a' := ?_) #[true, true, true, true, true, true, true, true, true, true, true, true, true, true, true, true, true, true, true, false, false, false, false, false, false, false, false] rfl rfl (by kernel_rfl) (fun _ _ _ h => h) (Or.inl ⟨by rfl, ?_⟩) ?_ ?_
        rotate_left
        · intro w'
          go_simp
          with_reducible rfl
        rotate_left
        · simp only [Act.put, List.setIfInBounds_toArray, List.set_cons_zero, List.set_cons_succ, i64_w, i32_w]
          rfl
        refine pure_ (i := 19) (N := some 120) (v := ?_) (a' := ?_) #[true, true, true, true, true, true, true, true, true, true, true, true, true, true, true, true, true, true, true, true, false, false, false, false, false, false, false] rfl rfl (by kernel_rfl) (fun _ _ _ h => h) (Or.inl ⟨by rfl, ?_⟩) ?_ ?_
        rotate_left
        · intro w'
          go_simp
          with_reducible rfl
        rotate_left
        · simp only [Act.put, List.setIfInBounds_toArray, List.set_cons_zero, List.set_cons_succ, i64_w, i32_w]
          rfl
        refine pure_ (i := 20) (N := some 121) (v := ?_) (a' := ?_) #[true, true, true, true, true, true, true, true, true, true, true, true, true, true, true, true, true, true, true, true, true, false, false, false, false, false, false] rfl rfl (by kernel_rfl) (fun _ _ _ h => h) (Or.inl ⟨by rfl, ?_⟩) ?_ ?_
        rotate_left
        · intro w'
          go_simp
          with_reducible rfl
        rotate_left
        · simp only [Act.put, List.setIfInBounds_toArray, List.set_cons_zero, List.set_cons_succ, i64_w, i32_w]
          rfl
        refine pure_ (i := 22) (N := some 123) (v := ?_) (a' := ?_) #[true, true, true, true, true, true, true, true, true, true, true, true, true, true, true, true, true, true, true, true, true, false, true, false, false, false, false] rfl rfl (by kernel_rfl) (fun _ _ _ h => h) (Or.inl ⟨by rfl, ?_⟩) ?_ ?_
        rotate_left
        · intro w'
          go_simp
          with_reducible rfl
        rotate_left
        · simp only [Act.put, List.setIfInBounds_toArray, List.set_cons_zero, List.set_cons_succ, i64_w, i32_w]
          rfl
        refine pure_ (i := 23) (N := some 124) (v := ?_) (a' := ?_) #[true, true, true, true, true, true, true, true, true, true, true, true, true, true, true, true, true, true, true, true, true, false, true, true, false, false, false] rfl rfl (by kernel_rfl) (fun _ _ _ h => h) (Or.inl ⟨by rfl, ?_⟩) ?_ ?_
        rotate_left
        · intro w'
          go_simp
          with_reducible rfl
        rotate_left
        · simp only [Act.put, List.setIfInBounds_toArray, List.set_cons_zero, List.set_cons_succ, i64_w, i32_w]
          rfl
        refine take_ (i := 24) (N := some 125) (v := ?_) (a' := ?_) #[true, true, true, true, true, true, true, true, true, true, true, true, true, true, true, true, true, true, true, true, true, false, true, true, true, false, false] rfl rfl (by kernel_rfl) (fun _ _ _ h => h) (Or.inl ⟨by rfl, ?_⟩) hHeld ?_ ?_
        rotate_left
        · intro w' hw'
          have s0 := LR.out w' (B11.out.trans (hw'.mono B11.out.size))
          go_simp
          with_reducible rfl
        rotate_left
        · simp only [Act.put, List.setIfInBounds_toArray, List.set_cons_zero, List.set_cons_succ, i64_w, i32_w]
          rfl
        refine one_ (i := 21) (N := some 122) #[true, true, true, true, true, true, true, true, true, true, true, true, true, true, true, true, true, true, true, true, true, true, true, true, true, false, false] rfl rfl (by kernel_rfl) (by decide) (fun K hK => ?_)
        refine goes_ Try.func11 (by kernel_rfl) rfl #[.pointer (some ⟨B, 0, none⟩), .int .i64 cz] (by rfl) rfl rfl (by (try simp only [List.map_toArray, List.map_cons, List.map_nil]); first | done | rfl) ?_
        with_reducible refine (lastR (S3 b bL bS) _ B b (i + 1) M2 (TR.out _ (B11.out.trans (hHeld.mono B11.out.size))) cz (by have := HCZ.out; omega) y HIN.out).mono ?_
        rintro e1 we ⟨rfl, rfl⟩
        refine ⟨_, rfl, ?_⟩
        refine hK.out _ _ hHeld ?_
        clear hHeld
        intro hHeld
        clear hK K
        refine norm_ (a' := ?_) ?_ ?_
        rotate_left
        · show Act.put _ (some 122) _ = _; simp only [Act.put, List.setIfInBounds_toArray, List.set_cons_zero, List.set_cons_succ, i64_w, i32_w]
          rfl
        refine pure_ (i := 25) (N := some 126) (v := ?_) (a' := ?_) #[true, true, true, true, true, true, true, true, true, true, true, true, true, true, true, true, true, true, true, true, true, true, true, true, true, true, false] rfl rfl (by kernel_rfl) (fun _ _ _ h => h) (Or.inl ⟨by rfl, ?_⟩) ?_ ?_
        rotate_left
        · intro w'
          go_simp
          with_reducible rfl
        rotate_left
        · simp only [Act.put, List.setIfInBounds_toArray, List.set_cons_zero, List.set_cons_succ, i64_w, i32_w]
          rfl
        refine pure_ (i := 26) (N := some 127) (v := ?_) (a' := ?_) #[true, true, true, true, true, true, true, true, true, true, true, true, true, true, true, true, true, true, true, true, true, true, true, true, true, true, true] rfl rfl (by kernel_rfl) (fun _ _ _ h => h) (Or.inl ⟨by rfl, ?_⟩) ?_ ?_
        rotate_left
        · intro w'
          go_simp
          with_reducible rfl
        rotate_left
        · simp only [Act.put, List.setIfInBounds_toArray, List.set_cons_zero, List.set_cons_succ, i64_w, i32_w]
          rfl
        refine done_ (by kernel_rfl) ?_
        have BE := Aside0.mk (B11.out.trans (hHeld.mono B11.out.size))
        clear hHeld
        by_cases h1 : 1 < y.1
        · have f9 : decide (1 < y.1) = true := decide_eq_true h1
          have hw2 : wrap64 (y.1 - 1) = y.1 - 1 := wrapS (by have := HKEY.out; omega) (by have := HKEY.out; omega)
          go_wp2_with (first
            | (at_lookup; refine look_by _ rfl _ _ 25 rfl (.map (some bL)) (.int .i64 cz) (.int .i64 y.1) rfl rfl (LR.out _ BE.out) ?_)
            | (go_at_call 9; (with_reducible refine (lookLessR (S3 b bL bS) _ B b (i + 1) M2 (TR.out _ BE.out) cz (y.1 - 1) (by have := HCZ.out; omega) (by have := HKEY.out; omega) y HIN.out (show y.1 - 1 < y.1 by omega)).mono ?_); rintro e1 wf ⟨rfl, hb9⟩; have BF := Aside0.mk (BE.out.trans (hb9.mono BE.out.size)); clear hb9))
          go_roundg (n0 - (i + 1))
          case measure => omega
          case rel => exact ⟨i + 1, M2, by go_num, by omega, by omega, ⟨HL2.out.below (below_alloc BF.out _)⟩⟩
        · have f9 : decide (1 < y.1) = false := decide_eq_false h1
          go_wp2_with (first
            | (at_lookup; refine look_by _ rfl _ _ 25 rfl (.map (some bL)) (.int .i64 cz) (.int .i64 y.1) rfl rfl (LR.out _ BE.out) ?_))
          go_roundg (n0 - (i + 1))
          case measure => omega
          case rel => exact ⟨i + 1, M2, by go_num, by omega, by omega, ⟨HL2.out.below BE.out⟩⟩
    · obtain rfl : i = n0 := by omega
      have HB := Aside0.mk HI.out.bel
      by_cases h2 : i < acts.length
      · have h3 : i = 60 := by have := HN0.out; omega
        have f1 : decide (i < acts.length) = true := decide_eq_true h2
        have f2 : decide ((i : Int) < 60) = false := decide_eq_false (by omega)
        clear h3
        go_wp2_with (go_at_call 12; (with_reducible refine (worksC _).mono ?_); rintro e1 w6 ⟨rfl, hb⟩; have B6 := Aside0.mk (HB.out.trans (hb.mono HB.out.size)); clear hb)
        go_ret
        exact ⟨rfl, B6.out⟩
      · have f1 : decide (i < acts.length) = false := decide_eq_false h2
        go_wp2_with (go_at_call 12; (with_reducible refine (worksC _).mono ?_); rintro e1 w6 ⟨rfl, hb⟩; have B6 := Aside0.mk (HB.out.trans (hb.mono HB.out.size)); clear hb)
        go_ret
        exact ⟨rfl, B6.out⟩
end Go.Proofs.Ythelhieeplfffaa.P
