/- front.Client, by hand: Start, over what lies in memory. No conditions. -/
import Derived.Test.YtonedijkgddepaaGR
namespace Go.Proofs.Ytonedijkgddepaa.P
open Go.RowKit Go.Maps Go.Proofs.YtonedijkgddepaaW.PrintWords Go.Proofs.YtonedijkgddepaaW.PrintLast Go.Proofs.YtonedijkgddepaaW.PrintMore
set_option linter.unusedVariables false
set_option linter.unusedSimpArgs false

def callA (x : Ca) (v : Value) : Array Value := #[(.int .i64 x.kind), (.int .i64 x.queue), (.int .i64 x.max), (.int .i64 x.secs), (.string x.attempt), v]
def StartT (w0 : World) (L : List Thing) (BC BA bl q : Nat) (a : As) (v2 : Value) (x : Int × Cl) (e' : Ending) (w' : World) : Prop := ∃ v1 v3 v4, e' = .returned (.int .i64 x.1) ∧ St w0 w' (cliT BC BA bl q a x.2 v1 v2 v3 v4 ++ L)
set_option maxHeartbeats 4000000 in
set_option maxRecDepth 100000 in
theorem cliStartT (w0 w : World) (L : List Thing) (BC BA bl q : Nat) (a : As) (c : Cl) (v1 v2 v3 v4 : Value) (h : St w0 w (cliT BC BA bl q a c v1 v2 v3 v4 ++ L)) (hi : a.id ≠ 0) (x : Ca) (A : Option Addr) (c0 : Nat) (hc0 : x.entries.length ≤ c0) (hr : ∀ W, Mem W L → Kd.C k106 W A x.entries.length x.entries) (hl : x.entries.length ≤ 1000) :
  Calls Try.prog 12 #[.pointer (some ⟨BC, 0, none⟩), .agg (callA x (.slice A x.entries.length c0))] w fun e' w' => StartT w0 L BC BA bl q a v2 (startV c x) e' w' := by
 have H := Aside0.mk h
 have HI := Aside0.mk hi
 have HC := Aside0.mk (And.intro hc0 (And.intro hr hl))
 clear h hi hc0 hr hl
 refine calls_hide fun R HPOST => ?_
 go_enter Try.func12, Try.ntmps12
 go_upto_region 0 with (fail)
 go_upto_region 1 with (first | ((with_reducible refine gate_dst (N := 3) rfl ?_); refine st_box ?hg (N := 3) ?hd (callA x (.slice A x.entries.length c0)) 50 ?hr H.out ?_; (case hd => rfl); (case hg => rfl); (case hr => first | (go_simp; done) | (go_simp; rfl)); intro g1 w2 hg_ h_ hb_; have S3 := Aside0.mk h_; have BS3 := Aside0.mk hb_; have GS3 := Aside0.mk hg_; clear h_ hb_ hg_))
 rcases Bool.eq_false_or_eq_true c.works with q6 | q6
 ·have Xq6 := Aside0.mk q6
  go_upto_region 3 with (first | (go_at_call 35; (with_reducible refine (cliNobody _ 0 BC BA bl q a c v1 v2 v3 v4 (cli_in (L := L) ((S3.out).erase 0)) HI.out).mono ?_); rintro e1 w5 ⟨rfl, hw_⟩; have S4 := Aside0.mk (S3.out.same hw_); clear hw_))
  have c7 : w5.cell? ⟨BC, 7, none⟩ = some (.bool true) := (show w5.cell? ⟨BC, 7, none⟩ = some (.bool c.works) from S4.out.cell 1 7 rfl rfl).trans (by rw [q6])
  go_upto_region 4 with (fail)
  clear c7
  go_wp2_with (fail)
  try go_ret
  have HV := Aside0.mk (show startV c x = (17, c) by unfold startV; rw [if_pos q6])
  refine HPOST.out _ _ ?_
  unfold StartT
  rw [HV.out]
  exact ⟨_, _, _, rfl, ((S4.out).erase 0)⟩
 ·have Xq6 := Aside0.mk q6
  go_upto_region 3 with (first | (go_at_call 35; (with_reducible refine (cliNobody _ 0 BC BA bl q a c v1 v2 v3 v4 (cli_in (L := L) ((S3.out).erase 0)) HI.out).mono ?_); rintro e1 w5 ⟨rfl, hw_⟩; have S4 := Aside0.mk (S3.out.same hw_); clear hw_))
  have c8 : w5.cell? ⟨BC, 7, none⟩ = some (.bool false) := (show w5.cell? ⟨BC, 7, none⟩ = some (.bool c.works) from S4.out.cell 1 7 rfl rfl).trans (by rw [q6])
  rcases Decidable.em (x.kind < 1) with q9 | q9
  ·have t10 : decide (x.kind < 1) = true := decide_eq_true q9
   have Xq9 := Aside0.mk q9
   clear q9
   go_upto_region 5 with (fail)
   clear c8
   have c12 : w5.cell? ⟨g1, 0, none⟩ = some (.int .i64 x.kind) := S4.out.cell 0 0 rfl rfl
   go_upto_region 6 with (fail)
   clear c12
   go_wp2_with (fail)
   try go_ret
   have HV := Aside0.mk (show startV c x = (2, c) by unfold startV; rw [if_neg (by rw [q6]; decide), if_neg (fun h => (by obtain ⟨⟨z1, z2⟩, z3, z4, ⟨z5, z6⟩, ⟨z7, z8⟩, ⟨z9, z10⟩⟩ := h; have y1 := Xq9.out; omega))])
   refine HPOST.out _ _ ?_
   unfold StartT
   rw [HV.out]
   exact ⟨_, _, _, rfl, ((S4.out).erase 0)⟩
  ·have t10 : decide (x.kind < 1) = false := decide_eq_false q9
   have Xq9 := Aside0.mk q9
   clear q9
   rcases Decidable.em (6 < x.kind) with q13 | q13
   ·have t14 : decide (6 < x.kind) = true := decide_eq_true q13
    have Xq13 := Aside0.mk q13
    clear q13
    go_upto_region 5 with (fail)
    clear c8
    have c16 : w5.cell? ⟨g1, 0, none⟩ = some (.int .i64 x.kind) := S4.out.cell 0 0 rfl rfl
    go_upto_region 6 with (fail)
    clear c16
    go_wp2_with (fail)
    try go_ret
    have HV := Aside0.mk (show startV c x = (2, c) by unfold startV; rw [if_neg (by rw [q6]; decide), if_neg (fun h => (by obtain ⟨⟨z1, z2⟩, z3, z4, ⟨z5, z6⟩, ⟨z7, z8⟩, ⟨z9, z10⟩⟩ := h; have y1 := Xq9.out; have y2 := Xq13.out; omega))])
    refine HPOST.out _ _ ?_
    unfold StartT
    rw [HV.out]
    exact ⟨_, _, _, rfl, ((S4.out).erase 0)⟩
   ·have t14 : decide (6 < x.kind) = false := decide_eq_false q13
    have Xq13 := Aside0.mk q13
    clear q13
    go_upto_region 5 with (fail)
    clear c8
    have c17 : w5.cell? ⟨g1, 0, none⟩ = some (.int .i64 x.kind) := S4.out.cell 0 0 rfl rfl
    rcases Bool.eq_false_or_eq_true (sweepsB x.kind) with q18 | q18
    ·have Xq18 := Aside0.mk q18
     rcases Decidable.em (0 < (x.entries.length : Int)) with q19 | q19
     ·have t22 : decide (0 < x.entries.length) = true := decide_eq_true (by omega)
      have t20 : decide (0 < (x.entries.length : Int)) = true := decide_eq_true q19
      have Xq19 := Aside0.mk q19
      clear q19
      go_upto_region 7 with (fail)
      clear c17
      have c23 : w5.cell? ⟨g1, 0, none⟩ = some (.int .i64 x.kind) := S4.out.cell 0 0 rfl rfl
      go_upto_region 9 with (first | (go_at_call 39; (with_reducible refine (sweepsC _ x.kind).mono ?_); rintro e1 w25 ⟨rfl, hb_⟩; clear c23; have S24 := Aside0.mk (S4.out.below hb_); clear hb_; have c26 : w25.cell? ⟨g1, 5, none⟩ = some (.slice A x.entries.length c0) := S24.out.cell 0 5 rfl rfl))
      clear c26
      go_wp2_with (fail)
      try go_ret
      have HV := Aside0.mk (show startV c x = (2, c) by unfold startV; rw [if_neg (by rw [q6]; decide), if_neg (fun h => (by obtain ⟨⟨z1, z2⟩, z3, z4, ⟨z5, z6⟩, ⟨z7, z8⟩, ⟨z9, z10⟩⟩ := h; have y1 := Xq9.out; have y2 := Xq13.out; have y4 := Xq19.out; first | omega | (have z11 := z3 q18; omega)))])
      refine HPOST.out _ _ ?_
      unfold StartT
      rw [HV.out]
      exact ⟨_, _, _, rfl, ((S24.out).erase 0)⟩
     ·have t22 : decide (0 < x.entries.length) = false := decide_eq_false (by omega)
      have t20 : decide (0 < (x.entries.length : Int)) = false := decide_eq_false q19
      have Xq19 := Aside0.mk q19
      clear q19
      go_upto_region 7 with (fail)
      clear c17
      have c27 : w5.cell? ⟨g1, 0, none⟩ = some (.int .i64 x.kind) := S4.out.cell 0 0 rfl rfl
      go_upto_region 8 with (first | (go_at_call 39; (with_reducible refine (sweepsC _ x.kind).mono ?_); rintro e1 w29 ⟨rfl, hb_⟩; clear c27; have S28 := Aside0.mk (S4.out.below hb_); clear hb_; have c30 : w29.cell? ⟨g1, 5, none⟩ = some (.slice A x.entries.length c0) := S28.out.cell 0 5 rfl rfl))
      clear c30
      have c31 : w29.cell? ⟨g1, 0, none⟩ = some (.int .i64 x.kind) := S28.out.cell 0 0 rfl rfl
      go_upto_region 10 with (first | (go_at_call 39; (with_reducible refine (sweepsC _ x.kind).mono ?_); rintro e1 w33 ⟨rfl, hb_⟩; clear c31; have S32 := Aside0.mk (S28.out.below hb_); clear hb_))
      have c34 : w33.cell? ⟨g1, 1, none⟩ = some (.int .i64 x.queue) := S32.out.cell 0 1 rfl rfl
      have c35 : w33.cell? ⟨g1, 2, none⟩ = some (.int .i64 x.max) := S32.out.cell 0 2 rfl rfl
      have c36 : w33.cell? ⟨g1, 3, none⟩ = some (.int .i64 x.secs) := S32.out.cell 0 3 rfl rfl
      go_wp2_with (first | ((with_reducible refine gate_dst (N := 56) rfl ?_); refine st_lit ?hg (N := 56) ?hd #[(.int .i64 x.queue), (.int .i64 x.max), (.int .i64 x.secs)] 3 3 ?hr S32.out ?_; (case hd => rfl); (case hg => rfl); (case hr => first | (go_simp; done) | (go_simp; rfl) | (go_simp; exact ⟨rfl, rfl⟩)); intro g37 w38 hg_ h_ hb_; clear c34 c35 c36; have S39 := Aside0.mk h_; have BS39 := Aside0.mk hb_; have GS39 := Aside0.mk hg_; clear h_ hb_ hg_))
      refine wp_loop_round ?_
      refine round_unroll ?_
      go_upto_region 11 with (fail)
      go_upto_region 12 with (fail)
      have c40 : w38.cell? ⟨g37, 0, none⟩ = some (.int .i64 x.queue) := S39.out.cell 0 0 rfl rfl
      rcases Decidable.em (x.queue < 0) with q41 | q41
      ·have t42 : decide (x.queue < 0) = true := decide_eq_true q41
       have Xq41 := Aside0.mk q41
       clear q41
       go_upto_region 13 with (fail)
       clear c40
       go_upto_region 14 with (fail)
       go_wp2_with (fail)
       try go_ret
       have HV := Aside0.mk (show startV c x = (2, c) by unfold startV; rw [if_neg (by rw [q6]; decide), if_neg (fun h => (by obtain ⟨⟨z1, z2⟩, z3, z4, ⟨z5, z6⟩, ⟨z7, z8⟩, ⟨z9, z10⟩⟩ := h; have y1 := Xq9.out; have y2 := Xq13.out; have y4 := Xq19.out; have y5 := Xq41.out; first | omega | (have z11 := z3 q18; omega)))])
       refine HPOST.out _ _ ?_
       unfold StartT
       rw [HV.out]
       exact ⟨_, _, _, rfl, (((S39.out).erase 1).erase 0)⟩
      ·have t42 : decide (x.queue < 0) = false := decide_eq_false q41
       have Xq41 := Aside0.mk q41
       clear q41
       rcases Decidable.em (1099511627776 < x.queue) with q44 | q44
       ·have t45 : decide (1099511627776 < x.queue) = true := decide_eq_true q44
        have Xq44 := Aside0.mk q44
        clear q44
        go_upto_region 13 with (fail)
        clear c40
        go_upto_region 14 with (fail)
        go_wp2_with (fail)
        try go_ret
        have HV := Aside0.mk (show startV c x = (2, c) by unfold startV; rw [if_neg (by rw [q6]; decide), if_neg (fun h => (by obtain ⟨⟨z1, z2⟩, z3, z4, ⟨z5, z6⟩, ⟨z7, z8⟩, ⟨z9, z10⟩⟩ := h; have y1 := Xq9.out; have y2 := Xq13.out; have y4 := Xq19.out; have y5 := Xq41.out; have y6 := Xq44.out; first | omega | (have z11 := z3 q18; omega)))])
        refine HPOST.out _ _ ?_
        unfold StartT
        rw [HV.out]
        exact ⟨_, _, _, rfl, (((S39.out).erase 1).erase 0)⟩
       ·have t45 : decide (1099511627776 < x.queue) = false := decide_eq_false q44
        have Xq44 := Aside0.mk q44
        clear q44
        go_upto_region 13 with (fail)
        clear c40
        go_upto_region 15 with (fail)
        go_wp2_with (fail)
        refine round_unroll ?_
        go_upto_region 11 with (fail)
        go_upto_region 12 with (fail)
        have c47 : w38.cell? ⟨g37, 1, none⟩ = some (.int .i64 x.max) := S39.out.cell 0 1 rfl rfl
        rcases Decidable.em (x.max < 0) with q48 | q48
        ·have t49 : decide (x.max < 0) = true := decide_eq_true q48
         have Xq48 := Aside0.mk q48
         clear q48
         go_upto_region 13 with (fail)
         clear c47
         go_upto_region 14 with (fail)
         go_wp2_with (fail)
         try go_ret
         have HV := Aside0.mk (show startV c x = (2, c) by unfold startV; rw [if_neg (by rw [q6]; decide), if_neg (fun h => (by obtain ⟨⟨z1, z2⟩, z3, z4, ⟨z5, z6⟩, ⟨z7, z8⟩, ⟨z9, z10⟩⟩ := h; have y1 := Xq9.out; have y2 := Xq13.out; have y4 := Xq19.out; have y5 := Xq41.out; have y6 := Xq44.out; have y7 := Xq48.out; first | omega | (have z11 := z3 q18; omega)))])
         refine HPOST.out _ _ ?_
         unfold StartT
         rw [HV.out]
         exact ⟨_, _, _, rfl, (((S39.out).erase 1).erase 0)⟩
        ·have t49 : decide (x.max < 0) = false := decide_eq_false q48
         have Xq48 := Aside0.mk q48
         clear q48
         rcases Decidable.em (1099511627776 < x.max) with q51 | q51
         ·have t52 : decide (1099511627776 < x.max) = true := decide_eq_true q51
          have Xq51 := Aside0.mk q51
          clear q51
          go_upto_region 13 with (fail)
          clear c47
          go_upto_region 14 with (fail)
          go_wp2_with (fail)
          try go_ret
          have HV := Aside0.mk (show startV c x = (2, c) by unfold startV; rw [if_neg (by rw [q6]; decide), if_neg (fun h => (by obtain ⟨⟨z1, z2⟩, z3, z4, ⟨z5, z6⟩, ⟨z7, z8⟩, ⟨z9, z10⟩⟩ := h; have y1 := Xq9.out; have y2 := Xq13.out; have y4 := Xq19.out; have y5 := Xq41.out; have y6 := Xq44.out; have y7 := Xq48.out; have y8 := Xq51.out; first | omega | (have z11 := z3 q18; omega)))])
          refine HPOST.out _ _ ?_
          unfold StartT
          rw [HV.out]
          exact ⟨_, _, _, rfl, (((S39.out).erase 1).erase 0)⟩
         ·have t52 : decide (1099511627776 < x.max) = false := decide_eq_false q51
          have Xq51 := Aside0.mk q51
          clear q51
          go_upto_region 13 with (fail)
          clear c47
          go_upto_region 15 with (fail)
          go_wp2_with (fail)
          refine round_unroll ?_
          go_upto_region 11 with (fail)
          go_upto_region 12 with (fail)
          have c54 : w38.cell? ⟨g37, 2, none⟩ = some (.int .i64 x.secs) := S39.out.cell 0 2 rfl rfl
          rcases Decidable.em (x.secs < 0) with q55 | q55
          ·have t56 : decide (x.secs < 0) = true := decide_eq_true q55
           have Xq55 := Aside0.mk q55
           clear q55
           go_upto_region 13 with (fail)
           clear c54
           go_upto_region 14 with (fail)
           go_wp2_with (fail)
           try go_ret
           have HV := Aside0.mk (show startV c x = (2, c) by unfold startV; rw [if_neg (by rw [q6]; decide), if_neg (fun h => (by obtain ⟨⟨z1, z2⟩, z3, z4, ⟨z5, z6⟩, ⟨z7, z8⟩, ⟨z9, z10⟩⟩ := h; have y1 := Xq9.out; have y2 := Xq13.out; have y4 := Xq19.out; have y5 := Xq41.out; have y6 := Xq44.out; have y7 := Xq48.out; have y8 := Xq51.out; have y9 := Xq55.out; first | omega | (have z11 := z3 q18; omega)))])
           refine HPOST.out _ _ ?_
           unfold StartT
           rw [HV.out]
           exact ⟨_, _, _, rfl, (((S39.out).erase 1).erase 0)⟩
          ·have t56 : decide (x.secs < 0) = false := decide_eq_false q55
           have Xq55 := Aside0.mk q55
           clear q55
           rcases Decidable.em (1099511627776 < x.secs) with q58 | q58
           ·have t59 : decide (1099511627776 < x.secs) = true := decide_eq_true q58
            have Xq58 := Aside0.mk q58
            clear q58
            go_upto_region 13 with (fail)
            clear c54
            go_upto_region 14 with (fail)
            go_wp2_with (fail)
            try go_ret
            have HV := Aside0.mk (show startV c x = (2, c) by unfold startV; rw [if_neg (by rw [q6]; decide), if_neg (fun h => (by obtain ⟨⟨z1, z2⟩, z3, z4, ⟨z5, z6⟩, ⟨z7, z8⟩, ⟨z9, z10⟩⟩ := h; have y1 := Xq9.out; have y2 := Xq13.out; have y4 := Xq19.out; have y5 := Xq41.out; have y6 := Xq44.out; have y7 := Xq48.out; have y8 := Xq51.out; have y9 := Xq55.out; have y10 := Xq58.out; first | omega | (have z11 := z3 q18; omega)))])
            refine HPOST.out _ _ ?_
            unfold StartT
            rw [HV.out]
            exact ⟨_, _, _, rfl, (((S39.out).erase 1).erase 0)⟩
           ·have t59 : decide (1099511627776 < x.secs) = false := decide_eq_false q58
            have Xq58 := Aside0.mk q58
            clear q58
            go_upto_region 13 with (fail)
            clear c54
            go_upto_region 15 with (fail)
            go_wp2_with (fail)
            refine round_unroll ?_
            go_upto_region 11 with (fail)
            go_upto_region 16 with (fail)
            have c61 : w38.cell? ⟨g1, 5, none⟩ = some (.slice A x.entries.length c0) := S39.out.cell 1 5 rfl rfl
            go_upto_region 17 with (first | (go_at_call 41; (with_reducible refine (cloneEntry.calls A c0 x.entries x.entries _ (HC.out.2.1 _ (S39.out.drop.drop.drop.drop.drop.drop.drop.drop.drop).mem) HC.out.1 (by unfold cloneEntry.f; rw [if_pos (by have := HC.out.2.2; omega)])).mono ?_); rintro e1 w63 ⟨vo, rfl, hR_, hb_⟩; clear c61; obtain ⟨An, cn, rfl⟩ := Kd.R_slice hR_; have S62 := Aside0.mk (S39.out.newRow hb_ hR_); clear hb_ hR_) | ((with_reducible refine gate_ (.store 48 (.tmp 72) (.tmp 71)) rfl ?_); refine st_store rfl rfl 48 _ _ rfl rfl rfl (seg := [(.slice An x.entries.length cn)]) rfl (by kernel_rfl) (by rfl) S62.out 2 rfl (Nat.le_of_ble_eq_true rfl) ?_; intro w64 h_; have S65 : Aside0 (St w0 w64 (Row k106 106 (.slice An x.entries.length cn) x.entries :: Blk g37 #[(.int .i64 x.queue), (.int .i64 x.max), (.int .i64 x.secs)] 3 :: Blk g1 (callA x (.slice An x.entries.length cn)) 50 :: Blk BC (cliA BA c v1 v2 v3 v4) 91 :: Blk BA (askA a bl) 97 :: MapT bl q a.lead :: Row k106 106 v1 c.call.entries :: Row k108 108 v2 c.pieces :: Row (Kd.int .i64) 3 v3 c.sweep :: Row k42 42 v4 c.out :: L)) := Aside0.mk h_; clear h_))
            rcases Decidable.em (c.epoch = 0) with q78 | q78
            ·have t79 : (c.epoch == 0) = true := beq_iff_eq.2 q78
             have u80 : (c.epoch != 0) = false := by rw [bne, t79]; rfl
             have Xq78 := Aside0.mk q78
             clear q78
             go_upto_region 18 with (first | ((with_reducible refine gate_ (.load 50 (.tmp 3)) rfl ?_); refine st_load rfl 50 _ rfl rfl S65.out 2 rfl [(.int .i64 x.kind), (.int .i64 x.queue), (.int .i64 x.max), (.int .i64 x.secs), (.string x.attempt), (.slice An x.entries.length cn)] rfl Try.underlying50 rfl (by kernel_rfl) ?_) | ((with_reducible refine gate_ (.store 50 (.tmp 81) (.tmp 79)) rfl ?_); refine st_store rfl rfl 50 _ _ rfl rfl rfl (seg := [(.int .i64 x.kind), (.int .i64 x.queue), (.int .i64 x.max), (.int .i64 x.secs), (.string x.attempt), (.slice An x.entries.length cn)]) rfl (by kernel_rfl) (by rfl) S65.out 3 rfl (Nat.le_of_ble_eq_true rfl) ?_; intro w66 h_; have S67 : Aside0 (St w0 w66 (Row k106 106 (.slice An x.entries.length cn) x.entries :: Blk g37 #[(.int .i64 x.queue), (.int .i64 x.max), (.int .i64 x.secs)] 3 :: Blk g1 (callA x (.slice An x.entries.length cn)) 50 :: Blk BC (cliA BA { c with call := x } (.slice An x.entries.length cn) v2 v3 v4) 91 :: Blk BA (askA a bl) 97 :: MapT bl q a.lead :: Row k106 106 v1 c.call.entries :: Row k108 108 v2 c.pieces :: Row (Kd.int .i64) 3 v3 c.sweep :: Row k42 42 v4 c.out :: L)) := Aside0.mk h_; clear h_) | ((with_reducible refine gate_ (.store 4 (.tmp 83) (.const (.bool true))) rfl ?_); refine st_store rfl rfl 4 _ _ rfl rfl rfl (seg := [(.bool true)]) rfl (by kernel_rfl) (by rfl) S67.out 3 rfl (Nat.le_of_ble_eq_true rfl) ?_; intro w68 h_; have S69 : Aside0 (St w0 w68 (Row k106 106 (.slice An x.entries.length cn) x.entries :: Blk g37 #[(.int .i64 x.queue), (.int .i64 x.max), (.int .i64 x.secs)] 3 :: Blk g1 (callA x (.slice An x.entries.length cn)) 50 :: Blk BC (cliA BA { c with call := x, works := true } (.slice An x.entries.length cn) v2 v3 v4) 91 :: Blk BA (askA a bl) 97 :: MapT bl q a.lead :: Row k106 106 v1 c.call.entries :: Row k108 108 v2 c.pieces :: Row (Kd.int .i64) 3 v3 c.sweep :: Row k42 42 v4 c.out :: L)) := Aside0.mk h_; clear h_) | ((with_reducible refine gate_ (.store 4 (.tmp 85) (.const (.bool true))) rfl ?_); refine st_store rfl rfl 4 _ _ rfl rfl rfl (seg := [(.bool true)]) rfl (by kernel_rfl) (by rfl) S69.out 3 rfl (Nat.le_of_ble_eq_true rfl) ?_; intro w70 h_; have S71 : Aside0 (St w0 w70 (Row k106 106 (.slice An x.entries.length cn) x.entries :: Blk g37 #[(.int .i64 x.queue), (.int .i64 x.max), (.int .i64 x.secs)] 3 :: Blk g1 (callA x (.slice An x.entries.length cn)) 50 :: Blk BC (cliA BA { c with call := x, works := true, started := true } (.slice An x.entries.length cn) v2 v3 v4) 91 :: Blk BA (askA a bl) 97 :: MapT bl q a.lead :: Row k106 106 v1 c.call.entries :: Row k108 108 v2 c.pieces :: Row (Kd.int .i64) 3 v3 c.sweep :: Row k42 42 v4 c.out :: L)) := Aside0.mk h_; clear h_) | ((with_reducible refine gate_ (.store 3 (.tmp 87) (.const (.int .i64 0))) rfl ?_); refine st_store rfl rfl 3 _ _ rfl rfl rfl (seg := [(.int .i64 0)]) rfl (by kernel_rfl) (by rfl) S71.out 3 rfl (Nat.le_of_ble_eq_true rfl) ?_; intro w72 h_; have S73 : Aside0 (St w0 w72 (Row k106 106 (.slice An x.entries.length cn) x.entries :: Blk g37 #[(.int .i64 x.queue), (.int .i64 x.max), (.int .i64 x.secs)] 3 :: Blk g1 (callA x (.slice An x.entries.length cn)) 50 :: Blk BC (cliA BA { c with call := x, works := true, started := true, step := 0 } (.slice An x.entries.length cn) v2 v3 v4) 91 :: Blk BA (askA a bl) 97 :: MapT bl q a.lead :: Row k106 106 v1 c.call.entries :: Row k108 108 v2 c.pieces :: Row (Kd.int .i64) 3 v3 c.sweep :: Row k42 42 v4 c.out :: L)) := Aside0.mk h_; clear h_) | ((with_reducible refine gate_ (.store 63 (.tmp 89) (.const (.slice none 0 0))) rfl ?_); refine st_store rfl rfl 63 _ _ rfl rfl rfl (seg := [(.slice none 0 0)]) rfl (by kernel_rfl) (by rfl) S73.out 3 rfl (Nat.le_of_ble_eq_true rfl) ?_; intro w74 h_; have S75 : Aside0 (St w0 w74 (Row k106 106 (.slice An x.entries.length cn) x.entries :: Blk g37 #[(.int .i64 x.queue), (.int .i64 x.max), (.int .i64 x.secs)] 3 :: Blk g1 (callA x (.slice An x.entries.length cn)) 50 :: Blk BC (cliA BA { c with call := x, works := true, started := true, step := 0, sweep := [] } (.slice An x.entries.length cn) v2 (.slice none 0 0) v4) 91 :: Blk BA (askA a bl) 97 :: MapT bl q a.lead :: Row k106 106 v1 c.call.entries :: Row k108 108 v2 c.pieces :: Row (Kd.int .i64) 3 v3 c.sweep :: Row k42 42 v4 c.out :: L)) := Aside0.mk h_; clear h_) | ((with_reducible refine gate_ (.store 66 (.tmp 91) (.const (.slice none 0 0))) rfl ?_); refine st_store rfl rfl 66 _ _ rfl rfl rfl (seg := [(.slice none 0 0)]) rfl (by kernel_rfl) (by rfl) S75.out 3 rfl (Nat.le_of_ble_eq_true rfl) ?_; intro w76 h_; have S77 : Aside0 (St w0 w76 (Row k106 106 (.slice An x.entries.length cn) x.entries :: Blk g37 #[(.int .i64 x.queue), (.int .i64 x.max), (.int .i64 x.secs)] 3 :: Blk g1 (callA x (.slice An x.entries.length cn)) 50 :: Blk BC (cliA BA { c with call := x, works := true, started := true, step := 0, sweep := [], out := [] } (.slice An x.entries.length cn) v2 (.slice none 0 0) (.slice none 0 0)) 91 :: Blk BA (askA a bl) 97 :: MapT bl q a.lead :: Row k106 106 v1 c.call.entries :: Row k108 108 v2 c.pieces :: Row (Kd.int .i64) 3 v3 c.sweep :: Row k42 42 v4 c.out :: L)) := Aside0.mk h_; clear h_))
             have c81 : w76.cell? ⟨BC, 11, none⟩ = some (.int .i64 c.epoch) := S77.out.cell 3 11 rfl rfl
             go_upto_region 19 with (first | ((with_reducible refine gate_ (.store 4 (.tmp 105) (.tmp 103)) rfl ?_); refine st_store rfl rfl 4 _ _ rfl rfl rfl (seg := [(.bool true)]) rfl (by kernel_rfl) (by rfl) S77.out 3 rfl (Nat.le_of_ble_eq_true rfl) ?_; intro w82 h_; clear c81; have S83 : Aside0 (St w0 w82 (Row k106 106 (.slice An x.entries.length cn) x.entries :: Blk g37 #[(.int .i64 x.queue), (.int .i64 x.max), (.int .i64 x.secs)] 3 :: Blk g1 (callA x (.slice An x.entries.length cn)) 50 :: Blk BC (cliA BA { c with call := x, works := true, started := true, step := 0, sweep := [], out := [], wants := true } (.slice An x.entries.length cn) v2 (.slice none 0 0) (.slice none 0 0)) 91 :: Blk BA (askA a bl) 97 :: MapT bl q a.lead :: Row k106 106 v1 c.call.entries :: Row k108 108 v2 c.pieces :: Row (Kd.int .i64) 3 v3 c.sweep :: Row k42 42 v4 c.out :: L)) := Aside0.mk h_; clear h_))
             go_wp2_with (fail)
             try go_ret
             have HV := Aside0.mk (show startV c x = (0, { c with call := x, works := true, started := true, step := 0, sweep := [], out := [], wants := (c.epoch == 0) || sweepsB x.kind }) by unfold startV; rw [if_neg (by rw [q6]; decide), if_pos (show callOk x from ⟨by have y1 := Xq9.out; have y2 := Xq13.out; have y4 := Xq19.out; have y5 := Xq41.out; have y6 := Xq44.out; have y7 := Xq48.out; have y8 := Xq51.out; have y9 := Xq55.out; have y10 := Xq58.out; have y11 := Xq78.out; omega, (fun _ => (by have y1 := Xq9.out; have y2 := Xq13.out; have y4 := Xq19.out; have y5 := Xq41.out; have y6 := Xq44.out; have y7 := Xq48.out; have y8 := Xq51.out; have y9 := Xq55.out; have y10 := Xq58.out; have y11 := Xq78.out; omega)), (fun h => (by rw [q18] at h; cases h)), ⟨by have y1 := Xq9.out; have y2 := Xq13.out; have y4 := Xq19.out; have y5 := Xq41.out; have y6 := Xq44.out; have y7 := Xq48.out; have y8 := Xq51.out; have y9 := Xq55.out; have y10 := Xq58.out; have y11 := Xq78.out; omega, by have y1 := Xq9.out; have y2 := Xq13.out; have y4 := Xq19.out; have y5 := Xq41.out; have y6 := Xq44.out; have y7 := Xq48.out; have y8 := Xq51.out; have y9 := Xq55.out; have y10 := Xq58.out; have y11 := Xq78.out; omega⟩, ⟨by have y1 := Xq9.out; have y2 := Xq13.out; have y4 := Xq19.out; have y5 := Xq41.out; have y6 := Xq44.out; have y7 := Xq48.out; have y8 := Xq51.out; have y9 := Xq55.out; have y10 := Xq58.out; have y11 := Xq78.out; omega, by have y1 := Xq9.out; have y2 := Xq13.out; have y4 := Xq19.out; have y5 := Xq41.out; have y6 := Xq44.out; have y7 := Xq48.out; have y8 := Xq51.out; have y9 := Xq55.out; have y10 := Xq58.out; have y11 := Xq78.out; omega⟩, ⟨by have y1 := Xq9.out; have y2 := Xq13.out; have y4 := Xq19.out; have y5 := Xq41.out; have y6 := Xq44.out; have y7 := Xq48.out; have y8 := Xq51.out; have y9 := Xq55.out; have y10 := Xq58.out; have y11 := Xq78.out; omega, by have y1 := Xq9.out; have y2 := Xq13.out; have y4 := Xq19.out; have y5 := Xq41.out; have y6 := Xq44.out; have y7 := Xq48.out; have y8 := Xq51.out; have y9 := Xq55.out; have y10 := Xq58.out; have y11 := Xq78.out; omega⟩⟩)])
             have HW := Aside0.mk (show ((c.epoch == 0) || sweepsB x.kind) = true by rw [beq_iff_eq.2 Xq78.out]; rfl)
             have S84 := Aside0.mk ((S83.out.nilRow (Kd.int .i64) 3).nilRow k42 42)
             refine HPOST.out _ _ ?_
             unfold StartT
             rw [HV.out]
             rw [HW.out]
             exact ⟨_, _, _, rfl, (((((((((((((S84.out).erase 11).erase 10).erase 8).erase 4).erase 3).bring 0 rfl).bring 1 rfl).bring 6 rfl).bring 3 rfl).bring 6 rfl).bring 6 rfl).bring 6 rfl)⟩
            ·have t79 : (c.epoch == 0) = false := beq_eq_false_iff_ne.2 q78
             have u80 : (c.epoch != 0) = true := by rw [bne, t79]; rfl
             have Xq78 := Aside0.mk q78
             clear q78
             go_upto_region 18 with (first | ((with_reducible refine gate_ (.load 50 (.tmp 3)) rfl ?_); refine st_load rfl 50 _ rfl rfl S65.out 2 rfl [(.int .i64 x.kind), (.int .i64 x.queue), (.int .i64 x.max), (.int .i64 x.secs), (.string x.attempt), (.slice An x.entries.length cn)] rfl Try.underlying50 rfl (by kernel_rfl) ?_) | ((with_reducible refine gate_ (.store 50 (.tmp 81) (.tmp 79)) rfl ?_); refine st_store rfl rfl 50 _ _ rfl rfl rfl (seg := [(.int .i64 x.kind), (.int .i64 x.queue), (.int .i64 x.max), (.int .i64 x.secs), (.string x.attempt), (.slice An x.entries.length cn)]) rfl (by kernel_rfl) (by rfl) S65.out 3 rfl (Nat.le_of_ble_eq_true rfl) ?_; intro w66 h_; have S67 : Aside0 (St w0 w66 (Row k106 106 (.slice An x.entries.length cn) x.entries :: Blk g37 #[(.int .i64 x.queue), (.int .i64 x.max), (.int .i64 x.secs)] 3 :: Blk g1 (callA x (.slice An x.entries.length cn)) 50 :: Blk BC (cliA BA { c with call := x } (.slice An x.entries.length cn) v2 v3 v4) 91 :: Blk BA (askA a bl) 97 :: MapT bl q a.lead :: Row k106 106 v1 c.call.entries :: Row k108 108 v2 c.pieces :: Row (Kd.int .i64) 3 v3 c.sweep :: Row k42 42 v4 c.out :: L)) := Aside0.mk h_; clear h_) | ((with_reducible refine gate_ (.store 4 (.tmp 83) (.const (.bool true))) rfl ?_); refine st_store rfl rfl 4 _ _ rfl rfl rfl (seg := [(.bool true)]) rfl (by kernel_rfl) (by rfl) S67.out 3 rfl (Nat.le_of_ble_eq_true rfl) ?_; intro w68 h_; have S69 : Aside0 (St w0 w68 (Row k106 106 (.slice An x.entries.length cn) x.entries :: Blk g37 #[(.int .i64 x.queue), (.int .i64 x.max), (.int .i64 x.secs)] 3 :: Blk g1 (callA x (.slice An x.entries.length cn)) 50 :: Blk BC (cliA BA { c with call := x, works := true } (.slice An x.entries.length cn) v2 v3 v4) 91 :: Blk BA (askA a bl) 97 :: MapT bl q a.lead :: Row k106 106 v1 c.call.entries :: Row k108 108 v2 c.pieces :: Row (Kd.int .i64) 3 v3 c.sweep :: Row k42 42 v4 c.out :: L)) := Aside0.mk h_; clear h_) | ((with_reducible refine gate_ (.store 4 (.tmp 85) (.const (.bool true))) rfl ?_); refine st_store rfl rfl 4 _ _ rfl rfl rfl (seg := [(.bool true)]) rfl (by kernel_rfl) (by rfl) S69.out 3 rfl (Nat.le_of_ble_eq_true rfl) ?_; intro w70 h_; have S71 : Aside0 (St w0 w70 (Row k106 106 (.slice An x.entries.length cn) x.entries :: Blk g37 #[(.int .i64 x.queue), (.int .i64 x.max), (.int .i64 x.secs)] 3 :: Blk g1 (callA x (.slice An x.entries.length cn)) 50 :: Blk BC (cliA BA { c with call := x, works := true, started := true } (.slice An x.entries.length cn) v2 v3 v4) 91 :: Blk BA (askA a bl) 97 :: MapT bl q a.lead :: Row k106 106 v1 c.call.entries :: Row k108 108 v2 c.pieces :: Row (Kd.int .i64) 3 v3 c.sweep :: Row k42 42 v4 c.out :: L)) := Aside0.mk h_; clear h_) | ((with_reducible refine gate_ (.store 3 (.tmp 87) (.const (.int .i64 0))) rfl ?_); refine st_store rfl rfl 3 _ _ rfl rfl rfl (seg := [(.int .i64 0)]) rfl (by kernel_rfl) (by rfl) S71.out 3 rfl (Nat.le_of_ble_eq_true rfl) ?_; intro w72 h_; have S73 : Aside0 (St w0 w72 (Row k106 106 (.slice An x.entries.length cn) x.entries :: Blk g37 #[(.int .i64 x.queue), (.int .i64 x.max), (.int .i64 x.secs)] 3 :: Blk g1 (callA x (.slice An x.entries.length cn)) 50 :: Blk BC (cliA BA { c with call := x, works := true, started := true, step := 0 } (.slice An x.entries.length cn) v2 v3 v4) 91 :: Blk BA (askA a bl) 97 :: MapT bl q a.lead :: Row k106 106 v1 c.call.entries :: Row k108 108 v2 c.pieces :: Row (Kd.int .i64) 3 v3 c.sweep :: Row k42 42 v4 c.out :: L)) := Aside0.mk h_; clear h_) | ((with_reducible refine gate_ (.store 63 (.tmp 89) (.const (.slice none 0 0))) rfl ?_); refine st_store rfl rfl 63 _ _ rfl rfl rfl (seg := [(.slice none 0 0)]) rfl (by kernel_rfl) (by rfl) S73.out 3 rfl (Nat.le_of_ble_eq_true rfl) ?_; intro w74 h_; have S75 : Aside0 (St w0 w74 (Row k106 106 (.slice An x.entries.length cn) x.entries :: Blk g37 #[(.int .i64 x.queue), (.int .i64 x.max), (.int .i64 x.secs)] 3 :: Blk g1 (callA x (.slice An x.entries.length cn)) 50 :: Blk BC (cliA BA { c with call := x, works := true, started := true, step := 0, sweep := [] } (.slice An x.entries.length cn) v2 (.slice none 0 0) v4) 91 :: Blk BA (askA a bl) 97 :: MapT bl q a.lead :: Row k106 106 v1 c.call.entries :: Row k108 108 v2 c.pieces :: Row (Kd.int .i64) 3 v3 c.sweep :: Row k42 42 v4 c.out :: L)) := Aside0.mk h_; clear h_) | ((with_reducible refine gate_ (.store 66 (.tmp 91) (.const (.slice none 0 0))) rfl ?_); refine st_store rfl rfl 66 _ _ rfl rfl rfl (seg := [(.slice none 0 0)]) rfl (by kernel_rfl) (by rfl) S75.out 3 rfl (Nat.le_of_ble_eq_true rfl) ?_; intro w76 h_; have S77 : Aside0 (St w0 w76 (Row k106 106 (.slice An x.entries.length cn) x.entries :: Blk g37 #[(.int .i64 x.queue), (.int .i64 x.max), (.int .i64 x.secs)] 3 :: Blk g1 (callA x (.slice An x.entries.length cn)) 50 :: Blk BC (cliA BA { c with call := x, works := true, started := true, step := 0, sweep := [], out := [] } (.slice An x.entries.length cn) v2 (.slice none 0 0) (.slice none 0 0)) 91 :: Blk BA (askA a bl) 97 :: MapT bl q a.lead :: Row k106 106 v1 c.call.entries :: Row k108 108 v2 c.pieces :: Row (Kd.int .i64) 3 v3 c.sweep :: Row k42 42 v4 c.out :: L)) := Aside0.mk h_; clear h_))
             have c85 : w76.cell? ⟨BC, 11, none⟩ = some (.int .i64 c.epoch) := S77.out.cell 3 11 rfl rfl
             have c86 : w76.cell? ⟨g1, 0, none⟩ = some (.int .i64 x.kind) := S77.out.cell 2 0 rfl rfl
             go_upto_region 19 with (first | (go_at_call 39; (with_reducible refine (sweepsC _ x.kind).mono ?_); rintro e1 w88 ⟨rfl, hb_⟩; clear c85 c86; have S87 := Aside0.mk (S77.out.below hb_); clear hb_) | ((with_reducible refine gate_ (.store 4 (.tmp 105) (.tmp 103)) rfl ?_); refine st_store rfl rfl 4 _ _ rfl rfl rfl (seg := [(.bool true)]) rfl (by kernel_rfl) (by rfl) S87.out 3 rfl (Nat.le_of_ble_eq_true rfl) ?_; intro w89 h_; have S90 : Aside0 (St w0 w89 (Row k106 106 (.slice An x.entries.length cn) x.entries :: Blk g37 #[(.int .i64 x.queue), (.int .i64 x.max), (.int .i64 x.secs)] 3 :: Blk g1 (callA x (.slice An x.entries.length cn)) 50 :: Blk BC (cliA BA { c with call := x, works := true, started := true, step := 0, sweep := [], out := [], wants := true } (.slice An x.entries.length cn) v2 (.slice none 0 0) (.slice none 0 0)) 91 :: Blk BA (askA a bl) 97 :: MapT bl q a.lead :: Row k106 106 v1 c.call.entries :: Row k108 108 v2 c.pieces :: Row (Kd.int .i64) 3 v3 c.sweep :: Row k42 42 v4 c.out :: L)) := Aside0.mk h_; clear h_))
             go_wp2_with (fail)
             try go_ret
             have HV := Aside0.mk (show startV c x = (0, { c with call := x, works := true, started := true, step := 0, sweep := [], out := [], wants := (c.epoch == 0) || sweepsB x.kind }) by unfold startV; rw [if_neg (by rw [q6]; decide), if_pos (show callOk x from ⟨by have y1 := Xq9.out; have y2 := Xq13.out; have y4 := Xq19.out; have y5 := Xq41.out; have y6 := Xq44.out; have y7 := Xq48.out; have y8 := Xq51.out; have y9 := Xq55.out; have y10 := Xq58.out; have y11 := Xq78.out; omega, (fun _ => (by have y1 := Xq9.out; have y2 := Xq13.out; have y4 := Xq19.out; have y5 := Xq41.out; have y6 := Xq44.out; have y7 := Xq48.out; have y8 := Xq51.out; have y9 := Xq55.out; have y10 := Xq58.out; have y11 := Xq78.out; omega)), (fun h => (by rw [q18] at h; cases h)), ⟨by have y1 := Xq9.out; have y2 := Xq13.out; have y4 := Xq19.out; have y5 := Xq41.out; have y6 := Xq44.out; have y7 := Xq48.out; have y8 := Xq51.out; have y9 := Xq55.out; have y10 := Xq58.out; have y11 := Xq78.out; omega, by have y1 := Xq9.out; have y2 := Xq13.out; have y4 := Xq19.out; have y5 := Xq41.out; have y6 := Xq44.out; have y7 := Xq48.out; have y8 := Xq51.out; have y9 := Xq55.out; have y10 := Xq58.out; have y11 := Xq78.out; omega⟩, ⟨by have y1 := Xq9.out; have y2 := Xq13.out; have y4 := Xq19.out; have y5 := Xq41.out; have y6 := Xq44.out; have y7 := Xq48.out; have y8 := Xq51.out; have y9 := Xq55.out; have y10 := Xq58.out; have y11 := Xq78.out; omega, by have y1 := Xq9.out; have y2 := Xq13.out; have y4 := Xq19.out; have y5 := Xq41.out; have y6 := Xq44.out; have y7 := Xq48.out; have y8 := Xq51.out; have y9 := Xq55.out; have y10 := Xq58.out; have y11 := Xq78.out; omega⟩, ⟨by have y1 := Xq9.out; have y2 := Xq13.out; have y4 := Xq19.out; have y5 := Xq41.out; have y6 := Xq44.out; have y7 := Xq48.out; have y8 := Xq51.out; have y9 := Xq55.out; have y10 := Xq58.out; have y11 := Xq78.out; omega, by have y1 := Xq9.out; have y2 := Xq13.out; have y4 := Xq19.out; have y5 := Xq41.out; have y6 := Xq44.out; have y7 := Xq48.out; have y8 := Xq51.out; have y9 := Xq55.out; have y10 := Xq58.out; have y11 := Xq78.out; omega⟩⟩)])
             have HW := Aside0.mk (show ((c.epoch == 0) || sweepsB x.kind) = true by rw [beq_eq_false_iff_ne.2 Xq78.out, q18]; rfl)
             have S91 := Aside0.mk ((S90.out.nilRow (Kd.int .i64) 3).nilRow k42 42)
             refine HPOST.out _ _ ?_
             unfold StartT
             rw [HV.out]
             rw [HW.out]
             exact ⟨_, _, _, rfl, (((((((((((((S91.out).erase 11).erase 10).erase 8).erase 4).erase 3).bring 0 rfl).bring 1 rfl).bring 6 rfl).bring 3 rfl).bring 6 rfl).bring 6 rfl).bring 6 rfl)⟩
    ·have Xq18 := Aside0.mk q18
     go_upto_region 7 with (fail)
     clear c17
     have c92 : w5.cell? ⟨g1, 0, none⟩ = some (.int .i64 x.kind) := S4.out.cell 0 0 rfl rfl
     rcases Decidable.em ((x.entries.length : Int) < 1) with q95 | q95
     ·have t98 : decide (x.entries.length < 1) = true := decide_eq_true (by omega)
      have t96 : decide ((x.entries.length : Int) < 1) = true := decide_eq_true q95
      have Xq95 := Aside0.mk q95
      clear q95
      go_upto_region 8 with (first | (go_at_call 39; (with_reducible refine (sweepsC _ x.kind).mono ?_); rintro e1 w94 ⟨rfl, hb_⟩; clear c92; have S93 := Aside0.mk (S4.out.below hb_); clear hb_))
      have c99 : w94.cell? ⟨g1, 0, none⟩ = some (.int .i64 x.kind) := S93.out.cell 0 0 rfl rfl
      go_upto_region 9 with (first | (go_at_call 39; (with_reducible refine (sweepsC _ x.kind).mono ?_); rintro e1 w101 ⟨rfl, hb_⟩; clear c99; have S100 := Aside0.mk (S93.out.below hb_); clear hb_; have c102 : w101.cell? ⟨g1, 5, none⟩ = some (.slice A x.entries.length c0) := S100.out.cell 0 5 rfl rfl))
      clear c102
      go_wp2_with (fail)
      try go_ret
      have HV := Aside0.mk (show startV c x = (2, c) by unfold startV; rw [if_neg (by rw [q6]; decide), if_neg (fun h => (by obtain ⟨⟨z1, z2⟩, z3, z4, ⟨z5, z6⟩, ⟨z7, z8⟩, ⟨z9, z10⟩⟩ := h; have y1 := Xq9.out; have y2 := Xq13.out; have y4 := Xq95.out; first | omega | (have z11 := z4 q18; omega)))])
      refine HPOST.out _ _ ?_
      unfold StartT
      rw [HV.out]
      exact ⟨_, _, _, rfl, ((S100.out).erase 0)⟩
     ·have t98 : decide (x.entries.length < 1) = false := decide_eq_false (by omega)
      have t96 : decide ((x.entries.length : Int) < 1) = false := decide_eq_false q95
      have Xq95 := Aside0.mk q95
      clear q95
      rcases Decidable.em (10 < (x.entries.length : Int)) with q103 | q103
      ·have t106 : decide (10 < x.entries.length) = true := decide_eq_true (by omega)
       have t104 : decide (10 < (x.entries.length : Int)) = true := decide_eq_true q103
       have Xq103 := Aside0.mk q103
       clear q103
       go_upto_region 8 with (first | (go_at_call 39; (with_reducible refine (sweepsC _ x.kind).mono ?_); rintro e1 w94 ⟨rfl, hb_⟩; clear c92; have S93 := Aside0.mk (S4.out.below hb_); clear hb_))
       have c107 : w94.cell? ⟨g1, 0, none⟩ = some (.int .i64 x.kind) := S93.out.cell 0 0 rfl rfl
       go_upto_region 9 with (first | (go_at_call 39; (with_reducible refine (sweepsC _ x.kind).mono ?_); rintro e1 w109 ⟨rfl, hb_⟩; clear c107; have S108 := Aside0.mk (S93.out.below hb_); clear hb_; have c110 : w109.cell? ⟨g1, 5, none⟩ = some (.slice A x.entries.length c0) := S108.out.cell 0 5 rfl rfl))
       clear c110
       go_wp2_with (fail)
       try go_ret
       have HV := Aside0.mk (show startV c x = (2, c) by unfold startV; rw [if_neg (by rw [q6]; decide), if_neg (fun h => (by obtain ⟨⟨z1, z2⟩, z3, z4, ⟨z5, z6⟩, ⟨z7, z8⟩, ⟨z9, z10⟩⟩ := h; have y1 := Xq9.out; have y2 := Xq13.out; have y4 := Xq95.out; have y5 := Xq103.out; first | omega | (have z11 := z4 q18; omega)))])
       refine HPOST.out _ _ ?_
       unfold StartT
       rw [HV.out]
       exact ⟨_, _, _, rfl, ((S108.out).erase 0)⟩
      ·have t106 : decide (10 < x.entries.length) = false := decide_eq_false (by omega)
       have t104 : decide (10 < (x.entries.length : Int)) = false := decide_eq_false q103
       have Xq103 := Aside0.mk q103
       clear q103
       go_upto_region 8 with (first | (go_at_call 39; (with_reducible refine (sweepsC _ x.kind).mono ?_); rintro e1 w94 ⟨rfl, hb_⟩; clear c92; have S93 := Aside0.mk (S4.out.below hb_); clear hb_))
       have c111 : w94.cell? ⟨g1, 0, none⟩ = some (.int .i64 x.kind) := S93.out.cell 0 0 rfl rfl
       go_upto_region 10 with (first | (go_at_call 39; (with_reducible refine (sweepsC _ x.kind).mono ?_); rintro e1 w113 ⟨rfl, hb_⟩; clear c111; have S112 := Aside0.mk (S93.out.below hb_); clear hb_; have c114 : w113.cell? ⟨g1, 5, none⟩ = some (.slice A x.entries.length c0) := S112.out.cell 0 5 rfl rfl))
       clear c114
       have c115 : w113.cell? ⟨g1, 1, none⟩ = some (.int .i64 x.queue) := S112.out.cell 0 1 rfl rfl
       have c116 : w113.cell? ⟨g1, 2, none⟩ = some (.int .i64 x.max) := S112.out.cell 0 2 rfl rfl
       have c117 : w113.cell? ⟨g1, 3, none⟩ = some (.int .i64 x.secs) := S112.out.cell 0 3 rfl rfl
       go_wp2_with (first | ((with_reducible refine gate_dst (N := 56) rfl ?_); refine st_lit ?hg (N := 56) ?hd #[(.int .i64 x.queue), (.int .i64 x.max), (.int .i64 x.secs)] 3 3 ?hr S112.out ?_; (case hd => rfl); (case hg => rfl); (case hr => first | (go_simp; done) | (go_simp; rfl) | (go_simp; exact ⟨rfl, rfl⟩)); intro g118 w119 hg_ h_ hb_; clear c115 c116 c117; have S120 := Aside0.mk h_; have BS120 := Aside0.mk hb_; have GS120 := Aside0.mk hg_; clear h_ hb_ hg_))
       refine wp_loop_round ?_
       refine round_unroll ?_
       go_upto_region 11 with (fail)
       go_upto_region 12 with (fail)
       have c121 : w119.cell? ⟨g118, 0, none⟩ = some (.int .i64 x.queue) := S120.out.cell 0 0 rfl rfl
       rcases Decidable.em (x.queue < 0) with q122 | q122
       ·have t123 : decide (x.queue < 0) = true := decide_eq_true q122
        have Xq122 := Aside0.mk q122
        clear q122
        go_upto_region 13 with (fail)
        clear c121
        go_upto_region 14 with (fail)
        go_wp2_with (fail)
        try go_ret
        have HV := Aside0.mk (show startV c x = (2, c) by unfold startV; rw [if_neg (by rw [q6]; decide), if_neg (fun h => (by obtain ⟨⟨z1, z2⟩, z3, z4, ⟨z5, z6⟩, ⟨z7, z8⟩, ⟨z9, z10⟩⟩ := h; have y1 := Xq9.out; have y2 := Xq13.out; have y4 := Xq95.out; have y5 := Xq103.out; have y6 := Xq122.out; first | omega | (have z11 := z4 q18; omega)))])
        refine HPOST.out _ _ ?_
        unfold StartT
        rw [HV.out]
        exact ⟨_, _, _, rfl, (((S120.out).erase 1).erase 0)⟩
       ·have t123 : decide (x.queue < 0) = false := decide_eq_false q122
        have Xq122 := Aside0.mk q122
        clear q122
        rcases Decidable.em (1099511627776 < x.queue) with q125 | q125
        ·have t126 : decide (1099511627776 < x.queue) = true := decide_eq_true q125
         have Xq125 := Aside0.mk q125
         clear q125
         go_upto_region 13 with (fail)
         clear c121
         go_upto_region 14 with (fail)
         go_wp2_with (fail)
         try go_ret
         have HV := Aside0.mk (show startV c x = (2, c) by unfold startV; rw [if_neg (by rw [q6]; decide), if_neg (fun h => (by obtain ⟨⟨z1, z2⟩, z3, z4, ⟨z5, z6⟩, ⟨z7, z8⟩, ⟨z9, z10⟩⟩ := h; have y1 := Xq9.out; have y2 := Xq13.out; have y4 := Xq95.out; have y5 := Xq103.out; have y6 := Xq122.out; have y7 := Xq125.out; first | omega | (have z11 := z4 q18; omega)))])
         refine HPOST.out _ _ ?_
         unfold StartT
         rw [HV.out]
         exact ⟨_, _, _, rfl, (((S120.out).erase 1).erase 0)⟩
        ·have t126 : decide (1099511627776 < x.queue) = false := decide_eq_false q125
         have Xq125 := Aside0.mk q125
         clear q125
         go_upto_region 13 with (fail)
         clear c121
         go_upto_region 15 with (fail)
         go_wp2_with (fail)
         refine round_unroll ?_
         go_upto_region 11 with (fail)
         go_upto_region 12 with (fail)
         have c128 : w119.cell? ⟨g118, 1, none⟩ = some (.int .i64 x.max) := S120.out.cell 0 1 rfl rfl
         rcases Decidable.em (x.max < 0) with q129 | q129
         ·have t130 : decide (x.max < 0) = true := decide_eq_true q129
          have Xq129 := Aside0.mk q129
          clear q129
          go_upto_region 13 with (fail)
          clear c128
          go_upto_region 14 with (fail)
          go_wp2_with (fail)
          try go_ret
          have HV := Aside0.mk (show startV c x = (2, c) by unfold startV; rw [if_neg (by rw [q6]; decide), if_neg (fun h => (by obtain ⟨⟨z1, z2⟩, z3, z4, ⟨z5, z6⟩, ⟨z7, z8⟩, ⟨z9, z10⟩⟩ := h; have y1 := Xq9.out; have y2 := Xq13.out; have y4 := Xq95.out; have y5 := Xq103.out; have y6 := Xq122.out; have y7 := Xq125.out; have y8 := Xq129.out; first | omega | (have z11 := z4 q18; omega)))])
          refine HPOST.out _ _ ?_
          unfold StartT
          rw [HV.out]
          exact ⟨_, _, _, rfl, (((S120.out).erase 1).erase 0)⟩
         ·have t130 : decide (x.max < 0) = false := decide_eq_false q129
          have Xq129 := Aside0.mk q129
          clear q129
          rcases Decidable.em (1099511627776 < x.max) with q132 | q132
          ·have t133 : decide (1099511627776 < x.max) = true := decide_eq_true q132
           have Xq132 := Aside0.mk q132
           clear q132
           go_upto_region 13 with (fail)
           clear c128
           go_upto_region 14 with (fail)
           go_wp2_with (fail)
           try go_ret
           have HV := Aside0.mk (show startV c x = (2, c) by unfold startV; rw [if_neg (by rw [q6]; decide), if_neg (fun h => (by obtain ⟨⟨z1, z2⟩, z3, z4, ⟨z5, z6⟩, ⟨z7, z8⟩, ⟨z9, z10⟩⟩ := h; have y1 := Xq9.out; have y2 := Xq13.out; have y4 := Xq95.out; have y5 := Xq103.out; have y6 := Xq122.out; have y7 := Xq125.out; have y8 := Xq129.out; have y9 := Xq132.out; first | omega | (have z11 := z4 q18; omega)))])
           refine HPOST.out _ _ ?_
           unfold StartT
           rw [HV.out]
           exact ⟨_, _, _, rfl, (((S120.out).erase 1).erase 0)⟩
          ·have t133 : decide (1099511627776 < x.max) = false := decide_eq_false q132
           have Xq132 := Aside0.mk q132
           clear q132
           go_upto_region 13 with (fail)
           clear c128
           go_upto_region 15 with (fail)
           go_wp2_with (fail)
           refine round_unroll ?_
           go_upto_region 11 with (fail)
           go_upto_region 12 with (fail)
           have c135 : w119.cell? ⟨g118, 2, none⟩ = some (.int .i64 x.secs) := S120.out.cell 0 2 rfl rfl
           rcases Decidable.em (x.secs < 0) with q136 | q136
           ·have t137 : decide (x.secs < 0) = true := decide_eq_true q136
            have Xq136 := Aside0.mk q136
            clear q136
            go_upto_region 13 with (fail)
            clear c135
            go_upto_region 14 with (fail)
            go_wp2_with (fail)
            try go_ret
            have HV := Aside0.mk (show startV c x = (2, c) by unfold startV; rw [if_neg (by rw [q6]; decide), if_neg (fun h => (by obtain ⟨⟨z1, z2⟩, z3, z4, ⟨z5, z6⟩, ⟨z7, z8⟩, ⟨z9, z10⟩⟩ := h; have y1 := Xq9.out; have y2 := Xq13.out; have y4 := Xq95.out; have y5 := Xq103.out; have y6 := Xq122.out; have y7 := Xq125.out; have y8 := Xq129.out; have y9 := Xq132.out; have y10 := Xq136.out; first | omega | (have z11 := z4 q18; omega)))])
            refine HPOST.out _ _ ?_
            unfold StartT
            rw [HV.out]
            exact ⟨_, _, _, rfl, (((S120.out).erase 1).erase 0)⟩
           ·have t137 : decide (x.secs < 0) = false := decide_eq_false q136
            have Xq136 := Aside0.mk q136
            clear q136
            rcases Decidable.em (1099511627776 < x.secs) with q139 | q139
            ·have t140 : decide (1099511627776 < x.secs) = true := decide_eq_true q139
             have Xq139 := Aside0.mk q139
             clear q139
             go_upto_region 13 with (fail)
             clear c135
             go_upto_region 14 with (fail)
             go_wp2_with (fail)
             try go_ret
             have HV := Aside0.mk (show startV c x = (2, c) by unfold startV; rw [if_neg (by rw [q6]; decide), if_neg (fun h => (by obtain ⟨⟨z1, z2⟩, z3, z4, ⟨z5, z6⟩, ⟨z7, z8⟩, ⟨z9, z10⟩⟩ := h; have y1 := Xq9.out; have y2 := Xq13.out; have y4 := Xq95.out; have y5 := Xq103.out; have y6 := Xq122.out; have y7 := Xq125.out; have y8 := Xq129.out; have y9 := Xq132.out; have y10 := Xq136.out; have y11 := Xq139.out; first | omega | (have z11 := z4 q18; omega)))])
             refine HPOST.out _ _ ?_
             unfold StartT
             rw [HV.out]
             exact ⟨_, _, _, rfl, (((S120.out).erase 1).erase 0)⟩
            ·have t140 : decide (1099511627776 < x.secs) = false := decide_eq_false q139
             have Xq139 := Aside0.mk q139
             clear q139
             go_upto_region 13 with (fail)
             clear c135
             go_upto_region 15 with (fail)
             go_wp2_with (fail)
             refine round_unroll ?_
             go_upto_region 11 with (fail)
             go_upto_region 16 with (fail)
             have c142 : w119.cell? ⟨g1, 5, none⟩ = some (.slice A x.entries.length c0) := S120.out.cell 1 5 rfl rfl
             go_upto_region 17 with (first | (go_at_call 41; (with_reducible refine (cloneEntry.calls A c0 x.entries x.entries _ (HC.out.2.1 _ (S120.out.drop.drop.drop.drop.drop.drop.drop.drop.drop).mem) HC.out.1 (by unfold cloneEntry.f; rw [if_pos (by have := HC.out.2.2; omega)])).mono ?_); rintro e1 w144 ⟨vo, rfl, hR_, hb_⟩; clear c142; obtain ⟨An, cn, rfl⟩ := Kd.R_slice hR_; have S143 := Aside0.mk (S120.out.newRow hb_ hR_); clear hb_ hR_) | ((with_reducible refine gate_ (.store 48 (.tmp 72) (.tmp 71)) rfl ?_); refine st_store rfl rfl 48 _ _ rfl rfl rfl (seg := [(.slice An x.entries.length cn)]) rfl (by kernel_rfl) (by rfl) S143.out 2 rfl (Nat.le_of_ble_eq_true rfl) ?_; intro w145 h_; have S146 : Aside0 (St w0 w145 (Row k106 106 (.slice An x.entries.length cn) x.entries :: Blk g118 #[(.int .i64 x.queue), (.int .i64 x.max), (.int .i64 x.secs)] 3 :: Blk g1 (callA x (.slice An x.entries.length cn)) 50 :: Blk BC (cliA BA c v1 v2 v3 v4) 91 :: Blk BA (askA a bl) 97 :: MapT bl q a.lead :: Row k106 106 v1 c.call.entries :: Row k108 108 v2 c.pieces :: Row (Kd.int .i64) 3 v3 c.sweep :: Row k42 42 v4 c.out :: L)) := Aside0.mk h_; clear h_))
             rcases Decidable.em (c.epoch = 0) with q159 | q159
             ·have t160 : (c.epoch == 0) = true := beq_iff_eq.2 q159
              have u161 : (c.epoch != 0) = false := by rw [bne, t160]; rfl
              have Xq159 := Aside0.mk q159
              clear q159
              go_upto_region 18 with (first | ((with_reducible refine gate_ (.load 50 (.tmp 3)) rfl ?_); refine st_load rfl 50 _ rfl rfl S146.out 2 rfl [(.int .i64 x.kind), (.int .i64 x.queue), (.int .i64 x.max), (.int .i64 x.secs), (.string x.attempt), (.slice An x.entries.length cn)] rfl Try.underlying50 rfl (by kernel_rfl) ?_) | ((with_reducible refine gate_ (.store 50 (.tmp 81) (.tmp 79)) rfl ?_); refine st_store rfl rfl 50 _ _ rfl rfl rfl (seg := [(.int .i64 x.kind), (.int .i64 x.queue), (.int .i64 x.max), (.int .i64 x.secs), (.string x.attempt), (.slice An x.entries.length cn)]) rfl (by kernel_rfl) (by rfl) S146.out 3 rfl (Nat.le_of_ble_eq_true rfl) ?_; intro w147 h_; have S148 : Aside0 (St w0 w147 (Row k106 106 (.slice An x.entries.length cn) x.entries :: Blk g118 #[(.int .i64 x.queue), (.int .i64 x.max), (.int .i64 x.secs)] 3 :: Blk g1 (callA x (.slice An x.entries.length cn)) 50 :: Blk BC (cliA BA { c with call := x } (.slice An x.entries.length cn) v2 v3 v4) 91 :: Blk BA (askA a bl) 97 :: MapT bl q a.lead :: Row k106 106 v1 c.call.entries :: Row k108 108 v2 c.pieces :: Row (Kd.int .i64) 3 v3 c.sweep :: Row k42 42 v4 c.out :: L)) := Aside0.mk h_; clear h_) | ((with_reducible refine gate_ (.store 4 (.tmp 83) (.const (.bool true))) rfl ?_); refine st_store rfl rfl 4 _ _ rfl rfl rfl (seg := [(.bool true)]) rfl (by kernel_rfl) (by rfl) S148.out 3 rfl (Nat.le_of_ble_eq_true rfl) ?_; intro w149 h_; have S150 : Aside0 (St w0 w149 (Row k106 106 (.slice An x.entries.length cn) x.entries :: Blk g118 #[(.int .i64 x.queue), (.int .i64 x.max), (.int .i64 x.secs)] 3 :: Blk g1 (callA x (.slice An x.entries.length cn)) 50 :: Blk BC (cliA BA { c with call := x, works := true } (.slice An x.entries.length cn) v2 v3 v4) 91 :: Blk BA (askA a bl) 97 :: MapT bl q a.lead :: Row k106 106 v1 c.call.entries :: Row k108 108 v2 c.pieces :: Row (Kd.int .i64) 3 v3 c.sweep :: Row k42 42 v4 c.out :: L)) := Aside0.mk h_; clear h_) | ((with_reducible refine gate_ (.store 4 (.tmp 85) (.const (.bool true))) rfl ?_); refine st_store rfl rfl 4 _ _ rfl rfl rfl (seg := [(.bool true)]) rfl (by kernel_rfl) (by rfl) S150.out 3 rfl (Nat.le_of_ble_eq_true rfl) ?_; intro w151 h_; have S152 : Aside0 (St w0 w151 (Row k106 106 (.slice An x.entries.length cn) x.entries :: Blk g118 #[(.int .i64 x.queue), (.int .i64 x.max), (.int .i64 x.secs)] 3 :: Blk g1 (callA x (.slice An x.entries.length cn)) 50 :: Blk BC (cliA BA { c with call := x, works := true, started := true } (.slice An x.entries.length cn) v2 v3 v4) 91 :: Blk BA (askA a bl) 97 :: MapT bl q a.lead :: Row k106 106 v1 c.call.entries :: Row k108 108 v2 c.pieces :: Row (Kd.int .i64) 3 v3 c.sweep :: Row k42 42 v4 c.out :: L)) := Aside0.mk h_; clear h_) | ((with_reducible refine gate_ (.store 3 (.tmp 87) (.const (.int .i64 0))) rfl ?_); refine st_store rfl rfl 3 _ _ rfl rfl rfl (seg := [(.int .i64 0)]) rfl (by kernel_rfl) (by rfl) S152.out 3 rfl (Nat.le_of_ble_eq_true rfl) ?_; intro w153 h_; have S154 : Aside0 (St w0 w153 (Row k106 106 (.slice An x.entries.length cn) x.entries :: Blk g118 #[(.int .i64 x.queue), (.int .i64 x.max), (.int .i64 x.secs)] 3 :: Blk g1 (callA x (.slice An x.entries.length cn)) 50 :: Blk BC (cliA BA { c with call := x, works := true, started := true, step := 0 } (.slice An x.entries.length cn) v2 v3 v4) 91 :: Blk BA (askA a bl) 97 :: MapT bl q a.lead :: Row k106 106 v1 c.call.entries :: Row k108 108 v2 c.pieces :: Row (Kd.int .i64) 3 v3 c.sweep :: Row k42 42 v4 c.out :: L)) := Aside0.mk h_; clear h_) | ((with_reducible refine gate_ (.store 63 (.tmp 89) (.const (.slice none 0 0))) rfl ?_); refine st_store rfl rfl 63 _ _ rfl rfl rfl (seg := [(.slice none 0 0)]) rfl (by kernel_rfl) (by rfl) S154.out 3 rfl (Nat.le_of_ble_eq_true rfl) ?_; intro w155 h_; have S156 : Aside0 (St w0 w155 (Row k106 106 (.slice An x.entries.length cn) x.entries :: Blk g118 #[(.int .i64 x.queue), (.int .i64 x.max), (.int .i64 x.secs)] 3 :: Blk g1 (callA x (.slice An x.entries.length cn)) 50 :: Blk BC (cliA BA { c with call := x, works := true, started := true, step := 0, sweep := [] } (.slice An x.entries.length cn) v2 (.slice none 0 0) v4) 91 :: Blk BA (askA a bl) 97 :: MapT bl q a.lead :: Row k106 106 v1 c.call.entries :: Row k108 108 v2 c.pieces :: Row (Kd.int .i64) 3 v3 c.sweep :: Row k42 42 v4 c.out :: L)) := Aside0.mk h_; clear h_) | ((with_reducible refine gate_ (.store 66 (.tmp 91) (.const (.slice none 0 0))) rfl ?_); refine st_store rfl rfl 66 _ _ rfl rfl rfl (seg := [(.slice none 0 0)]) rfl (by kernel_rfl) (by rfl) S156.out 3 rfl (Nat.le_of_ble_eq_true rfl) ?_; intro w157 h_; have S158 : Aside0 (St w0 w157 (Row k106 106 (.slice An x.entries.length cn) x.entries :: Blk g118 #[(.int .i64 x.queue), (.int .i64 x.max), (.int .i64 x.secs)] 3 :: Blk g1 (callA x (.slice An x.entries.length cn)) 50 :: Blk BC (cliA BA { c with call := x, works := true, started := true, step := 0, sweep := [], out := [] } (.slice An x.entries.length cn) v2 (.slice none 0 0) (.slice none 0 0)) 91 :: Blk BA (askA a bl) 97 :: MapT bl q a.lead :: Row k106 106 v1 c.call.entries :: Row k108 108 v2 c.pieces :: Row (Kd.int .i64) 3 v3 c.sweep :: Row k42 42 v4 c.out :: L)) := Aside0.mk h_; clear h_))
              have c162 : w157.cell? ⟨BC, 11, none⟩ = some (.int .i64 c.epoch) := S158.out.cell 3 11 rfl rfl
              go_upto_region 19 with (first | ((with_reducible refine gate_ (.store 4 (.tmp 105) (.tmp 103)) rfl ?_); refine st_store rfl rfl 4 _ _ rfl rfl rfl (seg := [(.bool true)]) rfl (by kernel_rfl) (by rfl) S158.out 3 rfl (Nat.le_of_ble_eq_true rfl) ?_; intro w163 h_; clear c162; have S164 : Aside0 (St w0 w163 (Row k106 106 (.slice An x.entries.length cn) x.entries :: Blk g118 #[(.int .i64 x.queue), (.int .i64 x.max), (.int .i64 x.secs)] 3 :: Blk g1 (callA x (.slice An x.entries.length cn)) 50 :: Blk BC (cliA BA { c with call := x, works := true, started := true, step := 0, sweep := [], out := [], wants := true } (.slice An x.entries.length cn) v2 (.slice none 0 0) (.slice none 0 0)) 91 :: Blk BA (askA a bl) 97 :: MapT bl q a.lead :: Row k106 106 v1 c.call.entries :: Row k108 108 v2 c.pieces :: Row (Kd.int .i64) 3 v3 c.sweep :: Row k42 42 v4 c.out :: L)) := Aside0.mk h_; clear h_))
              go_wp2_with (fail)
              try go_ret
              have HV := Aside0.mk (show startV c x = (0, { c with call := x, works := true, started := true, step := 0, sweep := [], out := [], wants := (c.epoch == 0) || sweepsB x.kind }) by unfold startV; rw [if_neg (by rw [q6]; decide), if_pos (show callOk x from ⟨by have y1 := Xq9.out; have y2 := Xq13.out; have y4 := Xq95.out; have y5 := Xq103.out; have y6 := Xq122.out; have y7 := Xq125.out; have y8 := Xq129.out; have y9 := Xq132.out; have y10 := Xq136.out; have y11 := Xq139.out; have y12 := Xq159.out; omega, (fun h => (by rw [q18] at h; cases h)), (fun _ => (by have y1 := Xq9.out; have y2 := Xq13.out; have y4 := Xq95.out; have y5 := Xq103.out; have y6 := Xq122.out; have y7 := Xq125.out; have y8 := Xq129.out; have y9 := Xq132.out; have y10 := Xq136.out; have y11 := Xq139.out; have y12 := Xq159.out; omega)), ⟨by have y1 := Xq9.out; have y2 := Xq13.out; have y4 := Xq95.out; have y5 := Xq103.out; have y6 := Xq122.out; have y7 := Xq125.out; have y8 := Xq129.out; have y9 := Xq132.out; have y10 := Xq136.out; have y11 := Xq139.out; have y12 := Xq159.out; omega, by have y1 := Xq9.out; have y2 := Xq13.out; have y4 := Xq95.out; have y5 := Xq103.out; have y6 := Xq122.out; have y7 := Xq125.out; have y8 := Xq129.out; have y9 := Xq132.out; have y10 := Xq136.out; have y11 := Xq139.out; have y12 := Xq159.out; omega⟩, ⟨by have y1 := Xq9.out; have y2 := Xq13.out; have y4 := Xq95.out; have y5 := Xq103.out; have y6 := Xq122.out; have y7 := Xq125.out; have y8 := Xq129.out; have y9 := Xq132.out; have y10 := Xq136.out; have y11 := Xq139.out; have y12 := Xq159.out; omega, by have y1 := Xq9.out; have y2 := Xq13.out; have y4 := Xq95.out; have y5 := Xq103.out; have y6 := Xq122.out; have y7 := Xq125.out; have y8 := Xq129.out; have y9 := Xq132.out; have y10 := Xq136.out; have y11 := Xq139.out; have y12 := Xq159.out; omega⟩, ⟨by have y1 := Xq9.out; have y2 := Xq13.out; have y4 := Xq95.out; have y5 := Xq103.out; have y6 := Xq122.out; have y7 := Xq125.out; have y8 := Xq129.out; have y9 := Xq132.out; have y10 := Xq136.out; have y11 := Xq139.out; have y12 := Xq159.out; omega, by have y1 := Xq9.out; have y2 := Xq13.out; have y4 := Xq95.out; have y5 := Xq103.out; have y6 := Xq122.out; have y7 := Xq125.out; have y8 := Xq129.out; have y9 := Xq132.out; have y10 := Xq136.out; have y11 := Xq139.out; have y12 := Xq159.out; omega⟩⟩)])
              have HW := Aside0.mk (show ((c.epoch == 0) || sweepsB x.kind) = true by rw [beq_iff_eq.2 Xq159.out]; rfl)
              have S165 := Aside0.mk ((S164.out.nilRow (Kd.int .i64) 3).nilRow k42 42)
              refine HPOST.out _ _ ?_
              unfold StartT
              rw [HV.out]
              rw [HW.out]
              exact ⟨_, _, _, rfl, (((((((((((((S165.out).erase 11).erase 10).erase 8).erase 4).erase 3).bring 0 rfl).bring 1 rfl).bring 6 rfl).bring 3 rfl).bring 6 rfl).bring 6 rfl).bring 6 rfl)⟩
             ·have t160 : (c.epoch == 0) = false := beq_eq_false_iff_ne.2 q159
              have u161 : (c.epoch != 0) = true := by rw [bne, t160]; rfl
              have Xq159 := Aside0.mk q159
              clear q159
              go_upto_region 18 with (first | ((with_reducible refine gate_ (.load 50 (.tmp 3)) rfl ?_); refine st_load rfl 50 _ rfl rfl S146.out 2 rfl [(.int .i64 x.kind), (.int .i64 x.queue), (.int .i64 x.max), (.int .i64 x.secs), (.string x.attempt), (.slice An x.entries.length cn)] rfl Try.underlying50 rfl (by kernel_rfl) ?_) | ((with_reducible refine gate_ (.store 50 (.tmp 81) (.tmp 79)) rfl ?_); refine st_store rfl rfl 50 _ _ rfl rfl rfl (seg := [(.int .i64 x.kind), (.int .i64 x.queue), (.int .i64 x.max), (.int .i64 x.secs), (.string x.attempt), (.slice An x.entries.length cn)]) rfl (by kernel_rfl) (by rfl) S146.out 3 rfl (Nat.le_of_ble_eq_true rfl) ?_; intro w147 h_; have S148 : Aside0 (St w0 w147 (Row k106 106 (.slice An x.entries.length cn) x.entries :: Blk g118 #[(.int .i64 x.queue), (.int .i64 x.max), (.int .i64 x.secs)] 3 :: Blk g1 (callA x (.slice An x.entries.length cn)) 50 :: Blk BC (cliA BA { c with call := x } (.slice An x.entries.length cn) v2 v3 v4) 91 :: Blk BA (askA a bl) 97 :: MapT bl q a.lead :: Row k106 106 v1 c.call.entries :: Row k108 108 v2 c.pieces :: Row (Kd.int .i64) 3 v3 c.sweep :: Row k42 42 v4 c.out :: L)) := Aside0.mk h_; clear h_) | ((with_reducible refine gate_ (.store 4 (.tmp 83) (.const (.bool true))) rfl ?_); refine st_store rfl rfl 4 _ _ rfl rfl rfl (seg := [(.bool true)]) rfl (by kernel_rfl) (by rfl) S148.out 3 rfl (Nat.le_of_ble_eq_true rfl) ?_; intro w149 h_; have S150 : Aside0 (St w0 w149 (Row k106 106 (.slice An x.entries.length cn) x.entries :: Blk g118 #[(.int .i64 x.queue), (.int .i64 x.max), (.int .i64 x.secs)] 3 :: Blk g1 (callA x (.slice An x.entries.length cn)) 50 :: Blk BC (cliA BA { c with call := x, works := true } (.slice An x.entries.length cn) v2 v3 v4) 91 :: Blk BA (askA a bl) 97 :: MapT bl q a.lead :: Row k106 106 v1 c.call.entries :: Row k108 108 v2 c.pieces :: Row (Kd.int .i64) 3 v3 c.sweep :: Row k42 42 v4 c.out :: L)) := Aside0.mk h_; clear h_) | ((with_reducible refine gate_ (.store 4 (.tmp 85) (.const (.bool true))) rfl ?_); refine st_store rfl rfl 4 _ _ rfl rfl rfl (seg := [(.bool true)]) rfl (by kernel_rfl) (by rfl) S150.out 3 rfl (Nat.le_of_ble_eq_true rfl) ?_; intro w151 h_; have S152 : Aside0 (St w0 w151 (Row k106 106 (.slice An x.entries.length cn) x.entries :: Blk g118 #[(.int .i64 x.queue), (.int .i64 x.max), (.int .i64 x.secs)] 3 :: Blk g1 (callA x (.slice An x.entries.length cn)) 50 :: Blk BC (cliA BA { c with call := x, works := true, started := true } (.slice An x.entries.length cn) v2 v3 v4) 91 :: Blk BA (askA a bl) 97 :: MapT bl q a.lead :: Row k106 106 v1 c.call.entries :: Row k108 108 v2 c.pieces :: Row (Kd.int .i64) 3 v3 c.sweep :: Row k42 42 v4 c.out :: L)) := Aside0.mk h_; clear h_) | ((with_reducible refine gate_ (.store 3 (.tmp 87) (.const (.int .i64 0))) rfl ?_); refine st_store rfl rfl 3 _ _ rfl rfl rfl (seg := [(.int .i64 0)]) rfl (by kernel_rfl) (by rfl) S152.out 3 rfl (Nat.le_of_ble_eq_true rfl) ?_; intro w153 h_; have S154 : Aside0 (St w0 w153 (Row k106 106 (.slice An x.entries.length cn) x.entries :: Blk g118 #[(.int .i64 x.queue), (.int .i64 x.max), (.int .i64 x.secs)] 3 :: Blk g1 (callA x (.slice An x.entries.length cn)) 50 :: Blk BC (cliA BA { c with call := x, works := true, started := true, step := 0 } (.slice An x.entries.length cn) v2 v3 v4) 91 :: Blk BA (askA a bl) 97 :: MapT bl q a.lead :: Row k106 106 v1 c.call.entries :: Row k108 108 v2 c.pieces :: Row (Kd.int .i64) 3 v3 c.sweep :: Row k42 42 v4 c.out :: L)) := Aside0.mk h_; clear h_) | ((with_reducible refine gate_ (.store 63 (.tmp 89) (.const (.slice none 0 0))) rfl ?_); refine st_store rfl rfl 63 _ _ rfl rfl rfl (seg := [(.slice none 0 0)]) rfl (by kernel_rfl) (by rfl) S154.out 3 rfl (Nat.le_of_ble_eq_true rfl) ?_; intro w155 h_; have S156 : Aside0 (St w0 w155 (Row k106 106 (.slice An x.entries.length cn) x.entries :: Blk g118 #[(.int .i64 x.queue), (.int .i64 x.max), (.int .i64 x.secs)] 3 :: Blk g1 (callA x (.slice An x.entries.length cn)) 50 :: Blk BC (cliA BA { c with call := x, works := true, started := true, step := 0, sweep := [] } (.slice An x.entries.length cn) v2 (.slice none 0 0) v4) 91 :: Blk BA (askA a bl) 97 :: MapT bl q a.lead :: Row k106 106 v1 c.call.entries :: Row k108 108 v2 c.pieces :: Row (Kd.int .i64) 3 v3 c.sweep :: Row k42 42 v4 c.out :: L)) := Aside0.mk h_; clear h_) | ((with_reducible refine gate_ (.store 66 (.tmp 91) (.const (.slice none 0 0))) rfl ?_); refine st_store rfl rfl 66 _ _ rfl rfl rfl (seg := [(.slice none 0 0)]) rfl (by kernel_rfl) (by rfl) S156.out 3 rfl (Nat.le_of_ble_eq_true rfl) ?_; intro w157 h_; have S158 : Aside0 (St w0 w157 (Row k106 106 (.slice An x.entries.length cn) x.entries :: Blk g118 #[(.int .i64 x.queue), (.int .i64 x.max), (.int .i64 x.secs)] 3 :: Blk g1 (callA x (.slice An x.entries.length cn)) 50 :: Blk BC (cliA BA { c with call := x, works := true, started := true, step := 0, sweep := [], out := [] } (.slice An x.entries.length cn) v2 (.slice none 0 0) (.slice none 0 0)) 91 :: Blk BA (askA a bl) 97 :: MapT bl q a.lead :: Row k106 106 v1 c.call.entries :: Row k108 108 v2 c.pieces :: Row (Kd.int .i64) 3 v3 c.sweep :: Row k42 42 v4 c.out :: L)) := Aside0.mk h_; clear h_))
              have c166 : w157.cell? ⟨BC, 11, none⟩ = some (.int .i64 c.epoch) := S158.out.cell 3 11 rfl rfl
              have c167 : w157.cell? ⟨g1, 0, none⟩ = some (.int .i64 x.kind) := S158.out.cell 2 0 rfl rfl
              go_upto_region 19 with (first | (go_at_call 39; (with_reducible refine (sweepsC _ x.kind).mono ?_); rintro e1 w169 ⟨rfl, hb_⟩; clear c166 c167; have S168 := Aside0.mk (S158.out.below hb_); clear hb_) | ((with_reducible refine gate_ (.store 4 (.tmp 105) (.tmp 103)) rfl ?_); refine st_store rfl rfl 4 _ _ rfl rfl rfl (seg := [(.bool false)]) rfl (by kernel_rfl) (by rfl) S168.out 3 rfl (Nat.le_of_ble_eq_true rfl) ?_; intro w170 h_; have S171 : Aside0 (St w0 w170 (Row k106 106 (.slice An x.entries.length cn) x.entries :: Blk g118 #[(.int .i64 x.queue), (.int .i64 x.max), (.int .i64 x.secs)] 3 :: Blk g1 (callA x (.slice An x.entries.length cn)) 50 :: Blk BC (cliA BA { c with call := x, works := true, started := true, step := 0, sweep := [], out := [], wants := false } (.slice An x.entries.length cn) v2 (.slice none 0 0) (.slice none 0 0)) 91 :: Blk BA (askA a bl) 97 :: MapT bl q a.lead :: Row k106 106 v1 c.call.entries :: Row k108 108 v2 c.pieces :: Row (Kd.int .i64) 3 v3 c.sweep :: Row k42 42 v4 c.out :: L)) := Aside0.mk h_; clear h_))
              go_wp2_with (fail)
              try go_ret
              have HV := Aside0.mk (show startV c x = (0, { c with call := x, works := true, started := true, step := 0, sweep := [], out := [], wants := (c.epoch == 0) || sweepsB x.kind }) by unfold startV; rw [if_neg (by rw [q6]; decide), if_pos (show callOk x from ⟨by have y1 := Xq9.out; have y2 := Xq13.out; have y4 := Xq95.out; have y5 := Xq103.out; have y6 := Xq122.out; have y7 := Xq125.out; have y8 := Xq129.out; have y9 := Xq132.out; have y10 := Xq136.out; have y11 := Xq139.out; have y12 := Xq159.out; omega, (fun h => (by rw [q18] at h; cases h)), (fun _ => (by have y1 := Xq9.out; have y2 := Xq13.out; have y4 := Xq95.out; have y5 := Xq103.out; have y6 := Xq122.out; have y7 := Xq125.out; have y8 := Xq129.out; have y9 := Xq132.out; have y10 := Xq136.out; have y11 := Xq139.out; have y12 := Xq159.out; omega)), ⟨by have y1 := Xq9.out; have y2 := Xq13.out; have y4 := Xq95.out; have y5 := Xq103.out; have y6 := Xq122.out; have y7 := Xq125.out; have y8 := Xq129.out; have y9 := Xq132.out; have y10 := Xq136.out; have y11 := Xq139.out; have y12 := Xq159.out; omega, by have y1 := Xq9.out; have y2 := Xq13.out; have y4 := Xq95.out; have y5 := Xq103.out; have y6 := Xq122.out; have y7 := Xq125.out; have y8 := Xq129.out; have y9 := Xq132.out; have y10 := Xq136.out; have y11 := Xq139.out; have y12 := Xq159.out; omega⟩, ⟨by have y1 := Xq9.out; have y2 := Xq13.out; have y4 := Xq95.out; have y5 := Xq103.out; have y6 := Xq122.out; have y7 := Xq125.out; have y8 := Xq129.out; have y9 := Xq132.out; have y10 := Xq136.out; have y11 := Xq139.out; have y12 := Xq159.out; omega, by have y1 := Xq9.out; have y2 := Xq13.out; have y4 := Xq95.out; have y5 := Xq103.out; have y6 := Xq122.out; have y7 := Xq125.out; have y8 := Xq129.out; have y9 := Xq132.out; have y10 := Xq136.out; have y11 := Xq139.out; have y12 := Xq159.out; omega⟩, ⟨by have y1 := Xq9.out; have y2 := Xq13.out; have y4 := Xq95.out; have y5 := Xq103.out; have y6 := Xq122.out; have y7 := Xq125.out; have y8 := Xq129.out; have y9 := Xq132.out; have y10 := Xq136.out; have y11 := Xq139.out; have y12 := Xq159.out; omega, by have y1 := Xq9.out; have y2 := Xq13.out; have y4 := Xq95.out; have y5 := Xq103.out; have y6 := Xq122.out; have y7 := Xq125.out; have y8 := Xq129.out; have y9 := Xq132.out; have y10 := Xq136.out; have y11 := Xq139.out; have y12 := Xq159.out; omega⟩⟩)])
              have HW := Aside0.mk (show ((c.epoch == 0) || sweepsB x.kind) = false by rw [beq_eq_false_iff_ne.2 Xq159.out, q18]; rfl)
              have S172 := Aside0.mk ((S171.out.nilRow (Kd.int .i64) 3).nilRow k42 42)
              refine HPOST.out _ _ ?_
              unfold StartT
              rw [HV.out]
              rw [HW.out]
              exact ⟨_, _, _, rfl, (((((((((((((S172.out).erase 11).erase 10).erase 8).erase 4).erase 3).bring 0 rfl).bring 1 rfl).bring 6 rfl).bring 3 rfl).bring 6 rfl).bring 6 rfl).bring 6 rfl)⟩
end Go.Proofs.Ytonedijkgddepaa.P
