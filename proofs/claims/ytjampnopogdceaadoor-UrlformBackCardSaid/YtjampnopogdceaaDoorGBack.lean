/- The law UrlformBack, walked by hand: it returns true. No conditions. -/
import Derived.Test.YtjampnopogdceaaDoorPFew26
import Derived.Test.YtjampnopogdceaaDoorGParse
import Derived.Lib.ConvBytes
import Derived.StillTailTactics
import Derived.Deep.LoopGhost
namespace Go.Proofs.YtjampnopogdceaaDoor.P
open Go.RowKit Go.Lib Go.Proofs.YtjampnopogdceaaDoorW.PrintWords Go.Proofs.YtjampnopogdceaaDoorW.PrintLast Go.Proofs.YtjampnopogdceaaDoorW.PrintMore
attribute [local go_sem] max2_int min2_int max_two min_two
set_option linter.unusedVariables false
set_option linter.unusedSimpArgs false

theorem escIn_int (c : UInt8) (h : escIn c) : (32 : Int) < (c.toNat : Int) ∧ (c.toNat : Int) < 127 ∧ ((c.toNat : Int) == 38) = false ∧ ((c.toNat : Int) == 61) = false :=
  byteAll (p := fun c => escIn c → (32 : Int) < (c.toNat : Int) ∧ (c.toNat : Int) < 127 ∧ ((c.toNat : Int) == 38) = false ∧ ((c.toNat : Int) == 61) = false) (by decide +kernel) c h

set_option maxHeartbeats 8000000 in
set_option maxRecDepth 100000 in
theorem back.calls (a0 : ByteArray) (A1 : Option Addr) (c1 : Nat) (l1 : List S45) (w : World) (hr : Kd.C k45 w A1 l1.length l1) (hc : l1.length ≤ c1) :
    Calls Tryd.prog 8 #[.string a0, .slice A1 l1.length c1] w fun e w' => e = .returned (.bool true) ∧ Below w.heap.size w w' := by
  obtain ⟨a, ea, la, _⟩ := cutTo a0 1000
  have m0 := mn_ok a0 1000
  rw [show ((1000 : Nat) : Int) = 1000 from rfl] at ea m0
  obtain ⟨m, hm, hf⟩ := few_ev l1
  obtain ⟨kf, hf⟩ := Ev.rounds hf
  obtain ⟨kp, hp⟩ := Ev.rounds (print_ev m hm)
  have HF := Aside0.mk (fun W (h : Kd.C k45 W A1 l1.length l1) => racewaylaw26_few.calls kf A1 c1 l1 (m.map toS) W h hc hf)
  have HP := Aside0.mk hp
  have HM := Aside0.mk hm
  obtain ⟨L, hL⟩ : ∃ L, L = m.map toS := ⟨_, rfl⟩
  have HL := Aside0.mk hL
  rw [← hL] at HF HP
  clear hL
  have HR := Aside0.mk hr
  have hesc : urlform_Escape.f (ofL a) = some (ofL (esc a)) := by unfold urlform_Escape.f; rw [if_pos (by rw [ofL_size]; omega), ofL_list]
  have hel := esc_le a
  have hun : urlform_Unescape.f (ofL (esc a)) = some (ofL a, 0, 0) := by unfold urlform_Unescape.f; rw [if_pos (by rw [ofL_size]; omega), ofL_list, un_esc_all]; rfl
  have HE := Aside0.mk (fun W => urlform_Escape.calls (ofL a) _ W hesc)
  have HU := Aside0.mk (fun W => urlform_Unescape.calls (ofL (esc a)) _ _ _ W hun)
  have HIN := Aside0.mk (fun i (h : i < (ofL (esc a)).size) => escIn_int ((ofL (esc a)).data.toList.getD i 0) (by
    have h2 : i < (esc a).length := by rw [ofL_size] at h; exact h
    have e : (ofL (esc a)).data.toList.getD i 0 = (esc a)[i]'h2 := by rw [ofL_list]; simp [h2]
    rw [e]; exact esc_in a _ (List.getElem_mem _)))
  have hxs : (ofL (esc a)).size ≤ 3000 := by rw [ofL_size]; omega
  have HXS := Aside0.mk hxs
  have mz := m0.1
  have mz2 := m0.2
  clear hr hc hf hp hm hesc hel hun hxs m0 la
  generalize ofL (esc a) = X at HE HU HIN HXS
  generalize ofL a = S at ea HE HU
  go_enter Tryd.func8, Tryd.ntmps8
  go_wp2_with fail
  have em : mn (a0.size : Int) 1000 = (if (1000 : Int) < (a0.size : Int) then (1000 : Int) else (a0.size : Int)) := rfl
  rw [em] at mz mz2 ea
  clear em
  refine start_ (n := 9) (S := fun _ => True) (ds := []) #[false, false, false, false, false, false, false, false, false] (by kernel_rfl) rfl rfl trivial (fun hHeld => ?_)
  refine take_ (i := 0) (N := some 16) (v := ?_) (a' := ?_) #[true, false, false, false, false, false, false, false, false] rfl rfl (by kernel_rfl) (fun _ _ _ h => h) (Or.inl ⟨by rfl, ?_⟩) hHeld ?_ ?_
  rotate_left
  · intro w' _
    go_simp
    with_reducible rfl
  rotate_left
  · simp only [Act.put, List.setIfInBounds_toArray, List.set_cons_zero, List.set_cons_succ, i64_w, i32_w]
    rfl
  refine take_ (i := 1) (N := some 17) (v := ?_) (a' := ?_) #[true, true, false, false, false, false, false, false, false] rfl rfl (by kernel_rfl) (fun _ _ _ h => h) (Or.inl ⟨by rfl, ?_⟩) hHeld ?_ ?_
  rotate_left
  · intro w' _
    go_simp
    with_reducible rfl
  rotate_left
  · simp only [Act.put, List.setIfInBounds_toArray, List.set_cons_zero, List.set_cons_succ, i64_w, i32_w]
    rfl
  refine take_ (i := 2) (N := some 18) (v := ?_) (a' := ?_) #[true, true, true, false, false, false, false, false, false] rfl rfl (by kernel_rfl) (fun _ _ _ h => h) (Or.inl ⟨by rfl, ?_⟩) hHeld ?_ ?_
  rotate_left
  · intro w' _
    go_simp
    with_reducible rfl
  rotate_left
  · simp only [Act.put, List.setIfInBounds_toArray, List.set_cons_zero, List.set_cons_succ, i64_w, i32_w]
    rfl
  refine take_ (i := 3) (N := some 19) (v := ?_) (a' := ?_) #[true, true, true, true, false, false, false, false, false] rfl rfl (by kernel_rfl) (fun _ _ _ h => h) (Or.inl ⟨by rfl, ?_⟩) hHeld ?_ ?_
  rotate_left
  · intro w' _
    go_simp
    with_reducible rfl
  rotate_left
  · simp only [Act.put, List.setIfInBounds_toArray, List.set_cons_zero, List.set_cons_succ, i64_w, i32_w]
    rfl
  generalize (if (1000 : Int) < (a0.size : Int) then (1000 : Int) else (a0.size : Int)) = z at mz mz2 ea ⊢
  refine take_ (i := 4) (N := some 20) (v := ?_) (a' := ?_) #[true, true, true, true, true, false, false, false, false] rfl rfl (by kernel_rfl) (fun _ _ _ h => h) (Or.inl ⟨by rfl, ?_⟩) hHeld ?_ ?_
  rotate_left
  · intro w' _
    go_simp
    with_reducible rfl
  rotate_left
  · simp only [Act.put, List.setIfInBounds_toArray, List.set_cons_zero, List.set_cons_succ, i64_w, i32_w]
    rfl
  refine take_ (i := 5) (N := some 21) (v := ?_) (a' := ?_) #[true, true, true, true, true, true, false, false, false] rfl rfl (by kernel_rfl) (fun _ _ _ h => h) (Or.inl ⟨by rfl, ?_⟩) hHeld ?_ ?_
  rotate_left
  · intro w' _
    go_simp
    with_reducible rfl
  rotate_left
  · simp only [Act.put, List.setIfInBounds_toArray, List.set_cons_zero, List.set_cons_succ, i64_w, i32_w]
    rfl
  refine one_ (i := 6) (N := some 22) #[true, true, true, true, true, true, true, false, false] rfl rfl (by kernel_rfl) (by decide) (fun K hK => ?_)
  refine goes_ Tryd.func16 (by kernel_rfl) rfl #[.slice A1 l1.length c1] (by rfl) rfl rfl (by (try simp only [List.map_toArray, List.map_cons, List.map_nil]); first | done | rfl) ?_
  have HRD := Aside0.mk (show Kd.C k45 w.drew A1 l1.length l1 from HR.out)
  with_reducible refine (HF.out _ HRD.out).mono ?_
  rintro e w1 ⟨v1, rfl, hR, hb⟩
  refine ⟨_, rfl, ?_⟩
  obtain ⟨A2, c2, rfl, hc2, hC2⟩ := Kd.R_reads hR
  have C2 := Aside0.mk hC2
  have HC2 := Aside0.mk hc2
  have B1 := Aside0.mk (show Below w.heap.size w w1 from ⟨hb.os, hb.tape, hb.output, hb.size, hb.block⟩)
  clear hR hb hC2 hc2
  refine hK.out _ _ trivial ?_
  intro hHeld
  clear hK K
  refine norm_ (a' := ?_) ?_ ?_
  rotate_left
  · show Act.put _ (some 22) _ = _
    simp only [Act.put, List.setIfInBounds_toArray, List.set_cons_zero, List.set_cons_succ, i64_w, i32_w]
    rfl
  refine take_ (i := 7) (N := some 0) (v := ?_) (a' := ?_) #[true, true, true, true, true, true, true, true, false] rfl rfl (by kernel_rfl) (fun _ _ _ h => h) (Or.inl ⟨by rfl, ?_⟩) hHeld ?_ ?_
  rotate_left
  · intro w' _
    go_simp
    with_reducible rfl
  rotate_left
  · simp only [Act.put, List.setIfInBounds_toArray, List.set_cons_zero, List.set_cons_succ, i64_w, i32_w]
    rfl
  refine take_ (i := 8) (N := some 1) (v := ?_) (a' := ?_) #[true, true, true, true, true, true, true, true, true] rfl rfl (by kernel_rfl) (fun _ _ _ h => h) (Or.inl ⟨by rfl, ?_⟩) hHeld ?_ ?_
  rotate_left
  · intro w' _
    go_simp
    with_reducible rfl
  rotate_left
  · simp only [Act.put, List.setIfInBounds_toArray, List.set_cons_zero, List.set_cons_succ, i64_w, i32_w]
    rfl
  refine done_ (by kernel_rfl) ?_
  clear mz mz2 ea hHeld
  go_wp2_with (first
    | (go_at_call 11; (with_reducible refine (HE.out _).mono ?_); rintro e w2 ⟨rfl, hb⟩; have C3 := Aside0.mk (Kd.C_below C2.out hb); have B2 := Aside0.mk (B1.out.trans (hb.mono B1.out.size)); clear hb)
    | (go_at_call 9; (with_reducible refine (HU.out _).mono ?_); rintro e w3 ⟨rfl, hb⟩; have C4 := Aside0.mk (Kd.C_below C3.out hb); have B3 := Aside0.mk (B2.out.trans (hb.mono B2.out.size)); clear hb))
  have HBY := Aside0.mk (fun j (hj : j < X.size) => bytesWorld_cell w3 5 X j hj)
  have hbB : Below w3.heap.size w3 (bytesWorld w3 5 X) := ⟨rfl, rfl, rfl, by rw [bytesWorld_size]; omega, fun k hk => bytesWorld_at_old w3 5 X k hk⟩
  have C5 := Aside0.mk (Kd.C_below C4.out hbB)
  have B4 := Aside0.mk (B3.out.trans (hbB.mono B3.out.size))
  rw [Lib.run_convert_string_bytes w3 9 56 5 X Tryd.underlying9 Tryd.underlying56 Tryd.underlying5]
  simp only [Result.andThen]
  rw [Oper.upon_value]
  clear hbB
  generalize bytesWorld w3 5 X = wB at HBY C5 B4 ⊢
  generalize grownCap w3 X.size 0 5 = cp
  go_wp2
  go_loopg [41] X.size (fun kq v41 w' => ∃ i : Nat, v41 = .int .i64 i ∧ i ≤ X.size ∧ X.size - i ≤ kq ∧ Aside0 (w' = wB))
  case atStart => exact ⟨0, rfl, Nat.zero_le _, by omega, ⟨rfl⟩⟩
  case round =>
    obtain ⟨i, rfl, hi, hg, HW0⟩ := hrel
    have hW0 := HW0.out
    subst hW0
    clear HW0
    by_cases hlt : i < X.size
    · have hw1 : wrap64 ((i : Int) + 1) = (i : Int) + 1 := wrapU (by have := HXS.out; omega) (by have := HXS.out; omega)
      have hcell := HBY.out i hlt
      have hin := HIN.out i hlt
      generalize X.data.toList.getD i 0 = cb at hcell hin
      obtain ⟨n1, n2, n3, n4⟩ := hin
      have i0 : (0 : Int) ≤ (i : Int) := by omega
      have i1 : (i : Int) < (X.size : Int) := by omega
      go_wp2
      go_roundg (X.size - (i + 1))
      case measure => clear hw1; omega
      case rel => exact ⟨i + 1, by first | rfl | (rw [hw1]; rfl) | go_num, hlt, Nat.le_refl _, ⟨rfl⟩⟩
    · obtain rfl : i = X.size := by omega
      clear hlt hi hg
      have hln : L.length = m.length := by rw [HL.out, List.length_map]
      by_cases h7 : 1024 < L.length
      · have HP2 := Aside0.mk (show urlform_Print.f kp L = some (ofL [], 7) by rw [HP.out]; unfold printR; rw [if_pos (by omega)])
        have h7i : (1024 : Int) < (L.length : Int) := by omega
        clear h7 hln
        go_wp2_with (first
          | (go_at_call 24; (with_reducible refine (urlform_Print.calls kp A2 c2 L _ _ _ C5.out HC2.out HP2.out).mono ?_); rintro e w5 ⟨rfl, hb⟩; have C6 := Aside0.mk (Kd.C_below C5.out hb); have B5 := Aside0.mk (B4.out.trans (hb.mono B4.out.size)); clear hb)
          | (go_at_call 13; (with_reducible refine (racewaylaw26_works.calls 10 true _ works_k).mono ?_); rintro e w9 ⟨rfl, hb⟩; have BF := Aside0.mk (B5.out.trans (hb.mono B5.out.size)); clear hb))
        go_ret
        exact ⟨rfl, BF.out⟩
      · have HP2 := Aside0.mk (show urlform_Print.f kp L = some (ofL (printL m), 0) by rw [HP.out]; unfold printR; rw [if_neg (by omega)])
        have hps := ofL_size (printL m)
        have HPR := Aside0.mk (fun (h : (printL m).length ≤ 65536) => show urlform_Parse.f (ofL (printL m)) = some (L, 0, 0) by rw [parseF, parse_print m (by omega) h, HL.out]; rfl)
        have HSM := Aside0.mk (same_self L (by omega) (show L.length + 1 ≤ 2000 by omega))
        have h7i : (L.length : Int) ≤ 1024 := by omega
        generalize ofL (printL m) = PP at HP2 hps HPR
        rw [← hps] at HPR
        clear h7 hln hps
        by_cases hbig : 65536 < PP.size
        · have hbi : (65536 : Int) < (PP.size : Int) := by omega
          clear hbig
          go_wp2_with (first
            | (go_at_call 24; (with_reducible refine (urlform_Print.calls kp A2 c2 L _ _ _ C5.out HC2.out HP2.out).mono ?_); rintro e w5 ⟨rfl, hb⟩; have C6 := Aside0.mk (Kd.C_below C5.out hb); have B5 := Aside0.mk (B4.out.trans (hb.mono B4.out.size)); clear hb)
            | (go_at_call 13; (with_reducible refine (racewaylaw26_works.calls 10 true _ works_k).mono ?_); rintro e w9 ⟨rfl, hb⟩; have BF := Aside0.mk (B5.out.trans (hb.mono B5.out.size)); clear hb))
          go_ret
          exact ⟨rfl, BF.out⟩
        · have hbi : (PP.size : Int) ≤ 65536 := by omega
          have HPA := Aside0.mk (HPR.out (by omega))
          clear hbig HPR
          go_wp2_with (first
            | (go_at_call 24; (with_reducible refine (urlform_Print.calls kp A2 c2 L _ _ _ C5.out HC2.out HP2.out).mono ?_); rintro e w5 ⟨rfl, hb⟩; have C6 := Aside0.mk (Kd.C_below C5.out hb); have B5 := Aside0.mk (B4.out.trans (hb.mono B4.out.size)); clear hb)
            | (go_at_call 14; (with_reducible refine (urlform_Parse.calls _ _ _ _ _ HPA.out).mono ?_); rintro e w6 ⟨v6, rfl, hR, hb⟩; obtain ⟨A6, c6, rfl, hc6, hC6⟩ := Kd.R_reads hR; have R6 := Aside0.mk hC6; have HC6 := Aside0.mk hc6; have C7 := Aside0.mk (Kd.C_below C6.out hb); have B6 := Aside0.mk (B5.out.trans (hb.mono B5.out.size)); clear hR hb hc6 hC6)
            | (go_at_call 15; (with_reducible refine (racewayref26_Same.calls 2000 A2 c2 L A6 c6 L true _ C7.out HC2.out R6.out HC6.out HSM.out).mono ?_); rintro e w7 ⟨rfl, hd⟩; have B7 := Aside0.mk (B6.out.trans (hd.below.mono B6.out.size)); clear hd)
            | (go_at_call 13; (with_reducible refine (racewaylaw26_works.calls 10 true _ works_k).mono ?_); rintro e w9 ⟨rfl, hb⟩; have BF := Aside0.mk (B7.out.trans (hb.mono B7.out.size)); clear hb))
          go_ret
          exact ⟨rfl, BF.out⟩
end Go.Proofs.YtjampnopogdceaaDoor.P
