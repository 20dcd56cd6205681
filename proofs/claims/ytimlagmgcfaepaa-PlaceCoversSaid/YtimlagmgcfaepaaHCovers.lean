/- The law PlaceCovers, walked by hand: it returns true. No conditions. -/
import Derived.Test.YtimlagmgcfaepaaHCoverA
import Derived.Test.YtimlagmgcfaepaaHKeep
import Derived.Test.YtimlagmgcfaepaaHCoverB
import Derived.Test.YtimlagmgcfaepaaGFind
import Derived.Test.YtimlagmgcfaepaaP3
import Derived.Deep.QuietTactic
import Derived.BigQuiet
import Derived.Deep.LoopGhost
namespace Go.Proofs.Ytimlagmgcfaepaa.P
open Go.RowKit Go.Proofs.YtimlagmgcfaepaaW.PrintWords Go.Proofs.YtimlagmgcfaepaaW.PrintLast Go.Proofs.YtimlagmgcfaepaaW.PrintMore
set_option linter.unusedVariables false
set_option linter.unusedSimpArgs false

theorem one_R (w : World) (x : Rg) : Kd.R k26 26 (w.alloc (.cells #[.int .i64 x.f0, .int .i64 x.f1] 26)) w.heap.size (fun _ => True) (.slice (some ⟨w.heap.size, 0, none⟩) 1 1) [x] := by
  refine ⟨fun _ _ => trivial, [.int .i64 x.f0, .int .i64 x.f1], ⟨rfl, .inr ⟨w.heap.size, 1, #[.int .i64 x.f0, .int .i64 x.f1], rfl, Nat.le_refl _, heap_alloc_new w _, Nat.le_refl _, by decide, rfl, rfl⟩⟩, ⟨rfl, fun j p hj => ?_⟩⟩
  match j, hj with
  | 0, hj => cases hj; exact k26_mkM _ _ _ x
  | j + 1, hj => simp at hj
theorem made_R (w : World) : Kd.R k26 26 (w.drew.alloc (.cells #[] 26)) w.heap.size (fun _ => True) (.slice (some ⟨w.drew.heap.size, 0, none⟩) 0 0) [] :=
  ⟨fun _ _ => trivial, [], ⟨by simp, .inr ⟨w.heap.size, 0, #[], rfl, Nat.le_refl _, heap_alloc_new w.drew _, Nat.le_refl _, Nat.zero_le _, by simp, by simp⟩⟩, ⟨by simp, fun j p hj => by simp at hj⟩⟩
theorem tmodB (n k : Int) (hk : 0 < k) : -k < n.tmod k ∧ n.tmod k < k := ⟨Int.lt_tmod_of_pos n hk, Int.tmod_lt_of_pos n hk⟩
theorem wrapS {x : Int} (h1 : -9223372036854775808 ≤ x) (h2 : x ≤ 9223372036854775807) : wrap64 x = x := by unfold wrap64; omega
theorem modN (n k : Int) (hk : 0 < k) (hk2 : k ≤ 100000) : 0 ≤ (wrap64 (n.tmod k + k)).tmod k ∧ (wrap64 (n.tmod k + k)).tmod k < k := by
  obtain ⟨h1, h2⟩ := tmodB n k hk
  rw [wrapS (x := n.tmod k + k) (by omega) (by omega)]
  have h3 := Int.tmod_nonneg k (a := n.tmod k + k) (by omega)
  have h4 := (tmodB (n.tmod k + k) k hk).2
  exact ⟨h3, h4⟩
theorem coversT (A : Option Addr) (c n : Nat) (l : List Rg) (w : World) (hn : l.length = n) (hr : Kd.C k26 w A l.length l) (hc : l.length ≤ c) (hl : l.length < 1000) (ht : Tiles l) : Calls Try.prog 26 #[.slice A n c] w fun e w' => e = .returned (.bool true) ∧ Below w.heap.size w w' := by
  obtain ⟨k, hk⟩ := Ev.rounds (covers_ev l hl)
  cases hn
  exact place_Covers.calls k A c l true w hr hc (hk.trans (congrArg some (decide_eq_true ht)))
theorem coversF (A : Option Addr) (c n : Nat) (l : List Rg) (w : World) (hn : l.length = n) (hr : Kd.C k26 w A l.length l) (hc : l.length ≤ c) (hl : l.length < 1000) (ht : ¬ Tiles l) : Calls Try.prog 26 #[.slice A n c] w fun e w' => e = .returned (.bool false) ∧ Below w.heap.size w w' := by
  obtain ⟨k, hk⟩ := Ev.rounds (covers_ev l hl)
  cases hn
  exact place_Covers.calls k A c l false w hr hc (hk.trans (congrArg some (decide_eq_false ht)))
theorem blk_putn' {w : World} {g g2 j : Nat} {o : Obj} (h : w.heap[g]? = some o) (hn : g ≠ g2) (u : Value) : (w.setCell ⟨g2, j, none⟩ u).heap[g]? = some o := (Below.heap_setCell w ⟨g2, j, none⟩ u g hn).trans h
theorem int_at {w : World} {A : Option Addr} {xs : List Int} (h : (Kd.int .i64).C w A xs.length xs) {i : Nat} (hi : i < xs.length) : ∃ ad, A = some ad ∧ w.cell? (ad.add i) = some (.int .i64 (xs.getD i 0)) := by
  obtain ⟨ad, c, e, hl, hK, hc⟩ := Kd.C_get h 0 (i : Int) (by omega) (by omega)
  refine ⟨ad, e, ?_⟩
  have hK' : c = [.int .i64 (xs.getD i 0)] := hK
  have h2 := hc 0 (.int .i64 (xs.getD i 0)) (by rw [hK']; rfl)
  simpa [Kd.int, Kd.scalar] using h2
theorem findI_lt (p : Int) : ∀ (l : List Rg) (k : Nat), findI p l = (k : Int) → k < l.length ∧ InP (l.getD k z26) p := by
  intro l
  induction l with
  | nil => intro k h; unfold findI findB at h; simp at h
  | cons x l ih =>
    intro k h
    unfold findI findB at h
    by_cases c : inB x p = true
    · rw [if_pos c] at h
      simp at h
      obtain rfl : k = 0 := by omega
      exact ⟨by simp, (inB_iff x p).1 c⟩
    · rw [if_neg c] at h
      cases hb : findB p l with
      | none => rw [hb] at h; simp at h
      | some m =>
        rw [hb] at h
        simp at h
        obtain rfl : k = m + 1 := by omega
        have h2 := ih m (by unfold findI; rw [hb])
        exact ⟨by simpa using h2.1, by simpa using h2.2⟩
def splitV (x : Rg) (p : Int) : Int × Int × Int × Int × Int := if x.f0 < p then (x.f0, p, p, x.f1, 0) else (0, 0, 0, 0, 2)
theorem splitV_f (x : Rg) (p : Int) (h : InP x p) : place_Split.f x.f0 x.f1 p = some (splitV x p) := by
  unfold place_Split.f splitV
  rw [may_f, (mayB_iff x).2 h.1]
  simp only [Option.bind_some, if_true]
  have h1 := h.2.1
  have h2 := h.2.2
  by_cases c : x.f0 < p
  · rw [if_pos c, if_neg (by omega), if_neg (by omega)]
  · rw [if_neg c, if_pos (by omega)]
set_option maxHeartbeats 8000000 in
set_option maxRecDepth 100000 in
theorem covers.calls (A0 : Option Addr) (c0 : Nat) (l0 : List Int) (which : Int) (w : World) (hr0 : (Kd.int .i64).C w A0 l0.length l0) (hc0 : l0.length ≤ c0) :
    Calls Try.prog 7 #[.slice A0 l0.length c0, .int .i64 which] w fun e w' => e = .returned (.bool true) ∧ Below w.heap.size w w' := by
  have HR0 := Aside0.mk hr0
  have hbig : l0.length ≤ 9223372036854775807 := hr0.2.1
  have HS := Aside0.mk (one_R w ⟨0, 65536⟩)
  have HB0 := Aside0.mk (show Below w.heap.size w (w.alloc (.cells #[.int .i64 0, .int .i64 65536] 26)) from below_alloc (Below.refl _ _) _)
  clear hr0 hc0
  go_enter Try.func7, Try.ntmps7
  go_wp2
  go_loopg [5, 6] l0.length (fun kq v5 v6 w' => ∃ (i : Nat) (L : List Rg), v6 = .int .i64 i ∧ i ≤ l0.length ∧ l0.length - i ≤ kq ∧ i ≤ 30 ∧ L.length ≤ i + 1 ∧ 1 ≤ L.length ∧ Aside0 (Tiles L) ∧ Aside0 (Kd.R k26 26 w' w.heap.size (fun _ => True) v5 L) ∧ Aside0 (Below w.heap.size w w'))
  case atStart => exact ⟨0, [⟨0, 65536⟩], rfl, Nat.zero_le _, by omega, by omega, Nat.le_refl _, Nat.le_refl _, ⟨start_tiles⟩, HS, HB0⟩
  case round =>
    clear HS HB0
    obtain ⟨i, L, rfl, hi, hg, hi30, hLi, hL1, HT, HU, HB⟩ := hrel
    obtain ⟨g, cap, rfl, hgb, hgl, _⟩ := Kd.R_form HU.out hL1
    have hLC := (Kd.R_reads' HU.out).2
    have HLC := Aside0.mk hLC
    by_cases hlt : i < l0.length ∧ i < 30
    · have hltz : (i : Int) < (l0.length : Int) := by omega
      have h30 : (i : Int) < 30 := by omega
      obtain ⟨ad, rfl, hp⟩ := int_at (Kd.C_below HR0.out HB.out) hlt.1
      obtain ⟨p, hpp⟩ : ∃ p, p = l0.getD i 0 := ⟨_, rfl⟩
      rw [← hpp] at hp
      clear hpp
      have hF := fun W hr => place_Find.calls (some ⟨g, 0, none⟩) cap L p (findI p L) W hr HLC.out.1 rfl
      have HF := Aside0.mk hF
      clear hF hLC
      by_cases hneg : findI p L < 0
      · have hout := no_find HT.out hneg
        have f1 : decide (findI p L < 0) = true := decide_eq_true hneg
        by_cases h0 : 0 ≤ p
        · have f2 : decide (0 ≤ p) = true := decide_eq_true h0
          have f3 : decide (p < 65536) = false := decide_eq_false (fun h => hout ⟨h0, h⟩)
          clear hneg h0 hout
          go_wp2_with (go_at_call 23; (with_reducible refine (HF.out _ (Kd.C_below HLC.out.2 (Below.refl _ _))).mono ?_); rintro e1 w1 ⟨rfl, hb1⟩; have B1 := Aside0.mk (HB.out.trans (hb1.mono HB.out.size)); have U1 := Aside0.mk (Kd.R_below HU.out hb1); have hp1 := (hb1.cell (World.block_lt_of_cell? wr _ hp)).trans hp; clear hb1)
          go_roundg (l0.length - (i + 1))
          case measure => omega
          case rel => exact ⟨i + 1, L, by go_num, by omega, by omega, by omega, by omega, hL1, HT, U1, B1⟩
        · have f2 : decide (0 ≤ p) = false := decide_eq_false h0
          clear hneg h0 hout
          go_wp2_with (go_at_call 23; (with_reducible refine (HF.out _ (Kd.C_below HLC.out.2 (Below.refl _ _))).mono ?_); rintro e1 w1 ⟨rfl, hb1⟩; have B1 := Aside0.mk (HB.out.trans (hb1.mono HB.out.size)); have U1 := Aside0.mk (Kd.R_below HU.out hb1); have hp1 := (hb1.cell (World.block_lt_of_cell? wr _ hp)).trans hp; clear hb1)
          go_roundg (l0.length - (i + 1))
          case measure => omega
          case rel => exact ⟨i + 1, L, by go_num, by omega, by omega, by omega, by omega, hL1, HT, U1, B1⟩
      · have f1 : decide (findI p L < 0) = false := decide_eq_false hneg
        obtain ⟨k, hk⟩ : ∃ k : Nat, findI p L = (k : Int) := ⟨(findI p L).toNat, by omega⟩
        obtain ⟨hkl, hin⟩ := findI_lt p L k hk
        rw [hk] at HF f1
        have hkz : (k : Int) < (L.length : Int) := by omega
        clear hneg hk
        go_wp2_with (go_at_call 23; (with_reducible refine (HF.out _ (Kd.C_below HLC.out.2 (Below.refl _ _))).mono ?_); rintro e1 w1 ⟨rfl, hb1⟩; have B1 := Aside0.mk (HB.out.trans (hb1.mono HB.out.size)); have U1 := Aside0.mk (Kd.R_below HU.out hb1); have hp1 := (hb1.cell (World.block_lt_of_cell? wr _ hp)).trans hp; clear hb1)
        have HIN := Aside0.mk hin
        have HKL := Aside0.mk hkl
        obtain ⟨cs, hcl, hM, hcc, _⟩ := Kd.R_elem U1.out z26 (k : Int) (by omega) (by omega)
        obtain ⟨x, hx⟩ : ∃ x, x = L.getD k z26 := ⟨_, rfl⟩
        simp only [Int.toNat_natCast] at hM hcc
        rw [← hx] at hM HIN
        obtain rfl := k26_openM hM
        have s0 : w1.cell? ⟨g, k * 2, none⟩ = some (.int .i64 x.f0) := hcc 0 _ rfl
        have s1 : w1.cell? ⟨g, k * 2 + 1, none⟩ = some (.int .i64 x.f1) := hcc 1 _ rfl
        have HX := Aside0.mk hx
        clear hM hcc hcl hx hin hkl
        obtain ⟨⟨r1, r2, r3, r4, r5⟩, hr⟩ : ∃ r, splitV x p = r := ⟨_, rfl⟩
        have HSP := Aside0.mk (fun W => place_Split.calls x.f0 x.f1 p r1 r2 r3 r4 r5 W (by rw [splitV_f x p HIN.out, hr]))
        have HR := Aside0.mk hr
        clear hr
        have UT := Aside0.mk (Kd.R_tight rfl U1.out)
        refine start_ (n := 18) (S := fun w' => w'.cell? ⟨g, k * 2, none⟩ = some (.int .i64 x.f0) ∧ w'.cell? ⟨g, k * 2 + 1, none⟩ = some (.int .i64 x.f1) ∧ w'.cell? (ad.add i) = some (.int .i64 p)) (ds := [15, 16, 17]) #[false, false, false, false, false, false, false, false, false, false, false, false, false, false, false, false, false, false] (by kernel_rfl) rfl rfl ⟨s0, s1, hp1⟩ (fun hHeld => ?_)
        refine take_ (i := 0) (N := some 46) (v := ?_) (a' := ?_) #[true, false, false, false, false, false, false, false, false, false, false, false, false, false, false, false, false, false] rfl rfl (by kernel_rfl) (fun _ _ _ h => h) (Or.inl ⟨by rfl, ?_⟩) hHeld ?_ ?_
        rotate_left
        · rintro w' ⟨t0, t1, t2⟩
          go_simp
          with_reducible rfl
        rotate_left
        · simp only [Act.put, List.setIfInBounds_toArray, List.set_cons_zero, List.set_cons_succ, i64_w, i32_w]
          rfl
        refine take_ (i := 1) (N := some 47) (v := ?_) (a' := ?_) #[true, true, false, false, false, false, false, false, false, false, false, false, false, false, false, false, false, false] rfl rfl (by kernel_rfl) (fun _ _ _ h => h) (Or.inl ⟨by rfl, ?_⟩) hHeld ?_ ?_
        rotate_left
        · rintro w' ⟨t0, t1, t2⟩
          go_simp
          with_reducible rfl
        rotate_left
        · simp only [Act.put, List.setIfInBounds_toArray, List.set_cons_zero, List.set_cons_succ, i64_w, i32_w]
          rfl
        refine take_ (i := 2) (N := some 48) (v := ?_) (a' := ?_) #[true, true, true, false, false, false, false, false, false, false, false, false, false, false, false, false, false, false] rfl rfl (by kernel_rfl) (fun _ _ _ h => h) (Or.inl ⟨by rfl, ?_⟩) hHeld ?_ ?_
        rotate_left
        · rintro w' ⟨t0, t1, t2⟩
          go_simp
          with_reducible rfl
        rotate_left
        · simp only [Act.put, List.setIfInBounds_toArray, List.set_cons_zero, List.set_cons_succ, i64_w, i32_w]
          rfl
        refine take_ (i := 3) (N := some 49) (v := ?_) (a' := ?_) #[true, true, true, true, false, false, false, false, false, false, false, false, false, false, false, false, false, false] rfl rfl (by kernel_rfl) (fun _ _ _ h => h) (Or.inl ⟨by rfl, ?_⟩) hHeld ?_ ?_
        rotate_left
        · rintro w' ⟨t0, t1, t2⟩
          go_simp
          with_reducible rfl
        rotate_left
        · simp only [Act.put, List.setIfInBounds_toArray, List.set_cons_zero, List.set_cons_succ, i64_w, i32_w]
          rfl
        refine take_ (i := 4) (N := some 50) (v := ?_) (a' := ?_) #[true, true, true, true, true, false, false, false, false, false, false, false, false, false, false, false, false, false] rfl rfl (by kernel_rfl) (fun _ _ _ h => h) (Or.inl ⟨by rfl, ?_⟩) hHeld ?_ ?_
        rotate_left
        · rintro w' ⟨t0, t1, t2⟩
          go_simp
          with_reducible rfl
        rotate_left
        · simp only [Act.put, List.setIfInBounds_toArray, List.set_cons_zero, List.set_cons_succ, i64_w, i32_w]
          rfl
        refine take_ (i := 5) (N := some 51) (v := ?_) (a' := ?_) #[true, true, true, true, true, true, false, false, false, false, false, false, false, false, false, false, false, false] rfl rfl (by kernel_rfl) (fun _ _ _ h => h) (Or.inl ⟨by rfl, ?_⟩) hHeld ?_ ?_
        rotate_left
        · rintro w' ⟨t0, t1, t2⟩
          go_simp
          with_reducible rfl
        rotate_left
        · simp only [Act.put, List.setIfInBounds_toArray, List.set_cons_zero, List.set_cons_succ, i64_w, i32_w]
          rfl
        refine take_ (i := 6) (N := some 52) (v := ?_) (a' := ?_) #[true, true, true, true, true, true, true, false, false, false, false, false, false, false, false, false, false, false] rfl rfl (by kernel_rfl) (fun _ _ _ h => h) (Or.inl ⟨by rfl, ?_⟩) hHeld ?_ ?_
        rotate_left
        · rintro w' ⟨t0, t1, t2⟩
          go_simp
          with_reducible rfl
        rotate_left
        · simp only [Act.put, List.setIfInBounds_toArray, List.set_cons_zero, List.set_cons_succ, i64_w, i32_w]
          rfl
        refine take_ (i := 7) (N := some 53) (v := ?_) (a' := ?_) #[true, true, true, true, true, true, true, true, false, false, false, false, false, false, false, false, false, false] rfl rfl (by kernel_rfl) (fun _ _ _ h => h) (Or.inl ⟨by rfl, ?_⟩) hHeld ?_ ?_
        rotate_left
        · rintro w' ⟨t0, t1, t2⟩
          go_simp
          with_reducible rfl
        rotate_left
        · simp only [Act.put, List.setIfInBounds_toArray, List.set_cons_zero, List.set_cons_succ, i64_w, i32_w]
          rfl
        refine join_ (σ := Nat × Nat) 3 #[true, true, true, true, true, true, true, true, true, true, true, true, true, true, true, false, false, false] (fun (s : Nat × Nat) => [(54, .tuple #[.agg #[.int .i64 r1, .int .i64 r2], .agg #[.int .i64 r3, .int .i64 r4], .int .i64 r5]), (45, .tuple #[.agg #[.int .i64 r1, .int .i64 r2], .agg #[.int .i64 r3, .int .i64 r4], .int .i64 r5]), (55, .agg #[.int .i64 r1, .int .i64 r2]), (56, .agg #[.int .i64 r3, .int .i64 r4]), (57, .int .i64 r5), (8, .pointer (some ⟨s.1, 0, none⟩)), (9, .pointer (some ⟨s.2, 0, none⟩))]) (fun (s : Nat × Nat) (w' : World) => Below w.heap.size w w' ∧ Kd.R k26 26 w' w.heap.size (fun k => some k = (Value.slice (some ⟨g, 0, none⟩) L.length cap).ownBlock) (.slice (some ⟨g, 0, none⟩) L.length cap) L ∧ w'.heap[s.1]? = some (.cells #[.int .i64 0, .int .i64 0] 26 (0, 0)) ∧ w'.heap[s.2]? = some (.cells #[.int .i64 0, .int .i64 0] 26 (0, 0)) ∧ s.1 ≠ s.2 ∧ w.heap.size ≤ s.1 ∧ w.heap.size ≤ s.2 ∧ s.1 ≠ g ∧ s.2 ≠ g) ?_ (fun hj => ?_)
        · rintro ⟨g1, g2⟩ w3 ⟨hB, hU, hK1, hK2, hne, hg1, hg2, hg1g, hg2g⟩
          simp only at hK1 hK2 hne hg1 hg2 hg1g hg2g
          have B3 := Aside0.mk hB
          have U3 := Aside0.mk hU
          have K1 := Aside0.mk hK1
          have K2 := Aside0.mk hK2
          have kz10 : w3.cell? ⟨g1, 0, none⟩ = some (.int .i64 0) := (blk_cell hK1 0).trans rfl
          have kz11 : w3.cell? ⟨g1, 1, none⟩ = some (.int .i64 0) := (blk_cell hK1 1).trans rfl
          have kf10 := blk_frozen hK1 0
          have kf11 := blk_frozen hK1 1
          have kz20 : w3.cell? ⟨g2, 0, none⟩ = some (.int .i64 0) := (blk_cell hK2 0).trans rfl
          have kz21 : w3.cell? ⟨g2, 1, none⟩ = some (.int .i64 0) := (blk_cell hK2 1).trans rfl
          have kf20 := blk_frozen hK2 0
          have kf21 := blk_frozen hK2 1
          have hne2 := hne.symm
          clear hB hU hK1 hK2
          refine norm_ (a' := ?_) ?_ ?_
          rotate_left
          · simp only [putAll, Act.put, List.setIfInBounds_toArray, List.set_cons_zero, List.set_cons_succ]
            rfl
          refine last_ (i := 15) (N := none) #[true, true, true, true, true, true, true, true, true, true, true, true, true, true, true, true, false, false] rfl rfl (by kernel_rfl) (by decide) (fun K hK => ?_)
          refine skip_ (w1 := ((w3.setCell ⟨g1, 0, none⟩ (.int .i64 r1)).setCell ⟨g1, 1, none⟩ (.int .i64 r2))) (by rfl) rfl (by first | (go_simp; done) | (go_simp; rfl)) ?_
          refine hK.out _ _ ?_
          clear hK K
          refine last_ (i := 16) (N := none) #[true, true, true, true, true, true, true, true, true, true, true, true, true, true, true, true, true, false] rfl rfl (by kernel_rfl) (by decide) (fun K hK => ?_)
          refine skip_ (w1 := ((((w3.setCell ⟨g1, 0, none⟩ (.int .i64 r1)).setCell ⟨g1, 1, none⟩ (.int .i64 r2)).setCell ⟨g2, 0, none⟩ (.int .i64 r3)).setCell ⟨g2, 1, none⟩ (.int .i64 r4))) (by rfl) rfl (by first | (go_simp; done) | (go_simp; rfl)) ?_
          refine hK.out _ _ ?_
          clear hK K
          refine pure_ (i := 17) (N := some 10) (v := ?_) (a' := ?_) #[true, true, true, true, true, true, true, true, true, true, true, true, true, true, true, true, true, true] rfl rfl (by kernel_rfl) (fun _ _ _ h => h) (Or.inl ⟨by rfl, ?_⟩) ?_ ?_
          rotate_left
          · intro w'
            go_simp
            with_reducible rfl
          rotate_left
          · simp only [Act.put, List.setIfInBounds_toArray, List.set_cons_zero, List.set_cons_succ, i64_w, i32_w]
            rfl
          refine done_ (by kernel_rfl) ?_
          have KG1 := Aside0.mk (show ((((w3.setCell ⟨g1, 0, none⟩ (.int .i64 r1)).setCell ⟨g1, 1, none⟩ (.int .i64 r2)).setCell ⟨g2, 0, none⟩ (.int .i64 r3)).setCell ⟨g2, 1, none⟩ (.int .i64 r4)).heap[g1]? = some (.cells #[.int .i64 r1, .int .i64 r2] 26 (0, 0)) from blk_putn' (blk_putn' (blk_put (cs := #[.int .i64 r1, .int .i64 0]) (blk_put (cs := #[.int .i64 0, .int .i64 0]) K1.out 0 _ rfl) 1 _ rfl) hne _) hne _)
          have KG2 := Aside0.mk (show ((((w3.setCell ⟨g1, 0, none⟩ (.int .i64 r1)).setCell ⟨g1, 1, none⟩ (.int .i64 r2)).setCell ⟨g2, 0, none⟩ (.int .i64 r3)).setCell ⟨g2, 1, none⟩ (.int .i64 r4)).heap[g2]? = some (.cells #[.int .i64 r3, .int .i64 r4] 26 (0, 0)) from blk_put (cs := #[.int .i64 r3, .int .i64 0]) (blk_put (cs := #[.int .i64 0, .int .i64 0]) (blk_putn' (blk_putn' K2.out hne2 _) hne2 _) 0 _ rfl) 1 _ rfl)
          have hgk : ∀ k_ : Nat, some k_ = (Value.slice (some ⟨g, 0, none⟩) L.length cap).ownBlock → k_ = g := fun k_ h_ => Option.some.inj h_
          have U4 := Aside0.mk (show Kd.R k26 26 ((((w3.setCell ⟨g1, 0, none⟩ (.int .i64 r1)).setCell ⟨g1, 1, none⟩ (.int .i64 r2)).setCell ⟨g2, 0, none⟩ (.int .i64 r3)).setCell ⟨g2, 1, none⟩ (.int .i64 r4)) w.heap.size (fun _ => True) (.slice (some ⟨g, 0, none⟩) L.length cap) L from Kd.R_mono (Kd.R_far (Kd.R_far (Kd.R_far (Kd.R_far U3.out (fun k_ h_ => by rw [hgk k_ h_]; exact hg1g.symm) _) (fun k_ h_ => by rw [hgk k_ h_]; exact hg1g.symm) _) (fun k_ h_ => by rw [hgk k_ h_]; exact hg2g.symm) _) (fun k_ h_ => by rw [hgk k_ h_]; exact hg2g.symm) _) (fun _ _ => trivial))
          have B4 := Aside0.mk (show Below w.heap.size w ((((w3.setCell ⟨g1, 0, none⟩ (.int .i64 r1)).setCell ⟨g1, 1, none⟩ (.int .i64 r2)).setCell ⟨g2, 0, none⟩ (.int .i64 r3)).setCell ⟨g2, 1, none⟩ (.int .i64 r4)) from below_set (below_set (below_set (below_set B3.out hg1) hg1) hg2) hg2)
          generalize ((((w3.setCell ⟨g1, 0, none⟩ (.int .i64 r1)).setCell ⟨g1, 1, none⟩ (.int .i64 r2)).setCell ⟨g2, 0, none⟩ (.int .i64 r3)).setCell ⟨g2, 1, none⟩ (.int .i64 r4)) = w4 at KG1 KG2 U4 B4 ⊢
          clear kz10 kz11 kz20 kz21 kf10 kf11 kf20 kf21 K1 K2 U3 B3 hgk
          have k10 : w4.cell? ⟨g1, 0, none⟩ = some (.int .i64 r1) := (blk_cell KG1.out 0).trans rfl
          have k11 : w4.cell? ⟨g1, 1, none⟩ = some (.int .i64 r2) := (blk_cell KG1.out 1).trans rfl
          have hr := HR.out
          unfold splitV at hr
          by_cases cx : x.f0 < p
          · rw [if_pos cx] at hr
            simp only [Prod.mk.injEq] at hr
            obtain ⟨rfl, rfl, rfl, rfl, rfl⟩ := hr
            have HXO := Aside0.mk HX.out
            have HT2 := Aside0.mk (show Tiles (L.set k ⟨x.f0, p⟩ ++ [⟨p, x.f1⟩]) by have h_ := part_tiles HT.out HKL.out z26 (p := p) (by rw [← HX.out]; exact cx) (by rw [← HX.out]; exact HIN.out.2.2); rw [← HX.out] at h_; exact h_)
            obtain ⟨cs4, hcl4, hM4, hcc4, _⟩ := Kd.R_elem U4.out z26 (k : Int) (by omega) (by omega)
            have hM5 := k26_openM hM4
            rw [Int.toNat_natCast, ← HX.out] at hM5
            subst hM5
            have HCC := Aside0.mk hcc4
            clear hcc4 hM4 hcl4
            go_wp2_with (first | (go_at_call 26; (with_reducible refine (coversT A6 c6 (L.length + 1) _ _ (by simp) R6.out C6.out (by simp; omega) HT2.out).mono ?_); rintro e1 w7 ⟨rfl, hb7⟩; have U7 := Aside0.mk (Kd.R_below U6.out hb7); have B7 := Aside0.mk (B6.out.trans (hb7.mono B6.out.size)); clear hb7) | (at_builtin; refine Kd.R_append k26 (w0 := w) w.heap.size rfl _ _ 36 26 (.agg #[(.int .i64 0), (.int .i64 0)]) 16 rfl Try.underlying36 info26 rfl (by decide) (by omega) (.slice (some ⟨g, 0, none⟩) L.length cap) (L.set k ⟨x.f0, p⟩) ⟨p, x.f1⟩ [.int .i64 p, .int .i64 x.f1] (fun _ => True) (fun _ => False) rfl rfl (k26_mkM _ _ _ ⟨p, x.f1⟩) (fun _ h => h.elim) (fun _ _ => trivial) U5.out B5.out B5.out.size (by simp; omega) ?_; intro v6 w6 hU6 hB6 _ _; obtain ⟨A6, c6, rfl, hc6, hr6⟩ := Kd.R_reads hU6; have U6 := Aside0.mk hU6; have B6 := Aside0.mk hB6; have C6 := Aside0.mk hc6; have R6 := Aside0.mk hr6; clear hU6 hB6 hc6 hr6) | (refine Kd.R_store k26 (w0 := w) w.heap.size rfl rfl 26 _ _ rfl 26 (k : Int) 0 L ⟨x.f0, p⟩ (.agg #[.int .i64 x.f0, .int .i64 p]) [.int .i64 x.f0, .int .i64 p] [.int .i64 x.f0, .int .i64 x.f1] (fun _ => True) (fun _ => False) rfl (by rw [Int.toNat_natCast]; rfl) rfl rfl (by kernel_rfl) (by simp [Value.oneCell']) U4.out (by omega) hkz rfl HCC.out (Nat.le_refl 2) (k26_mkM _ _ _ ⟨x.f0, p⟩) (fun _ h => h.elim) B4.out ?_; intro w5 hU5 hB5 hG5; rw [Int.toNat_natCast] at hU5; have U5 := Aside0.mk hU5; have B5 := Aside0.mk hB5; have KG5 := Aside0.mk ((hG5.block g2 (blk_lt KG2.out) (fun e => hg2g (Option.some.inj e))).trans KG2.out); have k50 : w5.cell? ⟨g2, 0, none⟩ = some (.int .i64 p) := (blk_cell KG5.out 0).trans rfl; have k51 : w5.cell? ⟨g2, 1, none⟩ = some (.int .i64 x.f1) := (blk_cell KG5.out 1).trans rfl; clear hU5 hB5 hG5))
            go_roundg (l0.length - (i + 1))
            case measure => omega
            case rel => exact ⟨i + 1, L.set k ⟨x.f0, p⟩ ++ [⟨p, x.f1⟩], by go_num, by omega, by omega, by omega, by simp; omega, by simp, HT2, ⟨by have h_ := U7.out; simp only [List.length_append, List.length_set, List.length_singleton] at h_; exact h_⟩, B7⟩
          · rw [if_neg cx] at hr
            simp only [Prod.mk.injEq] at hr
            obtain ⟨rfl, rfl, rfl, rfl, rfl⟩ := hr
            go_wp2_with (go_at_call 26; (with_reducible refine (coversT (some ⟨g, 0, none⟩) cap L.length L _ rfl (Kd.R_reads' U4.out).2.2 HLC.out.1 (by omega) HT.out).mono ?_); rintro e1 w7 ⟨rfl, hb7⟩; have U7 := Aside0.mk (Kd.R_below U4.out hb7); have B7 := Aside0.mk (B4.out.trans (hb7.mono B4.out.size)); clear hb7)
            go_roundg (l0.length - (i + 1))
            case measure => omega
            case rel => exact ⟨i + 1, L, by go_num, by omega, by omega, by omega, by omega, hL1, HT, U7, B7⟩
        · have B_0 := Aside0.mk (show Below w.heap.size w w1.drew from ⟨B1.out.os, B1.out.tape, B1.out.output, B1.out.size, B1.out.block⟩)
          have U_0 := Aside0.mk (Kd.R_drew UT.out)
          have S0_0 := Aside0.mk hHeld.1
          have S1_0 := Aside0.mk hHeld.2.1
          have S2_0 := Aside0.mk hHeld.2.2
          refine three_ (i := 8) (j := 13) (k := 14) (Ni := some 54) (Nj := some 8) (Nk := some 9) #[true, true, true, true, true, true, true, true, true, false, false, false, false, false, false, false, false, false] #[true, true, true, true, true, true, true, true, false, false, false, false, false, true, false, false, false, false] #[true, true, true, true, true, true, true, true, false, false, false, false, false, false, true, false, false, false] rfl rfl rfl rfl rfl rfl (by kernel_rfl) (by decide) (by decide) (by decide) (fun K hK => ?_) (fun K hK => ?_) (fun K hK => ?_)
          · refine goes_ Try.func13 (by kernel_rfl) rfl #[.agg #[.int .i64 x.f0, .int .i64 x.f1], .int .i64 p] (by rfl) rfl rfl (by (try simp only [List.map_toArray, List.map_cons, List.map_nil]); first | done | rfl) ?_
            with_reducible refine (HSP.out _).mono ?_
            rintro e1 y_1 ⟨rfl, hb⟩
            refine ⟨_, rfl, ?_⟩
            have B_1 := Aside0.mk (show Below w.heap.size w y_1 from B_0.out.trans (hb.mono B_0.out.size))
            have U_1 := Aside0.mk (show Kd.R k26 26 y_1 w.heap.size (fun k => some k = (Value.slice (some ⟨g, 0, none⟩) L.length cap).ownBlock) (.slice (some ⟨g, 0, none⟩) L.length cap) L from Kd.R_below U_0.out hb)
            have S0_1 := Aside0.mk ((hb.cell (World.block_lt_of_cell? w1.drew ⟨g, k * 2, none⟩ S0_0.out)).trans S0_0.out)
            have S1_1 := Aside0.mk ((hb.cell (World.block_lt_of_cell? w1.drew ⟨g, k * 2 + 1, none⟩ S1_0.out)).trans S1_0.out)
            have S2_1 := Aside0.mk ((hb.cell (World.block_lt_of_cell? w1.drew (ad.add i) S2_0.out)).trans S2_0.out)
            refine hK.out _ _ ⟨S0_1.out, S1_1.out, S2_1.out⟩ ?_
            intro hHeld
            clear hK K hb
            refine norm_ (a' := ?_) ?_ ?_
            rotate_left
            · show Act.put _ (some 54) _ = _
              simp only [Act.put, List.setIfInBounds_toArray, List.set_cons_zero, List.set_cons_succ, i64_w, i32_w]
              rfl
            refine pure_ (i := 9) (N := some 45) (v := ?_) (a' := ?_) #[true, true, true, true, true, true, true, true, true, true, false, false, false, false, false, false, false, false] rfl rfl (by kernel_rfl) (fun _ _ _ h => h) (Or.inl ⟨by rfl, ?_⟩) ?_ ?_
            rotate_left
            · intro w'
              go_simp
              with_reducible rfl
            rotate_left
            · simp only [Act.put, List.setIfInBounds_toArray, List.set_cons_zero, List.set_cons_succ, i64_w, i32_w]
              rfl
            refine pure_ (i := 10) (N := some 55) (v := ?_) (a' := ?_) #[true, true, true, true, true, true, true, true, true, true, true, false, false, false, false, false, false, false] rfl rfl (by kernel_rfl) (fun _ _ _ h => h) (Or.inl ⟨by rfl, ?_⟩) ?_ ?_
            rotate_left
            · intro w'
              go_simp
              with_reducible rfl
            rotate_left
            · simp only [Act.put, List.setIfInBounds_toArray, List.set_cons_zero, List.set_cons_succ, i64_w, i32_w]
              rfl
            refine pure_ (i := 11) (N := some 56) (v := ?_) (a' := ?_) #[true, true, true, true, true, true, true, true, true, true, true, true, false, false, false, false, false, false] rfl rfl (by kernel_rfl) (fun _ _ _ h => h) (Or.inl ⟨by rfl, ?_⟩) ?_ ?_
            rotate_left
            · intro w'
              go_simp
              with_reducible rfl
            rotate_left
            · simp only [Act.put, List.setIfInBounds_toArray, List.set_cons_zero, List.set_cons_succ, i64_w, i32_w]
              rfl
            refine pure_ (i := 12) (N := some 57) (v := ?_) (a' := ?_) #[true, true, true, true, true, true, true, true, true, true, true, true, true, false, false, false, false, false] rfl rfl (by kernel_rfl) (fun _ _ _ h => h) (Or.inl ⟨by rfl, ?_⟩) ?_ ?_
            rotate_left
            · intro w'
              go_simp
              with_reducible rfl
            rotate_left
            · simp only [Act.put, List.setIfInBounds_toArray, List.set_cons_zero, List.set_cons_succ, i64_w, i32_w]
              rfl
            refine two_ (i := 13) (j := 14) (Ni := some 8) (Nj := some 9) #[true, true, true, true, true, true, true, true, true, true, true, true, true, true, false, false, false, false] #[true, true, true, true, true, true, true, true, true, true, true, true, true, false, true, false, false, false] rfl rfl rfl rfl (by kernel_rfl) (by decide) (by decide) (fun K hK => ?_) (fun K hK => ?_)
            · refine value_ (w1 := (y_1.alloc (.cells #[.int .i64 0, .int .i64 0] 26))) (v := .pointer (some ⟨y_1.heap.size, 0, none⟩)) (by rfl) rfl (by first | (go_simp; done) | (go_simp; rfl)) ?_
              have hb := below_alloc (Below.refl y_1.heap.size y_1) (.cells #[.int .i64 0, .int .i64 0] 26)
              have B_2 := Aside0.mk (show Below w.heap.size w (y_1.alloc (.cells #[.int .i64 0, .int .i64 0] 26)) from B_1.out.trans (hb.mono B_1.out.size))
              have U_2 := Aside0.mk (show Kd.R k26 26 (y_1.alloc (.cells #[.int .i64 0, .int .i64 0] 26)) w.heap.size (fun k => some k = (Value.slice (some ⟨g, 0, none⟩) L.length cap).ownBlock) (.slice (some ⟨g, 0, none⟩) L.length cap) L from Kd.R_below U_1.out hb)
              have S0_2 := Aside0.mk ((hb.cell (World.block_lt_of_cell? y_1 ⟨g, k * 2, none⟩ S0_1.out)).trans S0_1.out)
              have S1_2 := Aside0.mk ((hb.cell (World.block_lt_of_cell? y_1 ⟨g, k * 2 + 1, none⟩ S1_1.out)).trans S1_1.out)
              have S2_2 := Aside0.mk ((hb.cell (World.block_lt_of_cell? y_1 (ad.add i) S2_1.out)).trans S2_1.out)
              have KG13_2 := Aside0.mk (show (y_1.alloc (.cells #[.int .i64 0, .int .i64 0] 26)).heap[y_1.heap.size]? = some (.cells #[.int .i64 0, .int .i64 0] 26 (0, 0)) from heap_alloc_new _ _)
              have LT13_2 := Aside0.mk (show w.heap.size ≤ y_1.heap.size ∧ g < y_1.heap.size ∧ y_1.heap.size < (y_1.alloc (.cells #[.int .i64 0, .int .i64 0] 26)).heap.size from ⟨B_1.out.size, Kd.R_lt U_1.out g rfl, by simp⟩)
              refine hK.out _ _ ⟨S0_2.out, S1_2.out, S2_2.out⟩ ?_
              intro hHeld
              clear hK K hb
              refine norm_ (a' := ?_) ?_ ?_
              rotate_left
              · show Act.put _ (some 8) _ = _
                simp only [Act.put, List.setIfInBounds_toArray, List.set_cons_zero, List.set_cons_succ, i64_w, i32_w]
                rfl
              refine one_ (i := 14) (N := some 9) #[true, true, true, true, true, true, true, true, true, true, true, true, true, true, true, false, false, false] rfl rfl (by kernel_rfl) (by decide) (fun K hK => ?_)
              refine value_ (w1 := ((y_1.alloc (.cells #[.int .i64 0, .int .i64 0] 26)).alloc (.cells #[.int .i64 0, .int .i64 0] 26))) (v := .pointer (some ⟨(y_1.alloc (.cells #[.int .i64 0, .int .i64 0] 26)).heap.size, 0, none⟩)) (by rfl) rfl (by first | (go_simp; done) | (go_simp; rfl)) ?_
              have hb := below_alloc (Below.refl (y_1.alloc (.cells #[.int .i64 0, .int .i64 0] 26)).heap.size (y_1.alloc (.cells #[.int .i64 0, .int .i64 0] 26))) (.cells #[.int .i64 0, .int .i64 0] 26)
              have B_3 := Aside0.mk (show Below w.heap.size w ((y_1.alloc (.cells #[.int .i64 0, .int .i64 0] 26)).alloc (.cells #[.int .i64 0, .int .i64 0] 26)) from B_2.out.trans (hb.mono B_2.out.size))
              have U_3 := Aside0.mk (show Kd.R k26 26 ((y_1.alloc (.cells #[.int .i64 0, .int .i64 0] 26)).alloc (.cells #[.int .i64 0, .int .i64 0] 26)) w.heap.size (fun k => some k = (Value.slice (some ⟨g, 0, none⟩) L.length cap).ownBlock) (.slice (some ⟨g, 0, none⟩) L.length cap) L from Kd.R_below U_2.out hb)
              have S0_3 := Aside0.mk ((hb.cell (World.block_lt_of_cell? (y_1.alloc (.cells #[.int .i64 0, .int .i64 0] 26)) ⟨g, k * 2, none⟩ S0_2.out)).trans S0_2.out)
              have S1_3 := Aside0.mk ((hb.cell (World.block_lt_of_cell? (y_1.alloc (.cells #[.int .i64 0, .int .i64 0] 26)) ⟨g, k * 2 + 1, none⟩ S1_2.out)).trans S1_2.out)
              have S2_3 := Aside0.mk ((hb.cell (World.block_lt_of_cell? (y_1.alloc (.cells #[.int .i64 0, .int .i64 0] 26)) (ad.add i) S2_2.out)).trans S2_2.out)
              have KG13_3 := Aside0.mk (blk_below KG13_2.out hb)
              have LT13_3 := Aside0.mk (show w.heap.size ≤ y_1.heap.size ∧ g < y_1.heap.size ∧ y_1.heap.size < ((y_1.alloc (.cells #[.int .i64 0, .int .i64 0] 26)).alloc (.cells #[.int .i64 0, .int .i64 0] 26)).heap.size from ⟨LT13_2.out.1, LT13_2.out.2.1, Nat.lt_of_lt_of_le LT13_2.out.2.2 hb.size⟩)
              have KG14_3 := Aside0.mk (show ((y_1.alloc (.cells #[.int .i64 0, .int .i64 0] 26)).alloc (.cells #[.int .i64 0, .int .i64 0] 26)).heap[(y_1.alloc (.cells #[.int .i64 0, .int .i64 0] 26)).heap.size]? = some (.cells #[.int .i64 0, .int .i64 0] 26 (0, 0)) from heap_alloc_new _ _)
              have LT14_3 := Aside0.mk (show w.heap.size ≤ (y_1.alloc (.cells #[.int .i64 0, .int .i64 0] 26)).heap.size ∧ g < (y_1.alloc (.cells #[.int .i64 0, .int .i64 0] 26)).heap.size ∧ (y_1.alloc (.cells #[.int .i64 0, .int .i64 0] 26)).heap.size < ((y_1.alloc (.cells #[.int .i64 0, .int .i64 0] 26)).alloc (.cells #[.int .i64 0, .int .i64 0] 26)).heap.size from ⟨B_2.out.size, Kd.R_lt U_2.out g rfl, by simp⟩)
              have NE_3 := Aside0.mk (show y_1.heap.size < (y_1.alloc (.cells #[.int .i64 0, .int .i64 0] 26)).heap.size from LT13_2.out.2.2)
              refine hK.out _ _ ⟨S0_3.out, S1_3.out, S2_3.out⟩ ?_
              intro hHeld
              clear hK K hb
              refine norm_ (a' := ?_) ?_ ?_
              rotate_left
              · show Act.put _ (some 9) _ = _
                simp only [Act.put, List.setIfInBounds_toArray, List.set_cons_zero, List.set_cons_succ, i64_w, i32_w]
                rfl
              refine norm_ ?_ (hj (y_1.heap.size, (y_1.alloc (.cells #[.int .i64 0, .int .i64 0] 26)).heap.size) _ ⟨B_3.out, U_3.out, KG13_3.out, KG14_3.out, ?_, ?_, ?_, ?_, ?_⟩)
              · simp only [putAll, Act.put, List.setIfInBounds_toArray, List.set_cons_zero, List.set_cons_succ]
              · exact Nat.ne_of_lt NE_3.out
              · exact LT13_3.out.1
              · exact LT14_3.out.1
              · exact (Nat.ne_of_lt LT13_3.out.2.1).symm
              · exact (Nat.ne_of_lt LT14_3.out.2.1).symm
            · refine value_ (w1 := (y_1.alloc (.cells #[.int .i64 0, .int .i64 0] 26))) (v := .pointer (some ⟨y_1.heap.size, 0, none⟩)) (by rfl) rfl (by first | (go_simp; done) | (go_simp; rfl)) ?_
              have hb := below_alloc (Below.refl y_1.heap.size y_1) (.cells #[.int .i64 0, .int .i64 0] 26)
              have B_4 := Aside0.mk (show Below w.heap.size w (y_1.alloc (.cells #[.int .i64 0, .int .i64 0] 26)) from B_1.out.trans (hb.mono B_1.out.size))
              have U_4 := Aside0.mk (show Kd.R k26 26 (y_1.alloc (.cells #[.int .i64 0, .int .i64 0] 26)) w.heap.size (fun k => some k = (Value.slice (some ⟨g, 0, none⟩) L.length cap).ownBlock) (.slice (some ⟨g, 0, none⟩) L.length cap) L from Kd.R_below U_1.out hb)
              have S0_4 := Aside0.mk ((hb.cell (World.block_lt_of_cell? y_1 ⟨g, k * 2, none⟩ S0_1.out)).trans S0_1.out)
              have S1_4 := Aside0.mk ((hb.cell (World.block_lt_of_cell? y_1 ⟨g, k * 2 + 1, none⟩ S1_1.out)).trans S1_1.out)
              have S2_4 := Aside0.mk ((hb.cell (World.block_lt_of_cell? y_1 (ad.add i) S2_1.out)).trans S2_1.out)
              have KG14_4 := Aside0.mk (show (y_1.alloc (.cells #[.int .i64 0, .int .i64 0] 26)).heap[y_1.heap.size]? = some (.cells #[.int .i64 0, .int .i64 0] 26 (0, 0)) from heap_alloc_new _ _)
              have LT14_4 := Aside0.mk (show w.heap.size ≤ y_1.heap.size ∧ g < y_1.heap.size ∧ y_1.heap.size < (y_1.alloc (.cells #[.int .i64 0, .int .i64 0] 26)).heap.size from ⟨B_1.out.size, Kd.R_lt U_1.out g rfl, by simp⟩)
              refine hK.out _ _ ⟨S0_4.out, S1_4.out, S2_4.out⟩ ?_
              intro hHeld
              clear hK K hb
              refine norm_ (a' := ?_) ?_ ?_
              rotate_left
              · show Act.put _ (some 9) _ = _
                simp only [Act.put, List.setIfInBounds_toArray, List.set_cons_zero, List.set_cons_succ, i64_w, i32_w]
                rfl
              refine one_ (i := 13) (N := some 8) #[true, true, true, true, true, true, true, true, true, true, true, true, true, true, true, false, false, false] rfl rfl (by kernel_rfl) (by decide) (fun K hK => ?_)
              refine value_ (w1 := ((y_1.alloc (.cells #[.int .i64 0, .int .i64 0] 26)).alloc (.cells #[.int .i64 0, .int .i64 0] 26))) (v := .pointer (some ⟨(y_1.alloc (.cells #[.int .i64 0, .int .i64 0] 26)).heap.size, 0, none⟩)) (by rfl) rfl (by first | (go_simp; done) | (go_simp; rfl)) ?_
              have hb := below_alloc (Below.refl (y_1.alloc (.cells #[.int .i64 0, .int .i64 0] 26)).heap.size (y_1.alloc (.cells #[.int .i64 0, .int .i64 0] 26))) (.cells #[.int .i64 0, .int .i64 0] 26)
              have B_5 := Aside0.mk (show Below w.heap.size w ((y_1.alloc (.cells #[.int .i64 0, .int .i64 0] 26)).alloc (.cells #[.int .i64 0, .int .i64 0] 26)) from B_4.out.trans (hb.mono B_4.out.size))
              have U_5 := Aside0.mk (show Kd.R k26 26 ((y_1.alloc (.cells #[.int .i64 0, .int .i64 0] 26)).alloc (.cells #[.int .i64 0, .int .i64 0] 26)) w.heap.size (fun k => some k = (Value.slice (some ⟨g, 0, none⟩) L.length cap).ownBlock) (.slice (some ⟨g, 0, none⟩) L.length cap) L from Kd.R_below U_4.out hb)
              have S0_5 := Aside0.mk ((hb.cell (World.block_lt_of_cell? (y_1.alloc (.cells #[.int .i64 0, .int .i64 0] 26)) ⟨g, k * 2, none⟩ S0_4.out)).trans S0_4.out)
              have S1_5 := Aside0.mk ((hb.cell (World.block_lt_of_cell? (y_1.alloc (.cells #[.int .i64 0, .int .i64 0] 26)) ⟨g, k * 2 + 1, none⟩ S1_4.out)).trans S1_4.out)
              have S2_5 := Aside0.mk ((hb.cell (World.block_lt_of_cell? (y_1.alloc (.cells #[.int .i64 0, .int .i64 0] 26)) (ad.add i) S2_4.out)).trans S2_4.out)
              have KG14_5 := Aside0.mk (blk_below KG14_4.out hb)
              have LT14_5 := Aside0.mk (show w.heap.size ≤ y_1.heap.size ∧ g < y_1.heap.size ∧ y_1.heap.size < ((y_1.alloc (.cells #[.int .i64 0, .int .i64 0] 26)).alloc (.cells #[.int .i64 0, .int .i64 0] 26)).heap.size from ⟨LT14_4.out.1, LT14_4.out.2.1, Nat.lt_of_lt_of_le LT14_4.out.2.2 hb.size⟩)
              have KG13_5 := Aside0.mk (show ((y_1.alloc (.cells #[.int .i64 0, .int .i64 0] 26)).alloc (.cells #[.int .i64 0, .int .i64 0] 26)).heap[(y_1.alloc (.cells #[.int .i64 0, .int .i64 0] 26)).heap.size]? = some (.cells #[.int .i64 0, .int .i64 0] 26 (0, 0)) from heap_alloc_new _ _)
              have LT13_5 := Aside0.mk (show w.heap.size ≤ (y_1.alloc (.cells #[.int .i64 0, .int .i64 0] 26)).heap.size ∧ g < (y_1.alloc (.cells #[.int .i64 0, .int .i64 0] 26)).heap.size ∧ (y_1.alloc (.cells #[.int .i64 0, .int .i64 0] 26)).heap.size < ((y_1.alloc (.cells #[.int .i64 0, .int .i64 0] 26)).alloc (.cells #[.int .i64 0, .int .i64 0] 26)).heap.size from ⟨B_4.out.size, Kd.R_lt U_4.out g rfl, by simp⟩)
              have NE_5 := Aside0.mk (show y_1.heap.size < (y_1.alloc (.cells #[.int .i64 0, .int .i64 0] 26)).heap.size from LT14_4.out.2.2)
              refine hK.out _ _ ⟨S0_5.out, S1_5.out, S2_5.out⟩ ?_
              intro hHeld
              clear hK K hb
              refine norm_ (a' := ?_) ?_ ?_
              rotate_left
              · show Act.put _ (some 8) _ = _
                simp only [Act.put, List.setIfInBounds_toArray, List.set_cons_zero, List.set_cons_succ, i64_w, i32_w]
                rfl
              refine norm_ ?_ (hj ((y_1.alloc (.cells #[.int .i64 0, .int .i64 0] 26)).heap.size, y_1.heap.size) _ ⟨B_5.out, U_5.out, KG13_5.out, KG14_5.out, ?_, ?_, ?_, ?_, ?_⟩)
              · simp only [putAll, Act.put, List.setIfInBounds_toArray, List.set_cons_zero, List.set_cons_succ]
              · exact (Nat.ne_of_lt NE_5.out).symm
              · exact LT13_5.out.1
              · exact LT14_5.out.1
              · exact (Nat.ne_of_lt LT13_5.out.2.1).symm
              · exact (Nat.ne_of_lt LT14_5.out.2.1).symm
          · refine value_ (w1 := (w1.drew.alloc (.cells #[.int .i64 0, .int .i64 0] 26))) (v := .pointer (some ⟨w1.drew.heap.size, 0, none⟩)) (by rfl) rfl (by first | (go_simp; done) | (go_simp; rfl)) ?_
            have hb := below_alloc (Below.refl w1.drew.heap.size w1.drew) (.cells #[.int .i64 0, .int .i64 0] 26)
            have B_6 := Aside0.mk (show Below w.heap.size w (w1.drew.alloc (.cells #[.int .i64 0, .int .i64 0] 26)) from B_0.out.trans (hb.mono B_0.out.size))
            have U_6 := Aside0.mk (show Kd.R k26 26 (w1.drew.alloc (.cells #[.int .i64 0, .int .i64 0] 26)) w.heap.size (fun k => some k = (Value.slice (some ⟨g, 0, none⟩) L.length cap).ownBlock) (.slice (some ⟨g, 0, none⟩) L.length cap) L from Kd.R_below U_0.out hb)
            have S0_6 := Aside0.mk ((hb.cell (World.block_lt_of_cell? w1.drew ⟨g, k * 2, none⟩ S0_0.out)).trans S0_0.out)
            have S1_6 := Aside0.mk ((hb.cell (World.block_lt_of_cell? w1.drew ⟨g, k * 2 + 1, none⟩ S1_0.out)).trans S1_0.out)
            have S2_6 := Aside0.mk ((hb.cell (World.block_lt_of_cell? w1.drew (ad.add i) S2_0.out)).trans S2_0.out)
            have KG13_6 := Aside0.mk (show (w1.drew.alloc (.cells #[.int .i64 0, .int .i64 0] 26)).heap[w1.drew.heap.size]? = some (.cells #[.int .i64 0, .int .i64 0] 26 (0, 0)) from heap_alloc_new _ _)
            have LT13_6 := Aside0.mk (show w.heap.size ≤ w1.drew.heap.size ∧ g < w1.drew.heap.size ∧ w1.drew.heap.size < (w1.drew.alloc (.cells #[.int .i64 0, .int .i64 0] 26)).heap.size from ⟨B_0.out.size, Kd.R_lt U_0.out g rfl, by simp⟩)
            refine hK.out _ _ ⟨S0_6.out, S1_6.out, S2_6.out⟩ ?_
            intro hHeld
            clear hK K hb
            refine norm_ (a' := ?_) ?_ ?_
            rotate_left
            · show Act.put _ (some 8) _ = _
              simp only [Act.put, List.setIfInBounds_toArray, List.set_cons_zero, List.set_cons_succ, i64_w, i32_w]
              rfl
            refine two_ (i := 8) (j := 14) (Ni := some 54) (Nj := some 9) #[true, true, true, true, true, true, true, true, true, false, false, false, false, true, false, false, false, false] #[true, true, true, true, true, true, true, true, false, false, false, false, false, true, true, false, false, false] rfl rfl rfl rfl (by kernel_rfl) (by decide) (by decide) (fun K hK => ?_) (fun K hK => ?_)
            · refine goes_ Try.func13 (by kernel_rfl) rfl #[.agg #[.int .i64 x.f0, .int .i64 x.f1], .int .i64 p] (by rfl) rfl rfl (by (try simp only [List.map_toArray, List.map_cons, List.map_nil]); first | done | rfl) ?_
              with_reducible refine (HSP.out _).mono ?_
              rintro e1 y_7 ⟨rfl, hb⟩
              refine ⟨_, rfl, ?_⟩
              have B_7 := Aside0.mk (show Below w.heap.size w y_7 from B_6.out.trans (hb.mono B_6.out.size))
              have U_7 := Aside0.mk (show Kd.R k26 26 y_7 w.heap.size (fun k => some k = (Value.slice (some ⟨g, 0, none⟩) L.length cap).ownBlock) (.slice (some ⟨g, 0, none⟩) L.length cap) L from Kd.R_below U_6.out hb)
              have S0_7 := Aside0.mk ((hb.cell (World.block_lt_of_cell? (w1.drew.alloc (.cells #[.int .i64 0, .int .i64 0] 26)) ⟨g, k * 2, none⟩ S0_6.out)).trans S0_6.out)
              have S1_7 := Aside0.mk ((hb.cell (World.block_lt_of_cell? (w1.drew.alloc (.cells #[.int .i64 0, .int .i64 0] 26)) ⟨g, k * 2 + 1, none⟩ S1_6.out)).trans S1_6.out)
              have S2_7 := Aside0.mk ((hb.cell (World.block_lt_of_cell? (w1.drew.alloc (.cells #[.int .i64 0, .int .i64 0] 26)) (ad.add i) S2_6.out)).trans S2_6.out)
              have KG13_7 := Aside0.mk (blk_below KG13_6.out hb)
              have LT13_7 := Aside0.mk (show w.heap.size ≤ w1.drew.heap.size ∧ g < w1.drew.heap.size ∧ w1.drew.heap.size < y_7.heap.size from ⟨LT13_6.out.1, LT13_6.out.2.1, Nat.lt_of_lt_of_le LT13_6.out.2.2 hb.size⟩)
              refine hK.out _ _ ⟨S0_7.out, S1_7.out, S2_7.out⟩ ?_
              intro hHeld
              clear hK K hb
              refine norm_ (a' := ?_) ?_ ?_
              rotate_left
              · show Act.put _ (some 54) _ = _
                simp only [Act.put, List.setIfInBounds_toArray, List.set_cons_zero, List.set_cons_succ, i64_w, i32_w]
                rfl
              refine pure_ (i := 9) (N := some 45) (v := ?_) (a' := ?_) #[true, true, true, true, true, true, true, true, true, true, false, false, false, true, false, false, false, false] rfl rfl (by kernel_rfl) (fun _ _ _ h => h) (Or.inl ⟨by rfl, ?_⟩) ?_ ?_
              rotate_left
              · intro w'
                go_simp
                with_reducible rfl
              rotate_left
              · simp only [Act.put, List.setIfInBounds_toArray, List.set_cons_zero, List.set_cons_succ, i64_w, i32_w]
                rfl
              refine pure_ (i := 10) (N := some 55) (v := ?_) (a' := ?_) #[true, true, true, true, true, true, true, true, true, true, true, false, false, true, false, false, false, false] rfl rfl (by kernel_rfl) (fun _ _ _ h => h) (Or.inl ⟨by rfl, ?_⟩) ?_ ?_
              rotate_left
              · intro w'
                go_simp
                with_reducible rfl
              rotate_left
              · simp only [Act.put, List.setIfInBounds_toArray, List.set_cons_zero, List.set_cons_succ, i64_w, i32_w]
                rfl
              refine pure_ (i := 11) (N := some 56) (v := ?_) (a' := ?_) #[true, true, true, true, true, true, true, true, true, true, true, true, false, true, false, false, false, false] rfl rfl (by kernel_rfl) (fun _ _ _ h => h) (Or.inl ⟨by rfl, ?_⟩) ?_ ?_
              rotate_left
              · intro w'
                go_simp
                with_reducible rfl
              rotate_left
              · simp only [Act.put, List.setIfInBounds_toArray, List.set_cons_zero, List.set_cons_succ, i64_w, i32_w]
                rfl
              refine pure_ (i := 12) (N := some 57) (v := ?_) (a' := ?_) #[true, true, true, true, true, true, true, true, true, true, true, true, true, true, false, false, false, false] rfl rfl (by kernel_rfl) (fun _ _ _ h => h) (Or.inl ⟨by rfl, ?_⟩) ?_ ?_
              rotate_left
              · intro w'
                go_simp
                with_reducible rfl
              rotate_left
              · simp only [Act.put, List.setIfInBounds_toArray, List.set_cons_zero, List.set_cons_succ, i64_w, i32_w]
                rfl
              refine one_ (i := 14) (N := some 9) #[true, true, true, true, true, true, true, true, true, true, true, true, true, true, true, false, false, false] rfl rfl (by kernel_rfl) (by decide) (fun K hK => ?_)
              refine value_ (w1 := (y_7.alloc (.cells #[.int .i64 0, .int .i64 0] 26))) (v := .pointer (some ⟨y_7.heap.size, 0, none⟩)) (by rfl) rfl (by first | (go_simp; done) | (go_simp; rfl)) ?_
              have hb := below_alloc (Below.refl y_7.heap.size y_7) (.cells #[.int .i64 0, .int .i64 0] 26)
              have B_8 := Aside0.mk (show Below w.heap.size w (y_7.alloc (.cells #[.int .i64 0, .int .i64 0] 26)) from B_7.out.trans (hb.mono B_7.out.size))
              have U_8 := Aside0.mk (show Kd.R k26 26 (y_7.alloc (.cells #[.int .i64 0, .int .i64 0] 26)) w.heap.size (fun k => some k = (Value.slice (some ⟨g, 0, none⟩) L.length cap).ownBlock) (.slice (some ⟨g, 0, none⟩) L.length cap) L from Kd.R_below U_7.out hb)
              have S0_8 := Aside0.mk ((hb.cell (World.block_lt_of_cell? y_7 ⟨g, k * 2, none⟩ S0_7.out)).trans S0_7.out)
              have S1_8 := Aside0.mk ((hb.cell (World.block_lt_of_cell? y_7 ⟨g, k * 2 + 1, none⟩ S1_7.out)).trans S1_7.out)
              have S2_8 := Aside0.mk ((hb.cell (World.block_lt_of_cell? y_7 (ad.add i) S2_7.out)).trans S2_7.out)
              have KG13_8 := Aside0.mk (blk_below KG13_7.out hb)
              have LT13_8 := Aside0.mk (show w.heap.size ≤ w1.drew.heap.size ∧ g < w1.drew.heap.size ∧ w1.drew.heap.size < (y_7.alloc (.cells #[.int .i64 0, .int .i64 0] 26)).heap.size from ⟨LT13_7.out.1, LT13_7.out.2.1, Nat.lt_of_lt_of_le LT13_7.out.2.2 hb.size⟩)
              have KG14_8 := Aside0.mk (show (y_7.alloc (.cells #[.int .i64 0, .int .i64 0] 26)).heap[y_7.heap.size]? = some (.cells #[.int .i64 0, .int .i64 0] 26 (0, 0)) from heap_alloc_new _ _)
              have LT14_8 := Aside0.mk (show w.heap.size ≤ y_7.heap.size ∧ g < y_7.heap.size ∧ y_7.heap.size < (y_7.alloc (.cells #[.int .i64 0, .int .i64 0] 26)).heap.size from ⟨B_7.out.size, Kd.R_lt U_7.out g rfl, by simp⟩)
              have NE_8 := Aside0.mk (show w1.drew.heap.size < y_7.heap.size from LT13_7.out.2.2)
              refine hK.out _ _ ⟨S0_8.out, S1_8.out, S2_8.out⟩ ?_
              intro hHeld
              clear hK K hb
              refine norm_ (a' := ?_) ?_ ?_
              rotate_left
              · show Act.put _ (some 9) _ = _
                simp only [Act.put, List.setIfInBounds_toArray, List.set_cons_zero, List.set_cons_succ, i64_w, i32_w]
                rfl
              refine norm_ ?_ (hj (w1.drew.heap.size, y_7.heap.size) _ ⟨B_8.out, U_8.out, KG13_8.out, KG14_8.out, ?_, ?_, ?_, ?_, ?_⟩)
              · simp only [putAll, Act.put, List.setIfInBounds_toArray, List.set_cons_zero, List.set_cons_succ]
              · exact Nat.ne_of_lt NE_8.out
              · exact LT13_8.out.1
              · exact LT14_8.out.1
              · exact (Nat.ne_of_lt LT13_8.out.2.1).symm
              · exact (Nat.ne_of_lt LT14_8.out.2.1).symm
            · refine value_ (w1 := ((w1.drew.alloc (.cells #[.int .i64 0, .int .i64 0] 26)).alloc (.cells #[.int .i64 0, .int .i64 0] 26))) (v := .pointer (some ⟨(w1.drew.alloc (.cells #[.int .i64 0, .int .i64 0] 26)).heap.size, 0, none⟩)) (by rfl) rfl (by first | (go_simp; done) | (go_simp; rfl)) ?_
              have hb := below_alloc (Below.refl (w1.drew.alloc (.cells #[.int .i64 0, .int .i64 0] 26)).heap.size (w1.drew.alloc (.cells #[.int .i64 0, .int .i64 0] 26))) (.cells #[.int .i64 0, .int .i64 0] 26)
              have B_9 := Aside0.mk (show Below w.heap.size w ((w1.drew.alloc (.cells #[.int .i64 0, .int .i64 0] 26)).alloc (.cells #[.int .i64 0, .int .i64 0] 26)) from B_6.out.trans (hb.mono B_6.out.size))
              have U_9 := Aside0.mk (show Kd.R k26 26 ((w1.drew.alloc (.cells #[.int .i64 0, .int .i64 0] 26)).alloc (.cells #[.int .i64 0, .int .i64 0] 26)) w.heap.size (fun k => some k = (Value.slice (some ⟨g, 0, none⟩) L.length cap).ownBlock) (.slice (some ⟨g, 0, none⟩) L.length cap) L from Kd.R_below U_6.out hb)
              have S0_9 := Aside0.mk ((hb.cell (World.block_lt_of_cell? (w1.drew.alloc (.cells #[.int .i64 0, .int .i64 0] 26)) ⟨g, k * 2, none⟩ S0_6.out)).trans S0_6.out)
              have S1_9 := Aside0.mk ((hb.cell (World.block_lt_of_cell? (w1.drew.alloc (.cells #[.int .i64 0, .int .i64 0] 26)) ⟨g, k * 2 + 1, none⟩ S1_6.out)).trans S1_6.out)
              have S2_9 := Aside0.mk ((hb.cell (World.block_lt_of_cell? (w1.drew.alloc (.cells #[.int .i64 0, .int .i64 0] 26)) (ad.add i) S2_6.out)).trans S2_6.out)
              have KG13_9 := Aside0.mk (blk_below KG13_6.out hb)
              have LT13_9 := Aside0.mk (show w.heap.size ≤ w1.drew.heap.size ∧ g < w1.drew.heap.size ∧ w1.drew.heap.size < ((w1.drew.alloc (.cells #[.int .i64 0, .int .i64 0] 26)).alloc (.cells #[.int .i64 0, .int .i64 0] 26)).heap.size from ⟨LT13_6.out.1, LT13_6.out.2.1, Nat.lt_of_lt_of_le LT13_6.out.2.2 hb.size⟩)
              have KG14_9 := Aside0.mk (show ((w1.drew.alloc (.cells #[.int .i64 0, .int .i64 0] 26)).alloc (.cells #[.int .i64 0, .int .i64 0] 26)).heap[(w1.drew.alloc (.cells #[.int .i64 0, .int .i64 0] 26)).heap.size]? = some (.cells #[.int .i64 0, .int .i64 0] 26 (0, 0)) from heap_alloc_new _ _)
              have LT14_9 := Aside0.mk (show w.heap.size ≤ (w1.drew.alloc (.cells #[.int .i64 0, .int .i64 0] 26)).heap.size ∧ g < (w1.drew.alloc (.cells #[.int .i64 0, .int .i64 0] 26)).heap.size ∧ (w1.drew.alloc (.cells #[.int .i64 0, .int .i64 0] 26)).heap.size < ((w1.drew.alloc (.cells #[.int .i64 0, .int .i64 0] 26)).alloc (.cells #[.int .i64 0, .int .i64 0] 26)).heap.size from ⟨B_6.out.size, Kd.R_lt U_6.out g rfl, by simp⟩)
              have NE_9 := Aside0.mk (show w1.drew.heap.size < (w1.drew.alloc (.cells #[.int .i64 0, .int .i64 0] 26)).heap.size from LT13_6.out.2.2)
              refine hK.out _ _ ⟨S0_9.out, S1_9.out, S2_9.out⟩ ?_
              intro hHeld
              clear hK K hb
              refine norm_ (a' := ?_) ?_ ?_
              rotate_left
              · show Act.put _ (some 9) _ = _
                simp only [Act.put, List.setIfInBounds_toArray, List.set_cons_zero, List.set_cons_succ, i64_w, i32_w]
                rfl
              refine one_ (i := 8) (N := some 54) #[true, true, true, true, true, true, true, true, true, false, false, false, false, true, true, false, false, false] rfl rfl (by kernel_rfl) (by decide) (fun K hK => ?_)
              refine goes_ Try.func13 (by kernel_rfl) rfl #[.agg #[.int .i64 x.f0, .int .i64 x.f1], .int .i64 p] (by rfl) rfl rfl (by (try simp only [List.map_toArray, List.map_cons, List.map_nil]); first | done | rfl) ?_
              with_reducible refine (HSP.out _).mono ?_
              rintro e1 y_10 ⟨rfl, hb⟩
              refine ⟨_, rfl, ?_⟩
              have B_10 := Aside0.mk (show Below w.heap.size w y_10 from B_9.out.trans (hb.mono B_9.out.size))
              have U_10 := Aside0.mk (show Kd.R k26 26 y_10 w.heap.size (fun k => some k = (Value.slice (some ⟨g, 0, none⟩) L.length cap).ownBlock) (.slice (some ⟨g, 0, none⟩) L.length cap) L from Kd.R_below U_9.out hb)
              have S0_10 := Aside0.mk ((hb.cell (World.block_lt_of_cell? ((w1.drew.alloc (.cells #[.int .i64 0, .int .i64 0] 26)).alloc (.cells #[.int .i64 0, .int .i64 0] 26)) ⟨g, k * 2, none⟩ S0_9.out)).trans S0_9.out)
              have S1_10 := Aside0.mk ((hb.cell (World.block_lt_of_cell? ((w1.drew.alloc (.cells #[.int .i64 0, .int .i64 0] 26)).alloc (.cells #[.int .i64 0, .int .i64 0] 26)) ⟨g, k * 2 + 1, none⟩ S1_9.out)).trans S1_9.out)
              have S2_10 := Aside0.mk ((hb.cell (World.block_lt_of_cell? ((w1.drew.alloc (.cells #[.int .i64 0, .int .i64 0] 26)).alloc (.cells #[.int .i64 0, .int .i64 0] 26)) (ad.add i) S2_9.out)).trans S2_9.out)
              have KG13_10 := Aside0.mk (blk_below KG13_9.out hb)
              have LT13_10 := Aside0.mk (show w.heap.size ≤ w1.drew.heap.size ∧ g < w1.drew.heap.size ∧ w1.drew.heap.size < y_10.heap.size from ⟨LT13_9.out.1, LT13_9.out.2.1, Nat.lt_of_lt_of_le LT13_9.out.2.2 hb.size⟩)
              have KG14_10 := Aside0.mk (blk_below KG14_9.out hb)
              have LT14_10 := Aside0.mk (show w.heap.size ≤ (w1.drew.alloc (.cells #[.int .i64 0, .int .i64 0] 26)).heap.size ∧ g < (w1.drew.alloc (.cells #[.int .i64 0, .int .i64 0] 26)).heap.size ∧ (w1.drew.alloc (.cells #[.int .i64 0, .int .i64 0] 26)).heap.size < y_10.heap.size from ⟨LT14_9.out.1, LT14_9.out.2.1, Nat.lt_of_lt_of_le LT14_9.out.2.2 hb.size⟩)
              refine hK.out _ _ ⟨S0_10.out, S1_10.out, S2_10.out⟩ ?_
              intro hHeld
              clear hK K hb
              refine norm_ (a' := ?_) ?_ ?_
              rotate_left
              · show Act.put _ (some 54) _ = _
                simp only [Act.put, List.setIfInBounds_toArray, List.set_cons_zero, List.set_cons_succ, i64_w, i32_w]
                rfl
              refine pure_ (i := 9) (N := some 45) (v := ?_) (a' := ?_) #[true, true, true, true, true, true, true, true, true, true, false, false, false, true, true, false, false, false] rfl rfl (by kernel_rfl) (fun _ _ _ h => h) (Or.inl ⟨by rfl, ?_⟩) ?_ ?_
              rotate_left
              · intro w'
                go_simp
                with_reducible rfl
              rotate_left
              · simp only [Act.put, List.setIfInBounds_toArray, List.set_cons_zero, List.set_cons_succ, i64_w, i32_w]
                rfl
              refine pure_ (i := 10) (N := some 55) (v := ?_) (a' := ?_) #[true, true, true, true, true, true, true, true, true, true, true, false, false, true, true, false, false, false] rfl rfl (by kernel_rfl) (fun _ _ _ h => h) (Or.inl ⟨by rfl, ?_⟩) ?_ ?_
              rotate_left
              · intro w'
                go_simp
                with_reducible rfl
              rotate_left
              · simp only [Act.put, List.setIfInBounds_toArray, List.set_cons_zero, List.set_cons_succ, i64_w, i32_w]
                rfl
              refine pure_ (i := 11) (N := some 56) (v := ?_) (a' := ?_) #[true, true, true, true, true, true, true, true, true, true, true, true, false, true, true, false, false, false] rfl rfl (by kernel_rfl) (fun _ _ _ h => h) (Or.inl ⟨by rfl, ?_⟩) ?_ ?_
              rotate_left
              · intro w'
                go_simp
                with_reducible rfl
              rotate_left
              · simp only [Act.put, List.setIfInBounds_toArray, List.set_cons_zero, List.set_cons_succ, i64_w, i32_w]
                rfl
              refine pure_ (i := 12) (N := some 57) (v := ?_) (a' := ?_) #[true, true, true, true, true, true, true, true, true, true, true, true, true, true, true, false, false, false] rfl rfl (by kernel_rfl) (fun _ _ _ h => h) (Or.inl ⟨by rfl, ?_⟩) ?_ ?_
              rotate_left
              · intro w'
                go_simp
                with_reducible rfl
              rotate_left
              · simp only [Act.put, List.setIfInBounds_toArray, List.set_cons_zero, List.set_cons_succ, i64_w, i32_w]
                rfl
              refine norm_ ?_ (hj (w1.drew.heap.size, (w1.drew.alloc (.cells #[.int .i64 0, .int .i64 0] 26)).heap.size) _ ⟨B_10.out, U_10.out, KG13_10.out, KG14_10.out, ?_, ?_, ?_, ?_, ?_⟩)
              · simp only [putAll, Act.put, List.setIfInBounds_toArray, List.set_cons_zero, List.set_cons_succ]
              · exact Nat.ne_of_lt NE_9.out
              · exact LT13_10.out.1
              · exact LT14_10.out.1
              · exact (Nat.ne_of_lt LT13_10.out.2.1).symm
              · exact (Nat.ne_of_lt LT14_10.out.2.1).symm
          · refine value_ (w1 := (w1.drew.alloc (.cells #[.int .i64 0, .int .i64 0] 26))) (v := .pointer (some ⟨w1.drew.heap.size, 0, none⟩)) (by rfl) rfl (by first | (go_simp; done) | (go_simp; rfl)) ?_
            have hb := below_alloc (Below.refl w1.drew.heap.size w1.drew) (.cells #[.int .i64 0, .int .i64 0] 26)
            have B_11 := Aside0.mk (show Below w.heap.size w (w1.drew.alloc (.cells #[.int .i64 0, .int .i64 0] 26)) from B_0.out.trans (hb.mono B_0.out.size))
            have U_11 := Aside0.mk (show Kd.R k26 26 (w1.drew.alloc (.cells #[.int .i64 0, .int .i64 0] 26)) w.heap.size (fun k => some k = (Value.slice (some ⟨g, 0, none⟩) L.length cap).ownBlock) (.slice (some ⟨g, 0, none⟩) L.length cap) L from Kd.R_below U_0.out hb)
            have S0_11 := Aside0.mk ((hb.cell (World.block_lt_of_cell? w1.drew ⟨g, k * 2, none⟩ S0_0.out)).trans S0_0.out)
            have S1_11 := Aside0.mk ((hb.cell (World.block_lt_of_cell? w1.drew ⟨g, k * 2 + 1, none⟩ S1_0.out)).trans S1_0.out)
            have S2_11 := Aside0.mk ((hb.cell (World.block_lt_of_cell? w1.drew (ad.add i) S2_0.out)).trans S2_0.out)
            have KG14_11 := Aside0.mk (show (w1.drew.alloc (.cells #[.int .i64 0, .int .i64 0] 26)).heap[w1.drew.heap.size]? = some (.cells #[.int .i64 0, .int .i64 0] 26 (0, 0)) from heap_alloc_new _ _)
            have LT14_11 := Aside0.mk (show w.heap.size ≤ w1.drew.heap.size ∧ g < w1.drew.heap.size ∧ w1.drew.heap.size < (w1.drew.alloc (.cells #[.int .i64 0, .int .i64 0] 26)).heap.size from ⟨B_0.out.size, Kd.R_lt U_0.out g rfl, by simp⟩)
            refine hK.out _ _ ⟨S0_11.out, S1_11.out, S2_11.out⟩ ?_
            intro hHeld
            clear hK K hb
            refine norm_ (a' := ?_) ?_ ?_
            rotate_left
            · show Act.put _ (some 9) _ = _
              simp only [Act.put, List.setIfInBounds_toArray, List.set_cons_zero, List.set_cons_succ, i64_w, i32_w]
              rfl
            refine two_ (i := 8) (j := 13) (Ni := some 54) (Nj := some 8) #[true, true, true, true, true, true, true, true, true, false, false, false, false, false, true, false, false, false] #[true, true, true, true, true, true, true, true, false, false, false, false, false, true, true, false, false, false] rfl rfl rfl rfl (by kernel_rfl) (by decide) (by decide) (fun K hK => ?_) (fun K hK => ?_)
            · refine goes_ Try.func13 (by kernel_rfl) rfl #[.agg #[.int .i64 x.f0, .int .i64 x.f1], .int .i64 p] (by rfl) rfl rfl (by (try simp only [List.map_toArray, List.map_cons, List.map_nil]); first | done | rfl) ?_
              with_reducible refine (HSP.out _).mono ?_
              rintro e1 y_12 ⟨rfl, hb⟩
              refine ⟨_, rfl, ?_⟩
              have B_12 := Aside0.mk (show Below w.heap.size w y_12 from B_11.out.trans (hb.mono B_11.out.size))
              have U_12 := Aside0.mk (show Kd.R k26 26 y_12 w.heap.size (fun k => some k = (Value.slice (some ⟨g, 0, none⟩) L.length cap).ownBlock) (.slice (some ⟨g, 0, none⟩) L.length cap) L from Kd.R_below U_11.out hb)
              have S0_12 := Aside0.mk ((hb.cell (World.block_lt_of_cell? (w1.drew.alloc (.cells #[.int .i64 0, .int .i64 0] 26)) ⟨g, k * 2, none⟩ S0_11.out)).trans S0_11.out)
              have S1_12 := Aside0.mk ((hb.cell (World.block_lt_of_cell? (w1.drew.alloc (.cells #[.int .i64 0, .int .i64 0] 26)) ⟨g, k * 2 + 1, none⟩ S1_11.out)).trans S1_11.out)
              have S2_12 := Aside0.mk ((hb.cell (World.block_lt_of_cell? (w1.drew.alloc (.cells #[.int .i64 0, .int .i64 0] 26)) (ad.add i) S2_11.out)).trans S2_11.out)
              have KG14_12 := Aside0.mk (blk_below KG14_11.out hb)
              have LT14_12 := Aside0.mk (show w.heap.size ≤ w1.drew.heap.size ∧ g < w1.drew.heap.size ∧ w1.drew.heap.size < y_12.heap.size from ⟨LT14_11.out.1, LT14_11.out.2.1, Nat.lt_of_lt_of_le LT14_11.out.2.2 hb.size⟩)
              refine hK.out _ _ ⟨S0_12.out, S1_12.out, S2_12.out⟩ ?_
              intro hHeld
              clear hK K hb
              refine norm_ (a' := ?_) ?_ ?_
              rotate_left
              · show Act.put _ (some 54) _ = _
                simp only [Act.put, List.setIfInBounds_toArray, List.set_cons_zero, List.set_cons_succ, i64_w, i32_w]
                rfl
              refine pure_ (i := 9) (N := some 45) (v := ?_) (a' := ?_) #[true, true, true, true, true, true, true, true, true, true, false, false, false, false, true, false, false, false] rfl rfl (by kernel_rfl) (fun _ _ _ h => h) (Or.inl ⟨by rfl, ?_⟩) ?_ ?_
              rotate_left
              · intro w'
                go_simp
                with_reducible rfl
              rotate_left
              · simp only [Act.put, List.setIfInBounds_toArray, List.set_cons_zero, List.set_cons_succ, i64_w, i32_w]
                rfl
              refine pure_ (i := 10) (N := some 55) (v := ?_) (a' := ?_) #[true, true, true, true, true, true, true, true, true, true, true, false, false, false, true, false, false, false] rfl rfl (by kernel_rfl) (fun _ _ _ h => h) (Or.inl ⟨by rfl, ?_⟩) ?_ ?_
              rotate_left
              · intro w'
                go_simp
                with_reducible rfl
              rotate_left
              · simp only [Act.put, List.setIfInBounds_toArray, List.set_cons_zero, List.set_cons_succ, i64_w, i32_w]
                rfl
              refine pure_ (i := 11) (N := some 56) (v := ?_) (a' := ?_) #[true, true, true, true, true, true, true, true, true, true, true, true, false, false, true, false, false, false] rfl rfl (by kernel_rfl) (fun _ _ _ h => h) (Or.inl ⟨by rfl, ?_⟩) ?_ ?_
              rotate_left
              · intro w'
                go_simp
                with_reducible rfl
              rotate_left
              · simp only [Act.put, List.setIfInBounds_toArray, List.set_cons_zero, List.set_cons_succ, i64_w, i32_w]
                rfl
              refine pure_ (i := 12) (N := some 57) (v := ?_) (a' := ?_) #[true, true, true, true, true, true, true, true, true, true, true, true, true, false, true, false, false, false] rfl rfl (by kernel_rfl) (fun _ _ _ h => h) (Or.inl ⟨by rfl, ?_⟩) ?_ ?_
              rotate_left
              · intro w'
                go_simp
                with_reducible rfl
              rotate_left
              · simp only [Act.put, List.setIfInBounds_toArray, List.set_cons_zero, List.set_cons_succ, i64_w, i32_w]
                rfl
              refine one_ (i := 13) (N := some 8) #[true, true, true, true, true, true, true, true, true, true, true, true, true, true, true, false, false, false] rfl rfl (by kernel_rfl) (by decide) (fun K hK => ?_)
              refine value_ (w1 := (y_12.alloc (.cells #[.int .i64 0, .int .i64 0] 26))) (v := .pointer (some ⟨y_12.heap.size, 0, none⟩)) (by rfl) rfl (by first | (go_simp; done) | (go_simp; rfl)) ?_
              have hb := below_alloc (Below.refl y_12.heap.size y_12) (.cells #[.int .i64 0, .int .i64 0] 26)
              have B_13 := Aside0.mk (show Below w.heap.size w (y_12.alloc (.cells #[.int .i64 0, .int .i64 0] 26)) from B_12.out.trans (hb.mono B_12.out.size))
              have U_13 := Aside0.mk (show Kd.R k26 26 (y_12.alloc (.cells #[.int .i64 0, .int .i64 0] 26)) w.heap.size (fun k => some k = (Value.slice (some ⟨g, 0, none⟩) L.length cap).ownBlock) (.slice (some ⟨g, 0, none⟩) L.length cap) L from Kd.R_below U_12.out hb)
              have S0_13 := Aside0.mk ((hb.cell (World.block_lt_of_cell? y_12 ⟨g, k * 2, none⟩ S0_12.out)).trans S0_12.out)
              have S1_13 := Aside0.mk ((hb.cell (World.block_lt_of_cell? y_12 ⟨g, k * 2 + 1, none⟩ S1_12.out)).trans S1_12.out)
              have S2_13 := Aside0.mk ((hb.cell (World.block_lt_of_cell? y_12 (ad.add i) S2_12.out)).trans S2_12.out)
              have KG14_13 := Aside0.mk (blk_below KG14_12.out hb)
              have LT14_13 := Aside0.mk (show w.heap.size ≤ w1.drew.heap.size ∧ g < w1.drew.heap.size ∧ w1.drew.heap.size < (y_12.alloc (.cells #[.int .i64 0, .int .i64 0] 26)).heap.size from ⟨LT14_12.out.1, LT14_12.out.2.1, Nat.lt_of_lt_of_le LT14_12.out.2.2 hb.size⟩)
              have KG13_13 := Aside0.mk (show (y_12.alloc (.cells #[.int .i64 0, .int .i64 0] 26)).heap[y_12.heap.size]? = some (.cells #[.int .i64 0, .int .i64 0] 26 (0, 0)) from heap_alloc_new _ _)
              have LT13_13 := Aside0.mk (show w.heap.size ≤ y_12.heap.size ∧ g < y_12.heap.size ∧ y_12.heap.size < (y_12.alloc (.cells #[.int .i64 0, .int .i64 0] 26)).heap.size from ⟨B_12.out.size, Kd.R_lt U_12.out g rfl, by simp⟩)
              have NE_13 := Aside0.mk (show w1.drew.heap.size < y_12.heap.size from LT14_12.out.2.2)
              refine hK.out _ _ ⟨S0_13.out, S1_13.out, S2_13.out⟩ ?_
              intro hHeld
              clear hK K hb
              refine norm_ (a' := ?_) ?_ ?_
              rotate_left
              · show Act.put _ (some 8) _ = _
                simp only [Act.put, List.setIfInBounds_toArray, List.set_cons_zero, List.set_cons_succ, i64_w, i32_w]
                rfl
              refine norm_ ?_ (hj (y_12.heap.size, w1.drew.heap.size) _ ⟨B_13.out, U_13.out, KG13_13.out, KG14_13.out, ?_, ?_, ?_, ?_, ?_⟩)
              · simp only [putAll, Act.put, List.setIfInBounds_toArray, List.set_cons_zero, List.set_cons_succ]
              · exact (Nat.ne_of_lt NE_13.out).symm
              · exact LT13_13.out.1
              · exact LT14_13.out.1
              · exact (Nat.ne_of_lt LT13_13.out.2.1).symm
              · exact (Nat.ne_of_lt LT14_13.out.2.1).symm
            · refine value_ (w1 := ((w1.drew.alloc (.cells #[.int .i64 0, .int .i64 0] 26)).alloc (.cells #[.int .i64 0, .int .i64 0] 26))) (v := .pointer (some ⟨(w1.drew.alloc (.cells #[.int .i64 0, .int .i64 0] 26)).heap.size, 0, none⟩)) (by rfl) rfl (by first | (go_simp; done) | (go_simp; rfl)) ?_
              have hb := below_alloc (Below.refl (w1.drew.alloc (.cells #[.int .i64 0, .int .i64 0] 26)).heap.size (w1.drew.alloc (.cells #[.int .i64 0, .int .i64 0] 26))) (.cells #[.int .i64 0, .int .i64 0] 26)
              have B_14 := Aside0.mk (show Below w.heap.size w ((w1.drew.alloc (.cells #[.int .i64 0, .int .i64 0] 26)).alloc (.cells #[.int .i64 0, .int .i64 0] 26)) from B_11.out.trans (hb.mono B_11.out.size))
              have U_14 := Aside0.mk (show Kd.R k26 26 ((w1.drew.alloc (.cells #[.int .i64 0, .int .i64 0] 26)).alloc (.cells #[.int .i64 0, .int .i64 0] 26)) w.heap.size (fun k => some k = (Value.slice (some ⟨g, 0, none⟩) L.length cap).ownBlock) (.slice (some ⟨g, 0, none⟩) L.length cap) L from Kd.R_below U_11.out hb)
              have S0_14 := Aside0.mk ((hb.cell (World.block_lt_of_cell? (w1.drew.alloc (.cells #[.int .i64 0, .int .i64 0] 26)) ⟨g, k * 2, none⟩ S0_11.out)).trans S0_11.out)
              have S1_14 := Aside0.mk ((hb.cell (World.block_lt_of_cell? (w1.drew.alloc (.cells #[.int .i64 0, .int .i64 0] 26)) ⟨g, k * 2 + 1, none⟩ S1_11.out)).trans S1_11.out)
              have S2_14 := Aside0.mk ((hb.cell (World.block_lt_of_cell? (w1.drew.alloc (.cells #[.int .i64 0, .int .i64 0] 26)) (ad.add i) S2_11.out)).trans S2_11.out)
              have KG14_14 := Aside0.mk (blk_below KG14_11.out hb)
              have LT14_14 := Aside0.mk (show w.heap.size ≤ w1.drew.heap.size ∧ g < w1.drew.heap.size ∧ w1.drew.heap.size < ((w1.drew.alloc (.cells #[.int .i64 0, .int .i64 0] 26)).alloc (.cells #[.int .i64 0, .int .i64 0] 26)).heap.size from ⟨LT14_11.out.1, LT14_11.out.2.1, Nat.lt_of_lt_of_le LT14_11.out.2.2 hb.size⟩)
              have KG13_14 := Aside0.mk (show ((w1.drew.alloc (.cells #[.int .i64 0, .int .i64 0] 26)).alloc (.cells #[.int .i64 0, .int .i64 0] 26)).heap[(w1.drew.alloc (.cells #[.int .i64 0, .int .i64 0] 26)).heap.size]? = some (.cells #[.int .i64 0, .int .i64 0] 26 (0, 0)) from heap_alloc_new _ _)
              have LT13_14 := Aside0.mk (show w.heap.size ≤ (w1.drew.alloc (.cells #[.int .i64 0, .int .i64 0] 26)).heap.size ∧ g < (w1.drew.alloc (.cells #[.int .i64 0, .int .i64 0] 26)).heap.size ∧ (w1.drew.alloc (.cells #[.int .i64 0, .int .i64 0] 26)).heap.size < ((w1.drew.alloc (.cells #[.int .i64 0, .int .i64 0] 26)).alloc (.cells #[.int .i64 0, .int .i64 0] 26)).heap.size from ⟨B_11.out.size, Kd.R_lt U_11.out g rfl, by simp⟩)
              have NE_14 := Aside0.mk (show w1.drew.heap.size < (w1.drew.alloc (.cells #[.int .i64 0, .int .i64 0] 26)).heap.size from LT14_11.out.2.2)
              refine hK.out _ _ ⟨S0_14.out, S1_14.out, S2_14.out⟩ ?_
              intro hHeld
              clear hK K hb
              refine norm_ (a' := ?_) ?_ ?_
              rotate_left
              · show Act.put _ (some 8) _ = _
                simp only [Act.put, List.setIfInBounds_toArray, List.set_cons_zero, List.set_cons_succ, i64_w, i32_w]
                rfl
              refine one_ (i := 8) (N := some 54) #[true, true, true, true, true, true, true, true, true, false, false, false, false, true, true, false, false, false] rfl rfl (by kernel_rfl) (by decide) (fun K hK => ?_)
              refine goes_ Try.func13 (by kernel_rfl) rfl #[.agg #[.int .i64 x.f0, .int .i64 x.f1], .int .i64 p] (by rfl) rfl rfl (by (try simp only [List.map_toArray, List.map_cons, List.map_nil]); first | done | rfl) ?_
              with_reducible refine (HSP.out _).mono ?_
              rintro e1 y_15 ⟨rfl, hb⟩
              refine ⟨_, rfl, ?_⟩
              have B_15 := Aside0.mk (show Below w.heap.size w y_15 from B_14.out.trans (hb.mono B_14.out.size))
              have U_15 := Aside0.mk (show Kd.R k26 26 y_15 w.heap.size (fun k => some k = (Value.slice (some ⟨g, 0, none⟩) L.length cap).ownBlock) (.slice (some ⟨g, 0, none⟩) L.length cap) L from Kd.R_below U_14.out hb)
              have S0_15 := Aside0.mk ((hb.cell (World.block_lt_of_cell? ((w1.drew.alloc (.cells #[.int .i64 0, .int .i64 0] 26)).alloc (.cells #[.int .i64 0, .int .i64 0] 26)) ⟨g, k * 2, none⟩ S0_14.out)).trans S0_14.out)
              have S1_15 := Aside0.mk ((hb.cell (World.block_lt_of_cell? ((w1.drew.alloc (.cells #[.int .i64 0, .int .i64 0] 26)).alloc (.cells #[.int .i64 0, .int .i64 0] 26)) ⟨g, k * 2 + 1, none⟩ S1_14.out)).trans S1_14.out)
              have S2_15 := Aside0.mk ((hb.cell (World.block_lt_of_cell? ((w1.drew.alloc (.cells #[.int .i64 0, .int .i64 0] 26)).alloc (.cells #[.int .i64 0, .int .i64 0] 26)) (ad.add i) S2_14.out)).trans S2_14.out)
              have KG14_15 := Aside0.mk (blk_below KG14_14.out hb)
              have LT14_15 := Aside0.mk (show w.heap.size ≤ w1.drew.heap.size ∧ g < w1.drew.heap.size ∧ w1.drew.heap.size < y_15.heap.size from ⟨LT14_14.out.1, LT14_14.out.2.1, Nat.lt_of_lt_of_le LT14_14.out.2.2 hb.size⟩)
              have KG13_15 := Aside0.mk (blk_below KG13_14.out hb)
              have LT13_15 := Aside0.mk (show w.heap.size ≤ (w1.drew.alloc (.cells #[.int .i64 0, .int .i64 0] 26)).heap.size ∧ g < (w1.drew.alloc (.cells #[.int .i64 0, .int .i64 0] 26)).heap.size ∧ (w1.drew.alloc (.cells #[.int .i64 0, .int .i64 0] 26)).heap.size < y_15.heap.size from ⟨LT13_14.out.1, LT13_14.out.2.1, Nat.lt_of_lt_of_le LT13_14.out.2.2 hb.size⟩)
              refine hK.out _ _ ⟨S0_15.out, S1_15.out, S2_15.out⟩ ?_
              intro hHeld
              clear hK K hb
              refine norm_ (a' := ?_) ?_ ?_
              rotate_left
              · show Act.put _ (some 54) _ = _
                simp only [Act.put, List.setIfInBounds_toArray, List.set_cons_zero, List.set_cons_succ, i64_w, i32_w]
                rfl
              refine pure_ (i := 9) (N := some 45) (v := ?_) (a' := ?_) #[true, true, true, true, true, true, true, true, true, true, false, false, false, true, true, false, false, false] rfl rfl (by kernel_rfl) (fun _ _ _ h => h) (Or.inl ⟨by rfl, ?_⟩) ?_ ?_
              rotate_left
              · intro w'
                go_simp
                with_reducible rfl
              rotate_left
              · simp only [Act.put, List.setIfInBounds_toArray, List.set_cons_zero, List.set_cons_succ, i64_w, i32_w]
                rfl
              refine pure_ (i := 10) (N := some 55) (v := ?_) (a' := ?_) #[true, true, true, true, true, true, true, true, true, true, true, false, false, true, true, false, false, false] rfl rfl (by kernel_rfl) (fun _ _ _ h => h) (Or.inl ⟨by rfl, ?_⟩) ?_ ?_
              rotate_left
              · intro w'
                go_simp
                with_reducible rfl
              rotate_left
              · simp only [Act.put, List.setIfInBounds_toArray, List.set_cons_zero, List.set_cons_succ, i64_w, i32_w]
                rfl
              refine pure_ (i := 11) (N := some 56) (v := ?_) (a' := ?_) #[true, true, true, true, true, true, true, true, true, true, true, true, false, true, true, false, false, false] rfl rfl (by kernel_rfl) (fun _ _ _ h => h) (Or.inl ⟨by rfl, ?_⟩) ?_ ?_
              rotate_left
              · intro w'
                go_simp
                with_reducible rfl
              rotate_left
              · simp only [Act.put, List.setIfInBounds_toArray, List.set_cons_zero, List.set_cons_succ, i64_w, i32_w]
                rfl
              refine pure_ (i := 12) (N := some 57) (v := ?_) (a' := ?_) #[true, true, true, true, true, true, true, true, true, true, true, true, true, true, true, false, false, false] rfl rfl (by kernel_rfl) (fun _ _ _ h => h) (Or.inl ⟨by rfl, ?_⟩) ?_ ?_
              rotate_left
              · intro w'
                go_simp
                with_reducible rfl
              rotate_left
              · simp only [Act.put, List.setIfInBounds_toArray, List.set_cons_zero, List.set_cons_succ, i64_w, i32_w]
                rfl
              refine norm_ ?_ (hj ((w1.drew.alloc (.cells #[.int .i64 0, .int .i64 0] 26)).heap.size, w1.drew.heap.size) _ ⟨B_15.out, U_15.out, KG13_15.out, KG14_15.out, ?_, ?_, ?_, ?_, ?_⟩)
              · simp only [putAll, Act.put, List.setIfInBounds_toArray, List.set_cons_zero, List.set_cons_succ]
              · exact (Nat.ne_of_lt NE_14.out).symm
              · exact LT13_15.out.1
              · exact LT14_15.out.1
              · exact (Nat.ne_of_lt LT13_15.out.2.1).symm
              · exact (Nat.ne_of_lt LT14_15.out.2.1).symm
    · by_cases hA : i < l0.length
      · have hltz : (i : Int) < (l0.length : Int) := by omega
        have h30 : ¬ (i : Int) < 30 := by omega
        go_wp2
        clear hLC
        have hidx := modN which (L.length : Int) (by omega) (by omega)
        generalize hjz : (wrap64 (which.tmod (L.length : Int) + (L.length : Int))).tmod (L.length : Int) = jz at hidx ⊢
        obtain ⟨j, rfl⟩ : ∃ j : Nat, jz = (j : Int) := ⟨jz.toNat, by omega⟩
        clear hjz
        have hjn : j < L.length := by omega
        have hjc : (j : Int) ≤ (cap : Int) := by have := HLC.out.1; omega
        have hj1 : (j : Int) + 1 ≤ (L.length : Int) := by omega
        have hj2 : j + 1 ≤ L.length := Nat.succ_le_of_lt hjn
        have hLC2 := HLC.out.1
        have hj0 : (0 : Int) ≤ (j : Int) + 1 := by omega
        have hjc1 : (j : Int) + 1 ≤ (cap : Int) := by have := HLC.out.1; omega
        have CL := Aside0.mk HLC.out.2
        have HTL := Aside0.mk (show (L.take j).length = j by rw [List.length_take]; omega)
        have CT := Aside0.mk (show Kd.C k26 wr (some ⟨g, 0, none⟩) j (L.take j) from my_len (Kd.C_take HLC.out.2 (Nat.le_of_lt hjn)) HTL.out)
        have CD := Aside0.mk (show Kd.C k26 wr (if cap = j + 1 then some ⟨g, 0, none⟩ else some ⟨g, (j + 1) * 2, none⟩) (L.length - (j + 1)) (L.drop (j + 1)) by
          have h_ := Kd.C_drop HLC.out.2 hj2 HLC.out.1
          have h2_ := my_len h_ (show (L.drop (j + 1)).length = L.length - (j + 1) from List.length_drop)
          by_cases hcj : cap = j + 1
          · rw [if_pos hcj] at h2_ ⊢; exact h2_
          · rw [if_neg hcj] at h2_ ⊢
            have e_ : (some (⟨g, 0, none⟩ : Addr)).map (·.add ((j + 1) * k26.sz)) = some ⟨g, (j + 1) * 2, none⟩ := by show some ((⟨g, 0, none⟩ : Addr).add ((j + 1) * 2)) = _; rw [add_at, Nat.zero_add]
            rw [e_] at h2_; exact h2_)
        have hw1 : wrap64 ((j : Int) + 1) = (j : Int) + 1 := wrapS (by omega) (by omega)
        have hw2 : IntKind.i64.wrap ((j : Int) + 1) = (j : Int) + 1 := (i64_w _).trans hw1
        refine start_ (n := 11) (S := fun _ => True) (ds := []) #[false, false, false, false, false, false, false, false, false, false, false] (by kernel_rfl) rfl rfl trivial (fun hHeld => ?_)
        refine take_ (i := 1) (N := some 82) (v := ?_) (a' := ?_) #[false, true, false, false, false, false, false, false, false, false, false] rfl rfl (by kernel_rfl) (fun _ _ _ h => h) (Or.inl ⟨by rfl, ?_⟩) hHeld ?_ ?_
        rotate_left
        · intro w' _
          go_simp
          with_reducible rfl
        rotate_left
        · simp only [Act.put, List.setIfInBounds_toArray, List.set_cons_zero, List.set_cons_succ, i64_w, i32_w]
          rfl
        refine take_ (i := 2) (N := some 83) (v := ?_) (a' := ?_) #[false, true, true, false, false, false, false, false, false, false, false] rfl rfl (by kernel_rfl) (fun _ _ _ h => h) (Or.inl ⟨by rfl, ?_⟩) hHeld ?_ ?_
        rotate_left
        · intro w' _
          go_simp
          with_reducible rfl
        rotate_left
        · simp only [Act.put, List.setIfInBounds_toArray, List.set_cons_zero, List.set_cons_succ, i64_w, i32_w]
          rfl
        refine take_ (i := 3) (N := some 84) (v := ?_) (a' := ?_) #[false, true, true, true, false, false, false, false, false, false, false] rfl rfl (by kernel_rfl) (fun _ _ _ h => h) (Or.inl ⟨by rfl, ?_⟩) hHeld ?_ ?_
        rotate_left
        · intro w' _
          go_simp
          with_reducible rfl
        rotate_left
        · simp only [Act.put, List.setIfInBounds_toArray, List.set_cons_zero, List.set_cons_succ, i64_w, i32_w]
          rfl
        refine take_ (i := 5) (N := some 86) (v := ?_) (a' := ?_) #[false, true, true, true, false, true, false, false, false, false, false] rfl rfl (by kernel_rfl) (fun _ _ _ h => h) (Or.inl ⟨by rfl, ?_⟩) hHeld ?_ ?_
        rotate_left
        · intro w' _
          go_simp
          with_reducible rfl
        rotate_left
        · simp only [Act.put, List.setIfInBounds_toArray, List.set_cons_zero, List.set_cons_succ, i64_w, i32_w]
          rfl
        refine take_ (i := 6) (N := some 87) (v := ?_) (a' := ?_) #[false, true, true, true, false, true, true, false, false, false, false] rfl rfl (by kernel_rfl) (fun _ _ _ h => h) (Or.inl ⟨by rfl, ?_⟩) hHeld ?_ ?_
        rotate_left
        · intro w' _
          go_simp
          with_reducible rfl
        rotate_left
        · simp only [Act.put, List.setIfInBounds_toArray, List.set_cons_zero, List.set_cons_succ, i64_w, i32_w]
          rfl
        refine take_ (i := 7) (N := some 88) (v := ?_) (a' := ?_) #[false, true, true, true, false, true, true, true, false, false, false] rfl rfl (by kernel_rfl) (fun _ _ _ h => h) (Or.inl ⟨by rfl, ?_⟩) hHeld ?_ ?_
        rotate_left
        · intro w' _
          go_simp
          with_reducible rfl
        rotate_left
        · simp only [Act.put, List.setIfInBounds_toArray, List.set_cons_zero, List.set_cons_succ, i64_w, i32_w]
          rfl
        refine take_ (i := 8) (N := some 89) (v := ?_) (a' := ?_) #[false, true, true, true, false, true, true, true, true, false, false] rfl rfl (by kernel_rfl) (fun _ _ _ h => h) (Or.inl ⟨by rfl, ?_⟩) hHeld ?_ ?_
        rotate_left
        · intro w' _
          go_simp
          with_reducible rfl
        rotate_left
        · simp only [Act.put, List.setIfInBounds_toArray, List.set_cons_zero, List.set_cons_succ, i64_w, i32_w]
          rfl
        clear hw1 hw2
        generalize (if cap = j + 1 then some (⟨g, 0, none⟩ : Addr) else some ⟨g, (j + 1) * 2, none⟩) = A89 at CD ⊢
        refine one_ (i := 0) (N := some 81) #[true, true, true, true, false, true, true, true, true, false, false] rfl rfl (by kernel_rfl) (by decide) (fun K hK => ?_)
        refine value_ (w1 := wr.drew.alloc (.cells #[] 26)) (v := .slice (some ⟨wr.drew.heap.size, 0, none⟩) 0 0) (by rfl) rfl (by first | (go_simp; done) | (go_simp; rfl)) ?_
        refine hK.out _ _ trivial ?_
        intro hHeld
        clear hK K
        refine norm_ (a' := ?_) ?_ ?_
        rotate_left
        · show Act.put _ (some 81) _ = _
          simp only [Act.put, List.setIfInBounds_toArray, List.set_cons_zero, List.set_cons_succ, i64_w, i32_w]
          rfl
        refine one_ (i := 4) (N := some 85) #[true, true, true, true, true, true, true, true, true, false, false] rfl rfl (by kernel_rfl) (by decide) (fun K hK => ?_)
        refine Kd.R_append_rows_step k26 (w0 := wr) wr.heap.size (by rfl) (.tmp 81) (.tmp 84) 36 26 (.agg #[(.int .i64 0), (.int .i64 0)]) 16 rfl Try.underlying36 info26 rfl (by decide) (by omega) (.slice (some ⟨wr.drew.heap.size, 0, none⟩) 0 0) [] (L.take j) (some ⟨g, 0, none⟩) j cap (fun _ => True) (fun _ => False) rfl rfl (made_R wr) (Kd.C_alloc (show Kd.C k26 wr.drew _ _ _ from CT.out) _) (fun x cs h => by rw [k26_open h]; exact k26_mkM _ _ _ x) (fun _ h => h.elim) (fun _ _ => trivial) (by repeat (with_reducible first | exact Below.refl _ _ | refine below_alloc ?_ _ | refine below_drew1 ?_)) (by simp) (by simp; omega) ?_
        intro v4 w4 ho4 hb4 _ _
        have O4 := Aside0.mk ho4
        have B4 := Aside0.mk hb4
        clear ho4 hb4
        refine hK.out _ _ trivial ?_
        intro hHeld
        clear hK K
        refine norm_ (a' := ?_) ?_ ?_
        rotate_left
        · show Act.put _ (some 85) _ = _
          simp only [Act.put, List.setIfInBounds_toArray, List.set_cons_zero, List.set_cons_succ, i64_w, i32_w]
          rfl
        refine one_ (i := 9) (N := some 90) #[true, true, true, true, true, true, true, true, true, true, false] rfl rfl (by kernel_rfl) (by decide) (fun K hK => ?_)
        refine Kd.R_append_rows_step k26 (w0 := wr) wr.heap.size (by rfl) (.tmp 85) (.tmp 89) 36 26 (.agg #[(.int .i64 0), (.int .i64 0)]) 16 rfl Try.underlying36 info26 rfl (by decide) (by omega) v4 ([] ++ L.take j) (L.drop (j + 1)) _ (L.length - (j + 1)) _ (fun _ => True) (fun _ => False) rfl rfl O4.out (Kd.C_below CD.out B4.out) (fun x cs h => by rw [k26_open h]; exact k26_mkM _ _ _ x) (fun _ h => h.elim) (fun _ _ => trivial) B4.out B4.out.size (by simp; omega) ?_
        intro v5 w5 ho5 hb5 _ _
        have O5 := Aside0.mk ho5
        have B5 := Aside0.mk hb5
        clear ho5 hb5
        refine hK.out _ _ trivial ?_
        intro hHeld
        clear hK K
        refine norm_ (a' := ?_) ?_ ?_
        rotate_left
        · show Act.put _ (some 90) _ = _
          simp only [Act.put, List.setIfInBounds_toArray, List.set_cons_zero, List.set_cons_succ, i64_w, i32_w]
          rfl
        refine take_ (i := 10) (N := some 12) (v := ?_) (a' := ?_) #[true, true, true, true, true, true, true, true, true, true, true] rfl rfl (by kernel_rfl) (fun _ _ _ h => h) (Or.inl ⟨by rfl, ?_⟩) hHeld ?_ ?_
        rotate_left
        · intro w' _
          go_simp
          with_reducible rfl
        rotate_left
        · simp only [Act.put, List.setIfInBounds_toArray, List.set_cons_zero, List.set_cons_succ, i64_w, i32_w]
          rfl
        refine done_ (by kernel_rfl) ?_
        obtain ⟨A12, c12, rfl, hc12, hr12⟩ := Kd.R_reads O5.out
        have C12 := Aside0.mk hc12
        have R12 := Aside0.mk hr12
        clear hc12 hr12
        obtain ⟨x, hx⟩ : ∃ x, x = L.getD j z26 := ⟨_, rfl⟩
        have HLESS := Aside0.mk (less_not HT.out hjn z26)
        rw [← hx] at HLESS
        go_wp2
        obtain ⟨cs, _, hM, hcc, _⟩ := Kd.R_elem HU.out z26 (j : Int) (by omega) (by omega)
        simp only [Int.toNat_natCast] at hM hcc
        rw [← hx] at hM
        obtain rfl := k26_openM hM
        have s0 : w5.cell? ⟨g, j * 2, none⟩ = some (.int .i64 x.f0) := (B5.out.cell (World.block_lt_of_cell? wr ⟨g, j * 2, none⟩ (hcc 0 _ rfl))).trans (hcc 0 _ rfl)
        have s1 : w5.cell? ⟨g, j * 2 + 1, none⟩ = some (.int .i64 x.f1) := (B5.out.cell (World.block_lt_of_cell? wr ⟨g, j * 2 + 1, none⟩ (hcc 1 _ rfl))).trans (hcc 1 _ rfl)
        have RW0 := Aside0.mk (hcc 0 _ rfl)
        have RW1 := Aside0.mk (hcc 1 _ rfl)
        clear hM hcc hx
        have hLs0 : L.take j ++ L.drop (j + 1) = [] ++ L.take j ++ L.drop (j + 1) := by simp
        rw [hLs0] at HLESS
        have HLN := Aside0.mk (show ([] ++ L.take j ++ L.drop (j + 1)).length < 900 by simp; omega)
        generalize [] ++ L.take j ++ L.drop (j + 1) = Ls at O5 R12 C12 HLESS HLN ⊢
        clear hLs0
        have HBASE := Aside0.mk (below_step HB.out B5.out)
        refine start_ (n := 32) (S := fun w' => w'.cell? ⟨g, j * 2, none⟩ = some (.int .i64 x.f0) ∧ w'.cell? ⟨g, j * 2 + 1, none⟩ = some (.int .i64 x.f1)) (ds := []) #[false, false, false, false, false, false, false, false, false, false, false, false, false, false, false, false, false, false, false, false, false, false, false, false, false, false, false, false, false, false, false, false] (by kernel_rfl) rfl rfl ⟨s0, s1⟩ (fun hHeld => ?_)
        refine take_ (i := 0) (N := some 91) (v := ?_) (a' := ?_) #[true, false, false, false, false, false, false, false, false, false, false, false, false, false, false, false, false, false, false, false, false, false, false, false, false, false, false, false, false, false, false, false] rfl rfl (by kernel_rfl) (fun _ _ _ h => h) (Or.inl ⟨by rfl, ?_⟩) hHeld ?_ ?_
        rotate_left
        · rintro w' ⟨t0, t1⟩
          go_simp
          with_reducible rfl
        rotate_left
        · simp only [Act.put, List.setIfInBounds_toArray, List.set_cons_zero, List.set_cons_succ, i64_w, i32_w]
          rfl
        refine one_ (i := 1) (N := some 92) #[true, true, false, false, false, false, false, false, false, false, false, false, false, false, false, false, false, false, false, false, false, false, false, false, false, false, false, false, false, false, false, false] rfl rfl (by kernel_rfl) (by decide) (fun K hK => ?_)
        refine goes_ Try.func26 (by kernel_rfl) rfl #[.slice A12 Ls.length c12] (by rfl) rfl rfl (by (try simp only [List.map_toArray, List.map_cons, List.map_nil]); first | done | rfl) ?_
        with_reducible refine (coversF A12 c12 _ Ls _ rfl (Kd.C_drew R12.out) C12.out (by have := HLN.out; omega) HLESS.out.1).mono ?_
        rintro e1 w6 ⟨rfl, hb⟩
        refine ⟨_, rfl, ?_⟩
        have O6 := Aside0.mk (Kd.R_below (Kd.R_drew O5.out) hb)
        have B6 := Aside0.mk (show Below wr.heap.size wr w6 from B5.out.trans (show Below wr.heap.size w5 w6 from ⟨hb.os, hb.tape, hb.output, hb.size, fun k hk => hb.block k (Nat.lt_of_lt_of_le hk B5.out.size)⟩))
        have T60 := Aside0.mk ((hb.cell (World.block_lt_of_cell? w5.drew ⟨g, j * 2, none⟩ hHeld.1)).trans hHeld.1)
        have T61 := Aside0.mk ((hb.cell (World.block_lt_of_cell? w5.drew ⟨g, j * 2 + 1, none⟩ hHeld.2)).trans hHeld.2)
        refine hK.out _ _ ⟨T60.out, T61.out⟩ ?_
        clear hHeld
        intro hHeld
        clear hK K hb
        refine norm_ (a' := ?_) ?_ ?_
        rotate_left
        · show Act.put _ (some 92) _ = _
          simp only [Act.put, List.setIfInBounds_toArray, List.set_cons_zero, List.set_cons_succ, i64_w, i32_w]
          rfl
        refine take_ (i := 2) (N := some 93) (v := ?_) (a' := ?_) #[true, true, true, false, false, false, false, false, false, false, false, false, false, false, false, false, false, false, false, false, false, false, false, false, false, false, false, false, false, false, false, false] rfl rfl (by kernel_rfl) (fun _ _ _ h => h) (Or.inl ⟨by rfl, ?_⟩) hHeld ?_ ?_
        rotate_left
        · rintro w' ⟨t0, t1⟩
          go_simp
          with_reducible rfl
        rotate_left
        · simp only [Act.put, List.setIfInBounds_toArray, List.set_cons_zero, List.set_cons_succ, i64_w, i32_w]
          rfl
        refine take_ (i := 3) (N := some 94) (v := ?_) (a' := ?_) #[true, true, true, true, false, false, false, false, false, false, false, false, false, false, false, false, false, false, false, false, false, false, false, false, false, false, false, false, false, false, false, false] rfl rfl (by kernel_rfl) (fun _ _ _ h => h) (Or.inl ⟨by rfl, ?_⟩) hHeld ?_ ?_
        rotate_left
        · rintro w' ⟨t0, t1⟩
          go_simp
          with_reducible rfl
        rotate_left
        · simp only [Act.put, List.setIfInBounds_toArray, List.set_cons_zero, List.set_cons_succ, i64_w, i32_w]
          rfl
        refine take_ (i := 4) (N := some 95) (v := ?_) (a' := ?_) #[true, true, true, true, true, false, false, false, false, false, false, false, false, false, false, false, false, false, false, false, false, false, false, false, false, false, false, false, false, false, false, false] rfl rfl (by kernel_rfl) (fun _ _ _ h => h) (Or.inl ⟨by rfl, ?_⟩) hHeld ?_ ?_
        rotate_left
        · rintro w' ⟨t0, t1⟩
          go_simp
          with_reducible rfl
        rotate_left
        · simp only [Act.put, List.setIfInBounds_toArray, List.set_cons_zero, List.set_cons_succ, i64_w, i32_w]
          rfl
        refine take_ (i := 5) (N := some 96) (v := ?_) (a' := ?_) #[true, true, true, true, true, true, false, false, false, false, false, false, false, false, false, false, false, false, false, false, false, false, false, false, false, false, false, false, false, false, false, false] rfl rfl (by kernel_rfl) (fun _ _ _ h => h) (Or.inl ⟨by rfl, ?_⟩) hHeld ?_ ?_
        rotate_left
        · rintro w' ⟨t0, t1⟩
          go_simp
          with_reducible rfl
        rotate_left
        · simp only [Act.put, List.setIfInBounds_toArray, List.set_cons_zero, List.set_cons_succ, i64_w, i32_w]
          rfl
        refine take_ (i := 6) (N := some 97) (v := ?_) (a' := ?_) #[true, true, true, true, true, true, true, false, false, false, false, false, false, false, false, false, false, false, false, false, false, false, false, false, false, false, false, false, false, false, false, false] rfl rfl (by kernel_rfl) (fun _ _ _ h => h) (Or.inl ⟨by rfl, ?_⟩) hHeld ?_ ?_
        rotate_left
        · rintro w' ⟨t0, t1⟩
          go_simp
          with_reducible rfl
        rotate_left
        · simp only [Act.put, List.setIfInBounds_toArray, List.set_cons_zero, List.set_cons_succ, i64_w, i32_w]
          rfl
        refine take_ (i := 7) (N := some 98) (v := ?_) (a' := ?_) #[true, true, true, true, true, true, true, true, false, false, false, false, false, false, false, false, false, false, false, false, false, false, false, false, false, false, false, false, false, false, false, false] rfl rfl (by kernel_rfl) (fun _ _ _ h => h) (Or.inl ⟨by rfl, ?_⟩) hHeld ?_ ?_
        rotate_left
        · rintro w' ⟨t0, t1⟩
          go_simp
          with_reducible rfl
        rotate_left
        · simp only [Act.put, List.setIfInBounds_toArray, List.set_cons_zero, List.set_cons_succ, i64_w, i32_w]
          rfl
        refine take_ (i := 8) (N := some 99) (v := ?_) (a' := ?_) #[true, true, true, true, true, true, true, true, true, false, false, false, false, false, false, false, false, false, false, false, false, false, false, false, false, false, false, false, false, false, false, false] rfl rfl (by kernel_rfl) (fun _ _ _ h => h) (Or.inl ⟨by rfl, ?_⟩) hHeld ?_ ?_
        rotate_left
        · rintro w' ⟨t0, t1⟩
          go_simp
          with_reducible rfl
        rotate_left
        · simp only [Act.put, List.setIfInBounds_toArray, List.set_cons_zero, List.set_cons_succ, i64_w, i32_w]
          rfl
        refine take_ (i := 9) (N := some 100) (v := ?_) (a' := ?_) #[true, true, true, true, true, true, true, true, true, true, false, false, false, false, false, false, false, false, false, false, false, false, false, false, false, false, false, false, false, false, false, false] rfl rfl (by kernel_rfl) (fun _ _ _ h => h) (Or.inl ⟨by rfl, ?_⟩) hHeld ?_ ?_
        rotate_left
        · rintro w' ⟨t0, t1⟩
          go_simp
          with_reducible rfl
        rotate_left
        · simp only [Act.put, List.setIfInBounds_toArray, List.set_cons_zero, List.set_cons_succ, i64_w, i32_w]
          rfl
        refine take_ (i := 10) (N := some 101) (v := ?_) (a' := ?_) #[true, true, true, true, true, true, true, true, true, true, true, false, false, false, false, false, false, false, false, false, false, false, false, false, false, false, false, false, false, false, false, false] rfl rfl (by kernel_rfl) (fun _ _ _ h => h) (Or.inl ⟨by rfl, ?_⟩) hHeld ?_ ?_
        rotate_left
        · rintro w' ⟨t0, t1⟩
          go_simp
          with_reducible rfl
        rotate_left
        · simp only [Act.put, List.setIfInBounds_toArray, List.set_cons_zero, List.set_cons_succ, i64_w, i32_w]
          rfl
        refine take_ (i := 11) (N := some 102) (v := ?_) (a' := ?_) #[true, true, true, true, true, true, true, true, true, true, true, true, false, false, false, false, false, false, false, false, false, false, false, false, false, false, false, false, false, false, false, false] rfl rfl (by kernel_rfl) (fun _ _ _ h => h) (Or.inl ⟨by rfl, ?_⟩) hHeld ?_ ?_
        rotate_left
        · rintro w' ⟨t0, t1⟩
          go_simp
          with_reducible rfl
        rotate_left
        · simp only [Act.put, List.setIfInBounds_toArray, List.set_cons_zero, List.set_cons_succ, i64_w, i32_w]
          rfl
        refine take_ (i := 12) (N := some 103) (v := ?_) (a' := ?_) #[true, true, true, true, true, true, true, true, true, true, true, true, true, false, false, false, false, false, false, false, false, false, false, false, false, false, false, false, false, false, false, false] rfl rfl (by kernel_rfl) (fun _ _ _ h => h) (Or.inl ⟨by rfl, ?_⟩) hHeld ?_ ?_
        rotate_left
        · rintro w' ⟨t0, t1⟩
          go_simp
          with_reducible rfl
        rotate_left
        · simp only [Act.put, List.setIfInBounds_toArray, List.set_cons_zero, List.set_cons_succ, i64_w, i32_w]
          rfl
        refine one_ (i := 13) (N := some 104) #[true, true, true, true, true, true, true, true, true, true, true, true, true, true, false, false, false, false, false, false, false, false, false, false, false, false, false, false, false, false, false, false] rfl rfl (by kernel_rfl) (by decide) (fun K hK => ?_)
        refine value_ (w1 := w6.alloc (.cells #[.int .i64 x.f0, .int .i64 x.f1, .int .i64 x.f0, .int .i64 x.f1] 26)) (v := .slice (some ⟨w6.heap.size, 0, none⟩) 2 2) (by rfl) rfl (by first | (go_simp; done) | (go_simp; rfl)) ?_
        refine hK.out _ _ ⟨((below_alloc B6.out _).cell (World.block_lt_of_cell? wr ⟨g, j * 2, none⟩ RW0.out)).trans RW0.out, ((below_alloc B6.out _).cell (World.block_lt_of_cell? wr ⟨g, j * 2 + 1, none⟩ RW1.out)).trans RW1.out⟩ ?_
        clear hHeld
        intro hHeld
        clear hK K
        refine norm_ (a' := ?_) ?_ ?_
        rotate_left
        · show Act.put _ (some 104) _ = _
          simp only [Act.put, List.setIfInBounds_toArray, List.set_cons_zero, List.set_cons_succ, i64_w, i32_w]
          rfl
        refine one_ (i := 14) (N := some 105) #[true, true, true, true, true, true, true, true, true, true, true, true, true, true, true, false, false, false, false, false, false, false, false, false, false, false, false, false, false, false, false, false] rfl rfl (by kernel_rfl) (by decide) (fun K hK => ?_)
        refine R_keep_step k26 rfl (w0 := wr) wr.heap.size (by rfl) (.tmp 95) (.tmp 104) 36 26 (.agg #[(.int .i64 0), (.int .i64 0)]) 16 rfl Try.underlying36 info26 rfl (by decide) (by omega) (.slice A12 Ls.length c12) Ls [x, x] ⟨w6.heap.size, 0, none⟩ 2 2 (fun _ => True) rfl rfl (Kd.R_below O6.out (below_alloc (Below.refl _ _) _)) [.int .i64 x.f0, .int .i64 x.f1, .int .i64 x.f0, .int .i64 x.f1] (reps2 _ _ x) rfl (new2 w6 _ _ _ _) (one2 _ _ _ _) (below_alloc B6.out _) (below_alloc B6.out _).size (by have := HLN.out; omega) ?_
        intro v7 w7 h7 h7k hb7
        have H2 := Aside0.mk HLESS.out.2.1
        have HN2 := Aside0.mk (show (Ls ++ [x, x]).length < 1000 by have := HLN.out; simp; omega)
        generalize Ls ++ [x, x] = L2 at h7 H2 HN2
        obtain ⟨A7, c7, rfl, hc7, hr7⟩ := Kd.R_reads h7
        have C7 := Aside0.mk hc7
        have R7 := Aside0.mk hr7
        have O7 := Aside0.mk h7k
        have B7 := Aside0.mk hb7
        clear hc7 hr7 h7 h7k hb7
        refine hK.out _ _ ⟨(B7.out.cell (World.block_lt_of_cell? wr ⟨g, j * 2, none⟩ RW0.out)).trans RW0.out, (B7.out.cell (World.block_lt_of_cell? wr ⟨g, j * 2 + 1, none⟩ RW1.out)).trans RW1.out⟩ ?_
        clear hHeld
        intro hHeld
        clear hK K
        refine norm_ (a' := ?_) ?_ ?_
        rotate_left
        · show Act.put _ (some 105) _ = _
          simp only [Act.put, List.setIfInBounds_toArray, List.set_cons_zero, List.set_cons_succ, i64_w, i32_w]
          rfl
        refine one_ (i := 15) (N := some 106) #[true, true, true, true, true, true, true, true, true, true, true, true, true, true, true, true, false, false, false, false, false, false, false, false, false, false, false, false, false, false, false, false] rfl rfl (by kernel_rfl) (by decide) (fun K hK => ?_)
        refine goes_ Try.func26 (by kernel_rfl) rfl #[.slice A7 L2.length c7] (by rfl) rfl rfl (by (try simp only [List.map_toArray, List.map_cons, List.map_nil]); first | done | rfl) ?_
        with_reducible refine (coversF A7 c7 _ L2 _ rfl R7.out C7.out HN2.out H2.out).mono ?_
        rintro e1 w8 ⟨rfl, hb⟩
        refine ⟨_, rfl, ?_⟩
        have O8 := Aside0.mk (Kd.R_below O7.out hb)
        have B8 := Aside0.mk (show Below wr.heap.size wr w8 from B7.out.trans (show Below wr.heap.size w7 w8 from ⟨hb.os, hb.tape, hb.output, hb.size, fun k hk => hb.block k (Nat.lt_of_lt_of_le hk B7.out.size)⟩))
        clear hb
        refine hK.out _ _ ⟨(B8.out.cell (World.block_lt_of_cell? wr ⟨g, j * 2, none⟩ RW0.out)).trans RW0.out, (B8.out.cell (World.block_lt_of_cell? wr ⟨g, j * 2 + 1, none⟩ RW1.out)).trans RW1.out⟩ ?_
        clear hHeld
        intro hHeld
        clear hK K
        refine norm_ (a' := ?_) ?_ ?_
        rotate_left
        · show Act.put _ (some 106) _ = _
          simp only [Act.put, List.setIfInBounds_toArray, List.set_cons_zero, List.set_cons_succ, i64_w, i32_w]
          rfl
        refine take_ (i := 16) (N := some 107) (v := ?_) (a' := ?_) #[true, true, true, true, true, true, true, true, true, true, true, true, true, true, true, true, true, false, false, false, false, false, false, false, false, false, false, false, false, false, false, false] rfl rfl (by kernel_rfl) (fun _ _ _ h => h) (Or.inl ⟨by rfl, ?_⟩) hHeld ?_ ?_
        rotate_left
        · rintro w' ⟨t0, t1⟩
          go_simp
          with_reducible rfl
        rotate_left
        · simp only [Act.put, List.setIfInBounds_toArray, List.set_cons_zero, List.set_cons_succ, i64_w, i32_w]
          rfl
        refine take_ (i := 17) (N := some 108) (v := ?_) (a' := ?_) #[true, true, true, true, true, true, true, true, true, true, true, true, true, true, true, true, true, true, false, false, false, false, false, false, false, false, false, false, false, false, false, false] rfl rfl (by kernel_rfl) (fun _ _ _ h => h) (Or.inl ⟨by rfl, ?_⟩) hHeld ?_ ?_
        rotate_left
        · rintro w' ⟨t0, t1⟩
          go_simp
          with_reducible rfl
        rotate_left
        · simp only [Act.put, List.setIfInBounds_toArray, List.set_cons_zero, List.set_cons_succ, i64_w, i32_w]
          rfl
        refine take_ (i := 18) (N := some 109) (v := ?_) (a' := ?_) #[true, true, true, true, true, true, true, true, true, true, true, true, true, true, true, true, true, true, true, false, false, false, false, false, false, false, false, false, false, false, false, false] rfl rfl (by kernel_rfl) (fun _ _ _ h => h) (Or.inl ⟨by rfl, ?_⟩) hHeld ?_ ?_
        rotate_left
        · rintro w' ⟨t0, t1⟩
          go_simp
          with_reducible rfl
        rotate_left
        · simp only [Act.put, List.setIfInBounds_toArray, List.set_cons_zero, List.set_cons_succ, i64_w, i32_w]
          rfl
        refine take_ (i := 19) (N := some 110) (v := ?_) (a' := ?_) #[true, true, true, true, true, true, true, true, true, true, true, true, true, true, true, true, true, true, true, true, false, false, false, false, false, false, false, false, false, false, false, false] rfl rfl (by kernel_rfl) (fun _ _ _ h => h) (Or.inl ⟨by rfl, ?_⟩) hHeld ?_ ?_
        rotate_left
        · rintro w' ⟨t0, t1⟩
          go_simp
          with_reducible rfl
        rotate_left
        · simp only [Act.put, List.setIfInBounds_toArray, List.set_cons_zero, List.set_cons_succ, i64_w, i32_w]
          rfl
        refine take_ (i := 20) (N := some 111) (v := ?_) (a' := ?_) #[true, true, true, true, true, true, true, true, true, true, true, true, true, true, true, true, true, true, true, true, true, false, false, false, false, false, false, false, false, false, false, false] rfl rfl (by kernel_rfl) (fun _ _ _ h => h) (Or.inl ⟨by rfl, ?_⟩) hHeld ?_ ?_
        rotate_left
        · rintro w' ⟨t0, t1⟩
          go_simp
          with_reducible rfl
        rotate_left
        · simp only [Act.put, List.setIfInBounds_toArray, List.set_cons_zero, List.set_cons_succ, i64_w, i32_w]
          rfl
        refine take_ (i := 21) (N := some 112) (v := ?_) (a' := ?_) #[true, true, true, true, true, true, true, true, true, true, true, true, true, true, true, true, true, true, true, true, true, true, false, false, false, false, false, false, false, false, false, false] rfl rfl (by kernel_rfl) (fun _ _ _ h => h) (Or.inl ⟨by rfl, ?_⟩) hHeld ?_ ?_
        rotate_left
        · rintro w' ⟨t0, t1⟩
          go_simp
          with_reducible rfl
        rotate_left
        · simp only [Act.put, List.setIfInBounds_toArray, List.set_cons_zero, List.set_cons_succ, i64_w, i32_w]
          rfl
        refine take_ (i := 22) (N := some 113) (v := ?_) (a' := ?_) #[true, true, true, true, true, true, true, true, true, true, true, true, true, true, true, true, true, true, true, true, true, true, true, false, false, false, false, false, false, false, false, false] rfl rfl (by kernel_rfl) (fun _ _ _ h => h) (Or.inl ⟨by rfl, ?_⟩) hHeld ?_ ?_
        rotate_left
        · rintro w' ⟨t0, t1⟩
          go_simp
          with_reducible rfl
        rotate_left
        · simp only [Act.put, List.setIfInBounds_toArray, List.set_cons_zero, List.set_cons_succ, i64_w, i32_w]
          rfl
        refine take_ (i := 23) (N := some 114) (v := ?_) (a' := ?_) #[true, true, true, true, true, true, true, true, true, true, true, true, true, true, true, true, true, true, true, true, true, true, true, true, false, false, false, false, false, false, false, false] rfl rfl (by kernel_rfl) (fun _ _ _ h => h) (Or.inl ⟨by rfl, ?_⟩) hHeld ?_ ?_
        rotate_left
        · rintro w' ⟨t0, t1⟩
          go_simp
          with_reducible rfl
        rotate_left
        · simp only [Act.put, List.setIfInBounds_toArray, List.set_cons_zero, List.set_cons_succ, i64_w, i32_w]
          rfl
        refine one_ (i := 24) (N := some 115) #[true, true, true, true, true, true, true, true, true, true, true, true, true, true, true, true, true, true, true, true, true, true, true, true, true, false, false, false, false, false, false, false] rfl rfl (by kernel_rfl) (by decide) (fun K hK => ?_)
        refine value_ (w1 := w8.alloc (.cells #[.int .i64 x.f0, .int .i64 x.f1] 26)) (v := .slice (some ⟨w8.heap.size, 0, none⟩) 1 1) (by rfl) rfl (by first | (go_simp; done) | (go_simp; rfl)) ?_
        refine hK.out _ _ ⟨((below_alloc B8.out _).cell (World.block_lt_of_cell? wr ⟨g, j * 2, none⟩ RW0.out)).trans RW0.out, ((below_alloc B8.out _).cell (World.block_lt_of_cell? wr ⟨g, j * 2 + 1, none⟩ RW1.out)).trans RW1.out⟩ ?_
        clear hHeld
        intro hHeld
        clear hK K
        refine norm_ (a' := ?_) ?_ ?_
        rotate_left
        · show Act.put _ (some 115) _ = _
          simp only [Act.put, List.setIfInBounds_toArray, List.set_cons_zero, List.set_cons_succ, i64_w, i32_w]
          rfl
        refine one_ (i := 25) (N := some 116) #[true, true, true, true, true, true, true, true, true, true, true, true, true, true, true, true, true, true, true, true, true, true, true, true, true, true, false, false, false, false, false, false] rfl rfl (by kernel_rfl) (by decide) (fun K hK => ?_)
        refine R_keep_step k26 rfl (w0 := wr) wr.heap.size (by rfl) (.tmp 110) (.tmp 115) 36 26 (.agg #[(.int .i64 0), (.int .i64 0)]) 16 rfl Try.underlying36 info26 rfl (by decide) (by omega) (.slice A12 Ls.length c12) Ls [x] ⟨w8.heap.size, 0, none⟩ 1 1 (fun _ => True) rfl rfl (Kd.R_below O8.out (below_alloc (Below.refl _ _) _)) [.int .i64 x.f0, .int .i64 x.f1] (reps1 _ _ x) rfl (new1 w8 _ _) (one1 _ _) (below_alloc B8.out _) (below_alloc B8.out _).size (by have := HLN.out; omega) ?_
        intro v9 w9 h9 _ hb9
        have H1 := Aside0.mk HLESS.out.2.2
        have HN1 := Aside0.mk (show (Ls ++ [x]).length < 1000 by have := HLN.out; simp; omega)
        generalize Ls ++ [x] = L1 at h9 H1 HN1
        obtain ⟨A9, c9, rfl, hc9, hr9⟩ := Kd.R_reads h9
        have C9 := Aside0.mk hc9
        have R9 := Aside0.mk hr9
        have B9 := Aside0.mk hb9
        clear hc9 hr9 h9 hb9
        refine hK.out _ _ ⟨(B9.out.cell (World.block_lt_of_cell? wr ⟨g, j * 2, none⟩ RW0.out)).trans RW0.out, (B9.out.cell (World.block_lt_of_cell? wr ⟨g, j * 2 + 1, none⟩ RW1.out)).trans RW1.out⟩ ?_
        clear hHeld
        intro hHeld
        clear hK K
        refine norm_ (a' := ?_) ?_ ?_
        rotate_left
        · show Act.put _ (some 116) _ = _
          simp only [Act.put, List.setIfInBounds_toArray, List.set_cons_zero, List.set_cons_succ, i64_w, i32_w]
          rfl
        refine one_ (i := 26) (N := some 117) #[true, true, true, true, true, true, true, true, true, true, true, true, true, true, true, true, true, true, true, true, true, true, true, true, true, true, true, false, false, false, false, false] rfl rfl (by kernel_rfl) (by decide) (fun K hK => ?_)
        refine goes_ Try.func26 (by kernel_rfl) rfl #[.slice A9 L1.length c9] (by rfl) rfl rfl (by (try simp only [List.map_toArray, List.map_cons, List.map_nil]); first | done | rfl) ?_
        with_reducible refine (coversT A9 c9 _ L1 _ rfl R9.out C9.out HN1.out H1.out).mono ?_
        rintro e1 w10 ⟨rfl, hb⟩
        refine ⟨_, rfl, ?_⟩
        have B10 := Aside0.mk (show Below wr.heap.size wr w10 from B9.out.trans (show Below wr.heap.size w9 w10 from ⟨hb.os, hb.tape, hb.output, hb.size, fun k hk => hb.block k (Nat.lt_of_lt_of_le hk B9.out.size)⟩))
        clear hb
        refine hK.out _ _ ⟨(B10.out.cell (World.block_lt_of_cell? wr ⟨g, j * 2, none⟩ RW0.out)).trans RW0.out, (B10.out.cell (World.block_lt_of_cell? wr ⟨g, j * 2 + 1, none⟩ RW1.out)).trans RW1.out⟩ ?_
        clear hHeld
        intro hHeld
        clear hK K
        refine norm_ (a' := ?_) ?_ ?_
        rotate_left
        · show Act.put _ (some 117) _ = _
          simp only [Act.put, List.setIfInBounds_toArray, List.set_cons_zero, List.set_cons_succ, i64_w, i32_w]
          rfl
        refine take_ (i := 27) (N := some 118) (v := ?_) (a' := ?_) #[true, true, true, true, true, true, true, true, true, true, true, true, true, true, true, true, true, true, true, true, true, true, true, true, true, true, true, true, false, false, false, false] rfl rfl (by kernel_rfl) (fun _ _ _ h => h) (Or.inl ⟨by rfl, ?_⟩) hHeld ?_ ?_
        rotate_left
        · rintro w' ⟨t0, t1⟩
          go_simp
          with_reducible rfl
        rotate_left
        · simp only [Act.put, List.setIfInBounds_toArray, List.set_cons_zero, List.set_cons_succ, i64_w, i32_w]
          rfl
        refine take_ (i := 28) (N := some 119) (v := ?_) (a' := ?_) #[true, true, true, true, true, true, true, true, true, true, true, true, true, true, true, true, true, true, true, true, true, true, true, true, true, true, true, true, true, false, false, false] rfl rfl (by kernel_rfl) (fun _ _ _ h => h) (Or.inl ⟨by rfl, ?_⟩) hHeld ?_ ?_
        rotate_left
        · rintro w' ⟨t0, t1⟩
          go_simp
          with_reducible rfl
        rotate_left
        · simp only [Act.put, List.setIfInBounds_toArray, List.set_cons_zero, List.set_cons_succ, i64_w, i32_w]
          rfl
        refine one_ (i := 29) (N := some 120) #[true, true, true, true, true, true, true, true, true, true, true, true, true, true, true, true, true, true, true, true, true, true, true, true, true, true, true, true, true, true, false, false] rfl rfl (by kernel_rfl) (by decide) (fun K hK => ?_)
        refine goes_ Try.func12 (by kernel_rfl) rfl #[] (by rfl) rfl rfl (by (try simp only [List.map_toArray, List.map_cons, List.map_nil]); first | done | rfl) ?_
        with_reducible refine (worksC _).mono ?_
        rintro e1 w11 ⟨rfl, hb⟩
        refine ⟨_, rfl, ?_⟩
        have B11 := Aside0.mk (show Below wr.heap.size wr w11 from B10.out.trans (show Below wr.heap.size w10 w11 from ⟨hb.os, hb.tape, hb.output, hb.size, fun k hk => hb.block k (Nat.lt_of_lt_of_le hk B10.out.size)⟩))
        clear hb
        refine hK.out _ _ ⟨(B11.out.cell (World.block_lt_of_cell? wr ⟨g, j * 2, none⟩ RW0.out)).trans RW0.out, (B11.out.cell (World.block_lt_of_cell? wr ⟨g, j * 2 + 1, none⟩ RW1.out)).trans RW1.out⟩ ?_
        clear hHeld
        intro hHeld
        clear hK K
        refine norm_ (a' := ?_) ?_ ?_
        rotate_left
        · show Act.put _ (some 120) _ = _
          simp only [Act.put, List.setIfInBounds_toArray, List.set_cons_zero, List.set_cons_succ, i64_w, i32_w]
          rfl
        refine take_ (i := 30) (N := some 121) (v := ?_) (a' := ?_) #[true, true, true, true, true, true, true, true, true, true, true, true, true, true, true, true, true, true, true, true, true, true, true, true, true, true, true, true, true, true, true, false] rfl rfl (by kernel_rfl) (fun _ _ _ h => h) (Or.inl ⟨by rfl, ?_⟩) hHeld ?_ ?_
        rotate_left
        · rintro w' ⟨t0, t1⟩
          go_simp
          with_reducible rfl
        rotate_left
        · simp only [Act.put, List.setIfInBounds_toArray, List.set_cons_zero, List.set_cons_succ, i64_w, i32_w]
          rfl
        refine take_ (i := 31) (N := some 4) (v := ?_) (a' := ?_) #[true, true, true, true, true, true, true, true, true, true, true, true, true, true, true, true, true, true, true, true, true, true, true, true, true, true, true, true, true, true, true, true] rfl rfl (by kernel_rfl) (fun _ _ _ h => h) (Or.inl ⟨by rfl, ?_⟩) hHeld ?_ ?_
        rotate_left
        · rintro w' ⟨t0, t1⟩
          go_simp
          with_reducible rfl
        rotate_left
        · simp only [Act.put, List.setIfInBounds_toArray, List.set_cons_zero, List.set_cons_succ, i64_w, i32_w]
          rfl
        refine done_ (by kernel_rfl) ?_
        go_wp2
        go_ret
        exact ⟨rfl, HB.out.trans (show Below w.heap.size wr w11 from ⟨B11.out.os, B11.out.tape, B11.out.output, B11.out.size, fun k hk => B11.out.block k (Nat.lt_of_lt_of_le hk HB.out.size)⟩)⟩
      · have hltz : ¬ (i : Int) < (l0.length : Int) := by omega
        go_wp2
        clear hLC
        have hidx := modN which (L.length : Int) (by omega) (by omega)
        generalize hjz : (wrap64 (which.tmod (L.length : Int) + (L.length : Int))).tmod (L.length : Int) = jz at hidx ⊢
        obtain ⟨j, rfl⟩ : ∃ j : Nat, jz = (j : Int) := ⟨jz.toNat, by omega⟩
        clear hjz
        have hjn : j < L.length := by omega
        have hjc : (j : Int) ≤ (cap : Int) := by have := HLC.out.1; omega
        have hj1 : (j : Int) + 1 ≤ (L.length : Int) := by omega
        have hj2 : j + 1 ≤ L.length := Nat.succ_le_of_lt hjn
        have hLC2 := HLC.out.1
        have hj0 : (0 : Int) ≤ (j : Int) + 1 := by omega
        have hjc1 : (j : Int) + 1 ≤ (cap : Int) := by have := HLC.out.1; omega
        have CL := Aside0.mk HLC.out.2
        have HTL := Aside0.mk (show (L.take j).length = j by rw [List.length_take]; omega)
        have CT := Aside0.mk (show Kd.C k26 wr (some ⟨g, 0, none⟩) j (L.take j) from my_len (Kd.C_take HLC.out.2 (Nat.le_of_lt hjn)) HTL.out)
        have CD := Aside0.mk (show Kd.C k26 wr (if cap = j + 1 then some ⟨g, 0, none⟩ else some ⟨g, (j + 1) * 2, none⟩) (L.length - (j + 1)) (L.drop (j + 1)) by
          have h_ := Kd.C_drop HLC.out.2 hj2 HLC.out.1
          have h2_ := my_len h_ (show (L.drop (j + 1)).length = L.length - (j + 1) from List.length_drop)
          by_cases hcj : cap = j + 1
          · rw [if_pos hcj] at h2_ ⊢; exact h2_
          · rw [if_neg hcj] at h2_ ⊢
            have e_ : (some (⟨g, 0, none⟩ : Addr)).map (·.add ((j + 1) * k26.sz)) = some ⟨g, (j + 1) * 2, none⟩ := by show some ((⟨g, 0, none⟩ : Addr).add ((j + 1) * 2)) = _; rw [add_at, Nat.zero_add]
            rw [e_] at h2_; exact h2_)
        have hw1 : wrap64 ((j : Int) + 1) = (j : Int) + 1 := wrapS (by omega) (by omega)
        have hw2 : IntKind.i64.wrap ((j : Int) + 1) = (j : Int) + 1 := (i64_w _).trans hw1
        refine start_ (n := 11) (S := fun _ => True) (ds := []) #[false, false, false, false, false, false, false, false, false, false, false] (by kernel_rfl) rfl rfl trivial (fun hHeld => ?_)
        refine take_ (i := 1) (N := some 82) (v := ?_) (a' := ?_) #[false, true, false, false, false, false, false, false, false, false, false] rfl rfl (by kernel_rfl) (fun _ _ _ h => h) (Or.inl ⟨by rfl, ?_⟩) hHeld ?_ ?_
        rotate_left
        · intro w' _
          go_simp
          with_reducible rfl
        rotate_left
        · simp only [Act.put, List.setIfInBounds_toArray, List.set_cons_zero, List.set_cons_succ, i64_w, i32_w]
          rfl
        refine take_ (i := 2) (N := some 83) (v := ?_) (a' := ?_) #[false, true, true, false, false, false, false, false, false, false, false] rfl rfl (by kernel_rfl) (fun _ _ _ h => h) (Or.inl ⟨by rfl, ?_⟩) hHeld ?_ ?_
        rotate_left
        · intro w' _
          go_simp
          with_reducible rfl
        rotate_left
        · simp only [Act.put, List.setIfInBounds_toArray, List.set_cons_zero, List.set_cons_succ, i64_w, i32_w]
          rfl
        refine take_ (i := 3) (N := some 84) (v := ?_) (a' := ?_) #[false, true, true, true, false, false, false, false, false, false, false] rfl rfl (by kernel_rfl) (fun _ _ _ h => h) (Or.inl ⟨by rfl, ?_⟩) hHeld ?_ ?_
        rotate_left
        · intro w' _
          go_simp
          with_reducible rfl
        rotate_left
        · simp only [Act.put, List.setIfInBounds_toArray, List.set_cons_zero, List.set_cons_succ, i64_w, i32_w]
          rfl
        refine take_ (i := 5) (N := some 86) (v := ?_) (a' := ?_) #[false, true, true, true, false, true, false, false, false, false, false] rfl rfl (by kernel_rfl) (fun _ _ _ h => h) (Or.inl ⟨by rfl, ?_⟩) hHeld ?_ ?_
        rotate_left
        · intro w' _
          go_simp
          with_reducible rfl
        rotate_left
        · simp only [Act.put, List.setIfInBounds_toArray, List.set_cons_zero, List.set_cons_succ, i64_w, i32_w]
          rfl
        refine take_ (i := 6) (N := some 87) (v := ?_) (a' := ?_) #[false, true, true, true, false, true, true, false, false, false, false] rfl rfl (by kernel_rfl) (fun _ _ _ h => h) (Or.inl ⟨by rfl, ?_⟩) hHeld ?_ ?_
        rotate_left
        · intro w' _
          go_simp
          with_reducible rfl
        rotate_left
        · simp only [Act.put, List.setIfInBounds_toArray, List.set_cons_zero, List.set_cons_succ, i64_w, i32_w]
          rfl
        refine take_ (i := 7) (N := some 88) (v := ?_) (a' := ?_) #[false, true, true, true, false, true, true, true, false, false, false] rfl rfl (by kernel_rfl) (fun _ _ _ h => h) (Or.inl ⟨by rfl, ?_⟩) hHeld ?_ ?_
        rotate_left
        · intro w' _
          go_simp
          with_reducible rfl
        rotate_left
        · simp only [Act.put, List.setIfInBounds_toArray, List.set_cons_zero, List.set_cons_succ, i64_w, i32_w]
          rfl
        refine take_ (i := 8) (N := some 89) (v := ?_) (a' := ?_) #[false, true, true, true, false, true, true, true, true, false, false] rfl rfl (by kernel_rfl) (fun _ _ _ h => h) (Or.inl ⟨by rfl, ?_⟩) hHeld ?_ ?_
        rotate_left
        · intro w' _
          go_simp
          with_reducible rfl
        rotate_left
        · simp only [Act.put, List.setIfInBounds_toArray, List.set_cons_zero, List.set_cons_succ, i64_w, i32_w]
          rfl
        clear hw1 hw2
        generalize (if cap = j + 1 then some (⟨g, 0, none⟩ : Addr) else some ⟨g, (j + 1) * 2, none⟩) = A89 at CD ⊢
        refine one_ (i := 0) (N := some 81) #[true, true, true, true, false, true, true, true, true, false, false] rfl rfl (by kernel_rfl) (by decide) (fun K hK => ?_)
        refine value_ (w1 := wr.drew.alloc (.cells #[] 26)) (v := .slice (some ⟨wr.drew.heap.size, 0, none⟩) 0 0) (by rfl) rfl (by first | (go_simp; done) | (go_simp; rfl)) ?_
        refine hK.out _ _ trivial ?_
        intro hHeld
        clear hK K
        refine norm_ (a' := ?_) ?_ ?_
        rotate_left
        · show Act.put _ (some 81) _ = _
          simp only [Act.put, List.setIfInBounds_toArray, List.set_cons_zero, List.set_cons_succ, i64_w, i32_w]
          rfl
        refine one_ (i := 4) (N := some 85) #[true, true, true, true, true, true, true, true, true, false, false] rfl rfl (by kernel_rfl) (by decide) (fun K hK => ?_)
        refine Kd.R_append_rows_step k26 (w0 := wr) wr.heap.size (by rfl) (.tmp 81) (.tmp 84) 36 26 (.agg #[(.int .i64 0), (.int .i64 0)]) 16 rfl Try.underlying36 info26 rfl (by decide) (by omega) (.slice (some ⟨wr.drew.heap.size, 0, none⟩) 0 0) [] (L.take j) (some ⟨g, 0, none⟩) j cap (fun _ => True) (fun _ => False) rfl rfl (made_R wr) (Kd.C_alloc (show Kd.C k26 wr.drew _ _ _ from CT.out) _) (fun x cs h => by rw [k26_open h]; exact k26_mkM _ _ _ x) (fun _ h => h.elim) (fun _ _ => trivial) (by repeat (with_reducible first | exact Below.refl _ _ | refine below_alloc ?_ _ | refine below_drew1 ?_)) (by simp) (by simp; omega) ?_
        intro v4 w4 ho4 hb4 _ _
        have O4 := Aside0.mk ho4
        have B4 := Aside0.mk hb4
        clear ho4 hb4
        refine hK.out _ _ trivial ?_
        intro hHeld
        clear hK K
        refine norm_ (a' := ?_) ?_ ?_
        rotate_left
        · show Act.put _ (some 85) _ = _
          simp only [Act.put, List.setIfInBounds_toArray, List.set_cons_zero, List.set_cons_succ, i64_w, i32_w]
          rfl
        refine one_ (i := 9) (N := some 90) #[true, true, true, true, true, true, true, true, true, true, false] rfl rfl (by kernel_rfl) (by decide) (fun K hK => ?_)
        refine Kd.R_append_rows_step k26 (w0 := wr) wr.heap.size (by rfl) (.tmp 85) (.tmp 89) 36 26 (.agg #[(.int .i64 0), (.int .i64 0)]) 16 rfl Try.underlying36 info26 rfl (by decide) (by omega) v4 ([] ++ L.take j) (L.drop (j + 1)) _ (L.length - (j + 1)) _ (fun _ => True) (fun _ => False) rfl rfl O4.out (Kd.C_below CD.out B4.out) (fun x cs h => by rw [k26_open h]; exact k26_mkM _ _ _ x) (fun _ h => h.elim) (fun _ _ => trivial) B4.out B4.out.size (by simp; omega) ?_
        intro v5 w5 ho5 hb5 _ _
        have O5 := Aside0.mk ho5
        have B5 := Aside0.mk hb5
        clear ho5 hb5
        refine hK.out _ _ trivial ?_
        intro hHeld
        clear hK K
        refine norm_ (a' := ?_) ?_ ?_
        rotate_left
        · show Act.put _ (some 90) _ = _
          simp only [Act.put, List.setIfInBounds_toArray, List.set_cons_zero, List.set_cons_succ, i64_w, i32_w]
          rfl
        refine take_ (i := 10) (N := some 12) (v := ?_) (a' := ?_) #[true, true, true, true, true, true, true, true, true, true, true] rfl rfl (by kernel_rfl) (fun _ _ _ h => h) (Or.inl ⟨by rfl, ?_⟩) hHeld ?_ ?_
        rotate_left
        · intro w' _
          go_simp
          with_reducible rfl
        rotate_left
        · simp only [Act.put, List.setIfInBounds_toArray, List.set_cons_zero, List.set_cons_succ, i64_w, i32_w]
          rfl
        refine done_ (by kernel_rfl) ?_
        obtain ⟨A12, c12, rfl, hc12, hr12⟩ := Kd.R_reads O5.out
        have C12 := Aside0.mk hc12
        have R12 := Aside0.mk hr12
        clear hc12 hr12
        obtain ⟨x, hx⟩ : ∃ x, x = L.getD j z26 := ⟨_, rfl⟩
        have HLESS := Aside0.mk (less_not HT.out hjn z26)
        rw [← hx] at HLESS
        go_wp2
        obtain ⟨cs, _, hM, hcc, _⟩ := Kd.R_elem HU.out z26 (j : Int) (by omega) (by omega)
        simp only [Int.toNat_natCast] at hM hcc
        rw [← hx] at hM
        obtain rfl := k26_openM hM
        have s0 : w5.cell? ⟨g, j * 2, none⟩ = some (.int .i64 x.f0) := (B5.out.cell (World.block_lt_of_cell? wr ⟨g, j * 2, none⟩ (hcc 0 _ rfl))).trans (hcc 0 _ rfl)
        have s1 : w5.cell? ⟨g, j * 2 + 1, none⟩ = some (.int .i64 x.f1) := (B5.out.cell (World.block_lt_of_cell? wr ⟨g, j * 2 + 1, none⟩ (hcc 1 _ rfl))).trans (hcc 1 _ rfl)
        have RW0 := Aside0.mk (hcc 0 _ rfl)
        have RW1 := Aside0.mk (hcc 1 _ rfl)
        clear hM hcc hx
        have hLs0 : L.take j ++ L.drop (j + 1) = [] ++ L.take j ++ L.drop (j + 1) := by simp
        rw [hLs0] at HLESS
        have HLN := Aside0.mk (show ([] ++ L.take j ++ L.drop (j + 1)).length < 900 by simp; omega)
        generalize [] ++ L.take j ++ L.drop (j + 1) = Ls at O5 R12 C12 HLESS HLN ⊢
        clear hLs0
        have HBASE := Aside0.mk (below_step HB.out B5.out)
        refine start_ (n := 32) (S := fun w' => w'.cell? ⟨g, j * 2, none⟩ = some (.int .i64 x.f0) ∧ w'.cell? ⟨g, j * 2 + 1, none⟩ = some (.int .i64 x.f1)) (ds := []) #[false, false, false, false, false, false, false, false, false, false, false, false, false, false, false, false, false, false, false, false, false, false, false, false, false, false, false, false, false, false, false, false] (by kernel_rfl) rfl rfl ⟨s0, s1⟩ (fun hHeld => ?_)
        refine take_ (i := 0) (N := some 91) (v := ?_) (a' := ?_) #[true, false, false, false, false, false, false, false, false, false, false, false, false, false, false, false, false, false, false, false, false, false, false, false, false, false, false, false, false, false, false, false] rfl rfl (by kernel_rfl) (fun _ _ _ h => h) (Or.inl ⟨by rfl, ?_⟩) hHeld ?_ ?_
        rotate_left
        · rintro w' ⟨t0, t1⟩
          go_simp
          with_reducible rfl
        rotate_left
        · simp only [Act.put, List.setIfInBounds_toArray, List.set_cons_zero, List.set_cons_succ, i64_w, i32_w]
          rfl
        refine one_ (i := 1) (N := some 92) #[true, true, false, false, false, false, false, false, false, false, false, false, false, false, false, false, false, false, false, false, false, false, false, false, false, false, false, false, false, false, false, false] rfl rfl (by kernel_rfl) (by decide) (fun K hK => ?_)
        refine goes_ Try.func26 (by kernel_rfl) rfl #[.slice A12 Ls.length c12] (by rfl) rfl rfl (by (try simp only [List.map_toArray, List.map_cons, List.map_nil]); first | done | rfl) ?_
        with_reducible refine (coversF A12 c12 _ Ls _ rfl (Kd.C_drew R12.out) C12.out (by have := HLN.out; omega) HLESS.out.1).mono ?_
        rintro e1 w6 ⟨rfl, hb⟩
        refine ⟨_, rfl, ?_⟩
        have O6 := Aside0.mk (Kd.R_below (Kd.R_drew O5.out) hb)
        have B6 := Aside0.mk (show Below wr.heap.size wr w6 from B5.out.trans (show Below wr.heap.size w5 w6 from ⟨hb.os, hb.tape, hb.output, hb.size, fun k hk => hb.block k (Nat.lt_of_lt_of_le hk B5.out.size)⟩))
        have T60 := Aside0.mk ((hb.cell (World.block_lt_of_cell? w5.drew ⟨g, j * 2, none⟩ hHeld.1)).trans hHeld.1)
        have T61 := Aside0.mk ((hb.cell (World.block_lt_of_cell? w5.drew ⟨g, j * 2 + 1, none⟩ hHeld.2)).trans hHeld.2)
        refine hK.out _ _ ⟨T60.out, T61.out⟩ ?_
        clear hHeld
        intro hHeld
        clear hK K hb
        refine norm_ (a' := ?_) ?_ ?_
        rotate_left
        · show Act.put _ (some 92) _ = _
          simp only [Act.put, List.setIfInBounds_toArray, List.set_cons_zero, List.set_cons_succ, i64_w, i32_w]
          rfl
        refine take_ (i := 2) (N := some 93) (v := ?_) (a' := ?_) #[true, true, true, false, false, false, false, false, false, false, false, false, false, false, false, false, false, false, false, false, false, false, false, false, false, false, false, false, false, false, false, false] rfl rfl (by kernel_rfl) (fun _ _ _ h => h) (Or.inl ⟨by rfl, ?_⟩) hHeld ?_ ?_
        rotate_left
        · rintro w' ⟨t0, t1⟩
          go_simp
          with_reducible rfl
        rotate_left
        · simp only [Act.put, List.setIfInBounds_toArray, List.set_cons_zero, List.set_cons_succ, i64_w, i32_w]
          rfl
        refine take_ (i := 3) (N := some 94) (v := ?_) (a' := ?_) #[true, true, true, true, false, false, false, false, false, false, false, false, false, false, false, false, false, false, false, false, false, false, false, false, false, false, false, false, false, false, false, false] rfl rfl (by kernel_rfl) (fun _ _ _ h => h) (Or.inl ⟨by rfl, ?_⟩) hHeld ?_ ?_
        rotate_left
        · rintro w' ⟨t0, t1⟩
          go_simp
          with_reducible rfl
        rotate_left
        · simp only [Act.put, List.setIfInBounds_toArray, List.set_cons_zero, List.set_cons_succ, i64_w, i32_w]
          rfl
        refine take_ (i := 4) (N := some 95) (v := ?_) (a' := ?_) #[true, true, true, true, true, false, false, false, false, false, false, false, false, false, false, false, false, false, false, false, false, false, false, false, false, false, false, false, false, false, false, false] rfl rfl (by kernel_rfl) (fun _ _ _ h => h) (Or.inl ⟨by rfl, ?_⟩) hHeld ?_ ?_
        rotate_left
        · rintro w' ⟨t0, t1⟩
          go_simp
          with_reducible rfl
        rotate_left
        · simp only [Act.put, List.setIfInBounds_toArray, List.set_cons_zero, List.set_cons_succ, i64_w, i32_w]
          rfl
        refine take_ (i := 5) (N := some 96) (v := ?_) (a' := ?_) #[true, true, true, true, true, true, false, false, false, false, false, false, false, false, false, false, false, false, false, false, false, false, false, false, false, false, false, false, false, false, false, false] rfl rfl (by kernel_rfl) (fun _ _ _ h => h) (Or.inl ⟨by rfl, ?_⟩) hHeld ?_ ?_
        rotate_left
        · rintro w' ⟨t0, t1⟩
          go_simp
          with_reducible rfl
        rotate_left
        · simp only [Act.put, List.setIfInBounds_toArray, List.set_cons_zero, List.set_cons_succ, i64_w, i32_w]
          rfl
        refine take_ (i := 6) (N := some 97) (v := ?_) (a' := ?_) #[true, true, true, true, true, true, true, false, false, false, false, false, false, false, false, false, false, false, false, false, false, false, false, false, false, false, false, false, false, false, false, false] rfl rfl (by kernel_rfl) (fun _ _ _ h => h) (Or.inl ⟨by rfl, ?_⟩) hHeld ?_ ?_
        rotate_left
        · rintro w' ⟨t0, t1⟩
          go_simp
          with_reducible rfl
        rotate_left
        · simp only [Act.put, List.setIfInBounds_toArray, List.set_cons_zero, List.set_cons_succ, i64_w, i32_w]
          rfl
        refine take_ (i := 7) (N := some 98) (v := ?_) (a' := ?_) #[true, true, true, true, true, true, true, true, false, false, false, false, false, false, false, false, false, false, false, false, false, false, false, false, false, false, false, false, false, false, false, false] rfl rfl (by kernel_rfl) (fun _ _ _ h => h) (Or.inl ⟨by rfl, ?_⟩) hHeld ?_ ?_
        rotate_left
        · rintro w' ⟨t0, t1⟩
          go_simp
          with_reducible rfl
        rotate_left
        · simp only [Act.put, List.setIfInBounds_toArray, List.set_cons_zero, List.set_cons_succ, i64_w, i32_w]
          rfl
        refine take_ (i := 8) (N := some 99) (v := ?_) (a' := ?_) #[true, true, true, true, true, true, true, true, true, false, false, false, false, false, false, false, false, false, false, false, false, false, false, false, false, false, false, false, false, false, false, false] rfl rfl (by kernel_rfl) (fun _ _ _ h => h) (Or.inl ⟨by rfl, ?_⟩) hHeld ?_ ?_
        rotate_left
        · rintro w' ⟨t0, t1⟩
          go_simp
          with_reducible rfl
        rotate_left
        · simp only [Act.put, List.setIfInBounds_toArray, List.set_cons_zero, List.set_cons_succ, i64_w, i32_w]
          rfl
        refine take_ (i := 9) (N := some 100) (v := ?_) (a' := ?_) #[true, true, true, true, true, true, true, true, true, true, false, false, false, false, false, false, false, false, false, false, false, false, false, false, false, false, false, false, false, false, false, false] rfl rfl (by kernel_rfl) (fun _ _ _ h => h) (Or.inl ⟨by rfl, ?_⟩) hHeld ?_ ?_
        rotate_left
        · rintro w' ⟨t0, t1⟩
          go_simp
          with_reducible rfl
        rotate_left
        · simp only [Act.put, List.setIfInBounds_toArray, List.set_cons_zero, List.set_cons_succ, i64_w, i32_w]
          rfl
        refine take_ (i := 10) (N := some 101) (v := ?_) (a' := ?_) #[true, true, true, true, true, true, true, true, true, true, true, false, false, false, false, false, false, false, false, false, false, false, false, false, false, false, false, false, false, false, false, false] rfl rfl (by kernel_rfl) (fun _ _ _ h => h) (Or.inl ⟨by rfl, ?_⟩) hHeld ?_ ?_
        rotate_left
        · rintro w' ⟨t0, t1⟩
          go_simp
          with_reducible rfl
        rotate_left
        · simp only [Act.put, List.setIfInBounds_toArray, List.set_cons_zero, List.set_cons_succ, i64_w, i32_w]
          rfl
        refine take_ (i := 11) (N := some 102) (v := ?_) (a' := ?_) #[true, true, true, true, true, true, true, true, true, true, true, true, false, false, false, false, false, false, false, false, false, false, false, false, false, false, false, false, false, false, false, false] rfl rfl (by kernel_rfl) (fun _ _ _ h => h) (Or.inl ⟨by rfl, ?_⟩) hHeld ?_ ?_
        rotate_left
        · rintro w' ⟨t0, t1⟩
          go_simp
          with_reducible rfl
        rotate_left
        · simp only [Act.put, List.setIfInBounds_toArray, List.set_cons_zero, List.set_cons_succ, i64_w, i32_w]
          rfl
        refine take_ (i := 12) (N := some 103) (v := ?_) (a' := ?_) #[true, true, true, true, true, true, true, true, true, true, true, true, true, false, false, false, false, false, false, false, false, false, false, false, false, false, false, false, false, false, false, false] rfl rfl (by kernel_rfl) (fun _ _ _ h => h) (Or.inl ⟨by rfl, ?_⟩) hHeld ?_ ?_
        rotate_left
        · rintro w' ⟨t0, t1⟩
          go_simp
          with_reducible rfl
        rotate_left
        · simp only [Act.put, List.setIfInBounds_toArray, List.set_cons_zero, List.set_cons_succ, i64_w, i32_w]
          rfl
        refine one_ (i := 13) (N := some 104) #[true, true, true, true, true, true, true, true, true, true, true, true, true, true, false, false, false, false, false, false, false, false, false, false, false, false, false, false, false, false, false, false] rfl rfl (by kernel_rfl) (by decide) (fun K hK => ?_)
        refine value_ (w1 := w6.alloc (.cells #[.int .i64 x.f0, .int .i64 x.f1, .int .i64 x.f0, .int .i64 x.f1] 26)) (v := .slice (some ⟨w6.heap.size, 0, none⟩) 2 2) (by rfl) rfl (by first | (go_simp; done) | (go_simp; rfl)) ?_
        refine hK.out _ _ ⟨((below_alloc B6.out _).cell (World.block_lt_of_cell? wr ⟨g, j * 2, none⟩ RW0.out)).trans RW0.out, ((below_alloc B6.out _).cell (World.block_lt_of_cell? wr ⟨g, j * 2 + 1, none⟩ RW1.out)).trans RW1.out⟩ ?_
        clear hHeld
        intro hHeld
        clear hK K
        refine norm_ (a' := ?_) ?_ ?_
        rotate_left
        · show Act.put _ (some 104) _ = _
          simp only [Act.put, List.setIfInBounds_toArray, List.set_cons_zero, List.set_cons_succ, i64_w, i32_w]
          rfl
        refine one_ (i := 14) (N := some 105) #[true, true, true, true, true, true, true, true, true, true, true, true, true, true, true, false, false, false, false, false, false, false, false, false, false, false, false, false, false, false, false, false] rfl rfl (by kernel_rfl) (by decide) (fun K hK => ?_)
        refine R_keep_step k26 rfl (w0 := wr) wr.heap.size (by rfl) (.tmp 95) (.tmp 104) 36 26 (.agg #[(.int .i64 0), (.int .i64 0)]) 16 rfl Try.underlying36 info26 rfl (by decide) (by omega) (.slice A12 Ls.length c12) Ls [x, x] ⟨w6.heap.size, 0, none⟩ 2 2 (fun _ => True) rfl rfl (Kd.R_below O6.out (below_alloc (Below.refl _ _) _)) [.int .i64 x.f0, .int .i64 x.f1, .int .i64 x.f0, .int .i64 x.f1] (reps2 _ _ x) rfl (new2 w6 _ _ _ _) (one2 _ _ _ _) (below_alloc B6.out _) (below_alloc B6.out _).size (by have := HLN.out; omega) ?_
        intro v7 w7 h7 h7k hb7
        have H2 := Aside0.mk HLESS.out.2.1
        have HN2 := Aside0.mk (show (Ls ++ [x, x]).length < 1000 by have := HLN.out; simp; omega)
        generalize Ls ++ [x, x] = L2 at h7 H2 HN2
        obtain ⟨A7, c7, rfl, hc7, hr7⟩ := Kd.R_reads h7
        have C7 := Aside0.mk hc7
        have R7 := Aside0.mk hr7
        have O7 := Aside0.mk h7k
        have B7 := Aside0.mk hb7
        clear hc7 hr7 h7 h7k hb7
        refine hK.out _ _ ⟨(B7.out.cell (World.block_lt_of_cell? wr ⟨g, j * 2, none⟩ RW0.out)).trans RW0.out, (B7.out.cell (World.block_lt_of_cell? wr ⟨g, j * 2 + 1, none⟩ RW1.out)).trans RW1.out⟩ ?_
        clear hHeld
        intro hHeld
        clear hK K
        refine norm_ (a' := ?_) ?_ ?_
        rotate_left
        · show Act.put _ (some 105) _ = _
          simp only [Act.put, List.setIfInBounds_toArray, List.set_cons_zero, List.set_cons_succ, i64_w, i32_w]
          rfl
        refine one_ (i := 15) (N := some 106) #[true, true, true, true, true, true, true, true, true, true, true, true, true, true, true, true, false, false, false, false, false, false, false, false, false, false, false, false, false, false, false, false] rfl rfl (by kernel_rfl) (by decide) (fun K hK => ?_)
        refine goes_ Try.func26 (by kernel_rfl) rfl #[.slice A7 L2.length c7] (by rfl) rfl rfl (by (try simp only [List.map_toArray, List.map_cons, List.map_nil]); first | done | rfl) ?_
        with_reducible refine (coversF A7 c7 _ L2 _ rfl R7.out C7.out HN2.out H2.out).mono ?_
        rintro e1 w8 ⟨rfl, hb⟩
        refine ⟨_, rfl, ?_⟩
        have O8 := Aside0.mk (Kd.R_below O7.out hb)
        have B8 := Aside0.mk (show Below wr.heap.size wr w8 from B7.out.trans (show Below wr.heap.size w7 w8 from ⟨hb.os, hb.tape, hb.output, hb.size, fun k hk => hb.block k (Nat.lt_of_lt_of_le hk B7.out.size)⟩))
        clear hb
        refine hK.out _ _ ⟨(B8.out.cell (World.block_lt_of_cell? wr ⟨g, j * 2, none⟩ RW0.out)).trans RW0.out, (B8.out.cell (World.block_lt_of_cell? wr ⟨g, j * 2 + 1, none⟩ RW1.out)).trans RW1.out⟩ ?_
        clear hHeld
        intro hHeld
        clear hK K
        refine norm_ (a' := ?_) ?_ ?_
        rotate_left
        · show Act.put _ (some 106) _ = _
          simp only [Act.put, List.setIfInBounds_toArray, List.set_cons_zero, List.set_cons_succ, i64_w, i32_w]
          rfl
        refine take_ (i := 16) (N := some 107) (v := ?_) (a' := ?_) #[true, true, true, true, true, true, true, true, true, true, true, true, true, true, true, true, true, false, false, false, false, false, false, false, false, false, false, false, false, false, false, false] rfl rfl (by kernel_rfl) (fun _ _ _ h => h) (Or.inl ⟨by rfl, ?_⟩) hHeld ?_ ?_
        rotate_left
        · rintro w' ⟨t0, t1⟩
          go_simp
          with_reducible rfl
        rotate_left
        · simp only [Act.put, List.setIfInBounds_toArray, List.set_cons_zero, List.set_cons_succ, i64_w, i32_w]
          rfl
        refine take_ (i := 17) (N := some 108) (v := ?_) (a' := ?_) #[true, true, true, true, true, true, true, true, true, true, true, true, true, true, true, true, true, true, false, false, false, false, false, false, false, false, false, false, false, false, false, false] rfl rfl (by kernel_rfl) (fun _ _ _ h => h) (Or.inl ⟨by rfl, ?_⟩) hHeld ?_ ?_
        rotate_left
        · rintro w' ⟨t0, t1⟩
          go_simp
          with_reducible rfl
        rotate_left
        · simp only [Act.put, List.setIfInBounds_toArray, List.set_cons_zero, List.set_cons_succ, i64_w, i32_w]
          rfl
        refine take_ (i := 18) (N := some 109) (v := ?_) (a' := ?_) #[true, true, true, true, true, true, true, true, true, true, true, true, true, true, true, true, true, true, true, false, false, false, false, false, false, false, false, false, false, false, false, false] rfl rfl (by kernel_rfl) (fun _ _ _ h => h) (Or.inl ⟨by rfl, ?_⟩) hHeld ?_ ?_
        rotate_left
        · rintro w' ⟨t0, t1⟩
          go_simp
          with_reducible rfl
        rotate_left
        · simp only [Act.put, List.setIfInBounds_toArray, List.set_cons_zero, List.set_cons_succ, i64_w, i32_w]
          rfl
        refine take_ (i := 19) (N := some 110) (v := ?_) (a' := ?_) #[true, true, true, true, true, true, true, true, true, true, true, true, true, true, true, true, true, true, true, true, false, false, false, false, false, false, false, false, false, false, false, false] rfl rfl (by kernel_rfl) (fun _ _ _ h => h) (Or.inl ⟨by rfl, ?_⟩) hHeld ?_ ?_
        rotate_left
        · rintro w' ⟨t0, t1⟩
          go_simp
          with_reducible rfl
        rotate_left
        · simp only [Act.put, List.setIfInBounds_toArray, List.set_cons_zero, List.set_cons_succ, i64_w, i32_w]
          rfl
        refine take_ (i := 20) (N := some 111) (v := ?_) (a' := ?_) #[true, true, true, true, true, true, true, true, true, true, true, true, true, true, true, true, true, true, true, true, true, false, false, false, false, false, false, false, false, false, false, false] rfl rfl (by kernel_rfl) (fun _ _ _ h => h) (Or.inl ⟨by rfl, ?_⟩) hHeld ?_ ?_
        rotate_left
        · rintro w' ⟨t0, t1⟩
          go_simp
          with_reducible rfl
        rotate_left
        · simp only [Act.put, List.setIfInBounds_toArray, List.set_cons_zero, List.set_cons_succ, i64_w, i32_w]
          rfl
        refine take_ (i := 21) (N := some 112) (v := ?_) (a' := ?_) #[true, true, true, true, true, true, true, true, true, true, true, true, true, true, true, true, true, true, true, true, true, true, false, false, false, false, false, false, false, false, false, false] rfl rfl (by kernel_rfl) (fun _ _ _ h => h) (Or.inl ⟨by rfl, ?_⟩) hHeld ?_ ?_
        rotate_left
        · rintro w' ⟨t0, t1⟩
          go_simp
          with_reducible rfl
        rotate_left
        · simp only [Act.put, List.setIfInBounds_toArray, List.set_cons_zero, List.set_cons_succ, i64_w, i32_w]
          rfl
        refine take_ (i := 22) (N := some 113) (v := ?_) (a' := ?_) #[true, true, true, true, true, true, true, true, true, true, true, true, true, true, true, true, true, true, true, true, true, true, true, false, false, false, false, false, false, false, false, false] rfl rfl (by kernel_rfl) (fun _ _ _ h => h) (Or.inl ⟨by rfl, ?_⟩) hHeld ?_ ?_
        rotate_left
        · rintro w' ⟨t0, t1⟩
          go_simp
          with_reducible rfl
        rotate_left
        · simp only [Act.put, List.setIfInBounds_toArray, List.set_cons_zero, List.set_cons_succ, i64_w, i32_w]
          rfl
        refine take_ (i := 23) (N := some 114) (v := ?_) (a' := ?_) #[true, true, true, true, true, true, true, true, true, true, true, true, true, true, true, true, true, true, true, true, true, true, true, true, false, false, false, false, false, false, false, false] rfl rfl (by kernel_rfl) (fun _ _ _ h => h) (Or.inl ⟨by rfl, ?_⟩) hHeld ?_ ?_
        rotate_left
        · rintro w' ⟨t0, t1⟩
          go_simp
          with_reducible rfl
        rotate_left
        · simp only [Act.put, List.setIfInBounds_toArray, List.set_cons_zero, List.set_cons_succ, i64_w, i32_w]
          rfl
        refine one_ (i := 24) (N := some 115) #[true, true, true, true, true, true, true, true, true, true, true, true, true, true, true, true, true, true, true, true, true, true, true, true, true, false, false, false, false, false, false, false] rfl rfl (by kernel_rfl) (by decide) (fun K hK => ?_)
        refine value_ (w1 := w8.alloc (.cells #[.int .i64 x.f0, .int .i64 x.f1] 26)) (v := .slice (some ⟨w8.heap.size, 0, none⟩) 1 1) (by rfl) rfl (by first | (go_simp; done) | (go_simp; rfl)) ?_
        refine hK.out _ _ ⟨((below_alloc B8.out _).cell (World.block_lt_of_cell? wr ⟨g, j * 2, none⟩ RW0.out)).trans RW0.out, ((below_alloc B8.out _).cell (World.block_lt_of_cell? wr ⟨g, j * 2 + 1, none⟩ RW1.out)).trans RW1.out⟩ ?_
        clear hHeld
        intro hHeld
        clear hK K
        refine norm_ (a' := ?_) ?_ ?_
        rotate_left
        · show Act.put _ (some 115) _ = _
          simp only [Act.put, List.setIfInBounds_toArray, List.set_cons_zero, List.set_cons_succ, i64_w, i32_w]
          rfl
        refine one_ (i := 25) (N := some 116) #[true, true, true, true, true, true, true, true, true, true, true, true, true, true, true, true, true, true, true, true, true, true, true, true, true, true, false, false, false, false, false, false] rfl rfl (by kernel_rfl) (by decide) (fun K hK => ?_)
        refine R_keep_step k26 rfl (w0 := wr) wr.heap.size (by rfl) (.tmp 110) (.tmp 115) 36 26 (.agg #[(.int .i64 0), (.int .i64 0)]) 16 rfl Try.underlying36 info26 rfl (by decide) (by omega) (.slice A12 Ls.length c12) Ls [x] ⟨w8.heap.size, 0, none⟩ 1 1 (fun _ => True) rfl rfl (Kd.R_below O8.out (below_alloc (Below.refl _ _) _)) [.int .i64 x.f0, .int .i64 x.f1] (reps1 _ _ x) rfl (new1 w8 _ _) (one1 _ _) (below_alloc B8.out _) (below_alloc B8.out _).size (by have := HLN.out; omega) ?_
        intro v9 w9 h9 _ hb9
        have H1 := Aside0.mk HLESS.out.2.2
        have HN1 := Aside0.mk (show (Ls ++ [x]).length < 1000 by have := HLN.out; simp; omega)
        generalize Ls ++ [x] = L1 at h9 H1 HN1
        obtain ⟨A9, c9, rfl, hc9, hr9⟩ := Kd.R_reads h9
        have C9 := Aside0.mk hc9
        have R9 := Aside0.mk hr9
        have B9 := Aside0.mk hb9
        clear hc9 hr9 h9 hb9
        refine hK.out _ _ ⟨(B9.out.cell (World.block_lt_of_cell? wr ⟨g, j * 2, none⟩ RW0.out)).trans RW0.out, (B9.out.cell (World.block_lt_of_cell? wr ⟨g, j * 2 + 1, none⟩ RW1.out)).trans RW1.out⟩ ?_
        clear hHeld
        intro hHeld
        clear hK K
        refine norm_ (a' := ?_) ?_ ?_
        rotate_left
        · show Act.put _ (some 116) _ = _
          simp only [Act.put, List.setIfInBounds_toArray, List.set_cons_zero, List.set_cons_succ, i64_w, i32_w]
          rfl
        refine one_ (i := 26) (N := some 117) #[true, true, true, true, true, true, true, true, true, true, true, true, true, true, true, true, true, true, true, true, true, true, true, true, true, true, true, false, false, false, false, false] rfl rfl (by kernel_rfl) (by decide) (fun K hK => ?_)
        refine goes_ Try.func26 (by kernel_rfl) rfl #[.slice A9 L1.length c9] (by rfl) rfl rfl (by (try simp only [List.map_toArray, List.map_cons, List.map_nil]); first | done | rfl) ?_
        with_reducible refine (coversT A9 c9 _ L1 _ rfl R9.out C9.out HN1.out H1.out).mono ?_
        rintro e1 w10 ⟨rfl, hb⟩
        refine ⟨_, rfl, ?_⟩
        have B10 := Aside0.mk (show Below wr.heap.size wr w10 from B9.out.trans (show Below wr.heap.size w9 w10 from ⟨hb.os, hb.tape, hb.output, hb.size, fun k hk => hb.block k (Nat.lt_of_lt_of_le hk B9.out.size)⟩))
        clear hb
        refine hK.out _ _ ⟨(B10.out.cell (World.block_lt_of_cell? wr ⟨g, j * 2, none⟩ RW0.out)).trans RW0.out, (B10.out.cell (World.block_lt_of_cell? wr ⟨g, j * 2 + 1, none⟩ RW1.out)).trans RW1.out⟩ ?_
        clear hHeld
        intro hHeld
        clear hK K
        refine norm_ (a' := ?_) ?_ ?_
        rotate_left
        · show Act.put _ (some 117) _ = _
          simp only [Act.put, List.setIfInBounds_toArray, List.set_cons_zero, List.set_cons_succ, i64_w, i32_w]
          rfl
        refine take_ (i := 27) (N := some 118) (v := ?_) (a' := ?_) #[true, true, true, true, true, true, true, true, true, true, true, true, true, true, true, true, true, true, true, true, true, true, true, true, true, true, true, true, false, false, false, false] rfl rfl (by kernel_rfl) (fun _ _ _ h => h) (Or.inl ⟨by rfl, ?_⟩) hHeld ?_ ?_
        rotate_left
        · rintro w' ⟨t0, t1⟩
          go_simp
          with_reducible rfl
        rotate_left
        · simp only [Act.put, List.setIfInBounds_toArray, List.set_cons_zero, List.set_cons_succ, i64_w, i32_w]
          rfl
        refine take_ (i := 28) (N := some 119) (v := ?_) (a' := ?_) #[true, true, true, true, true, true, true, true, true, true, true, true, true, true, true, true, true, true, true, true, true, true, true, true, true, true, true, true, true, false, false, false] rfl rfl (by kernel_rfl) (fun _ _ _ h => h) (Or.inl ⟨by rfl, ?_⟩) hHeld ?_ ?_
        rotate_left
        · rintro w' ⟨t0, t1⟩
          go_simp
          with_reducible rfl
        rotate_left
        · simp only [Act.put, List.setIfInBounds_toArray, List.set_cons_zero, List.set_cons_succ, i64_w, i32_w]
          rfl
        refine one_ (i := 29) (N := some 120) #[true, true, true, true, true, true, true, true, true, true, true, true, true, true, true, true, true, true, true, true, true, true, true, true, true, true, true, true, true, true, false, false] rfl rfl (by kernel_rfl) (by decide) (fun K hK => ?_)
        refine goes_ Try.func12 (by kernel_rfl) rfl #[] (by rfl) rfl rfl (by (try simp only [List.map_toArray, List.map_cons, List.map_nil]); first | done | rfl) ?_
        with_reducible refine (worksC _).mono ?_
        rintro e1 w11 ⟨rfl, hb⟩
        refine ⟨_, rfl, ?_⟩
        have B11 := Aside0.mk (show Below wr.heap.size wr w11 from B10.out.trans (show Below wr.heap.size w10 w11 from ⟨hb.os, hb.tape, hb.output, hb.size, fun k hk => hb.block k (Nat.lt_of_lt_of_le hk B10.out.size)⟩))
        clear hb
        refine hK.out _ _ ⟨(B11.out.cell (World.block_lt_of_cell? wr ⟨g, j * 2, none⟩ RW0.out)).trans RW0.out, (B11.out.cell (World.block_lt_of_cell? wr ⟨g, j * 2 + 1, none⟩ RW1.out)).trans RW1.out⟩ ?_
        clear hHeld
        intro hHeld
        clear hK K
        refine norm_ (a' := ?_) ?_ ?_
        rotate_left
        · show Act.put _ (some 120) _ = _
          simp only [Act.put, List.setIfInBounds_toArray, List.set_cons_zero, List.set_cons_succ, i64_w, i32_w]
          rfl
        refine take_ (i := 30) (N := some 121) (v := ?_) (a' := ?_) #[true, true, true, true, true, true, true, true, true, true, true, true, true, true, true, true, true, true, true, true, true, true, true, true, true, true, true, true, true, true, true, false] rfl rfl (by kernel_rfl) (fun _ _ _ h => h) (Or.inl ⟨by rfl, ?_⟩) hHeld ?_ ?_
        rotate_left
        · rintro w' ⟨t0, t1⟩
          go_simp
          with_reducible rfl
        rotate_left
        · simp only [Act.put, List.setIfInBounds_toArray, List.set_cons_zero, List.set_cons_succ, i64_w, i32_w]
          rfl
        refine take_ (i := 31) (N := some 4) (v := ?_) (a' := ?_) #[true, true, true, true, true, true, true, true, true, true, true, true, true, true, true, true, true, true, true, true, true, true, true, true, true, true, true, true, true, true, true, true] rfl rfl (by kernel_rfl) (fun _ _ _ h => h) (Or.inl ⟨by rfl, ?_⟩) hHeld ?_ ?_
        rotate_left
        · rintro w' ⟨t0, t1⟩
          go_simp
          with_reducible rfl
        rotate_left
        · simp only [Act.put, List.setIfInBounds_toArray, List.set_cons_zero, List.set_cons_succ, i64_w, i32_w]
          rfl
        refine done_ (by kernel_rfl) ?_
        go_wp2
        go_ret
        exact ⟨rfl, HB.out.trans (show Below w.heap.size wr w11 from ⟨B11.out.os, B11.out.tape, B11.out.output, B11.out.size, fun k hk => B11.out.block k (Nat.lt_of_lt_of_le hk HB.out.size)⟩)⟩
end Go.Proofs.Ytimlagmgcfaepaa.P
