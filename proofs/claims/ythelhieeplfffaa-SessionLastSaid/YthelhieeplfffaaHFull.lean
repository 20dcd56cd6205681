/- The law SessionFull, walked by hand: it returns true. No conditions. -/
import Derived.Test.YthelhieeplfffaaHLook
namespace Go.Proofs.Ythelhieeplfffaa.P
open Go.RowKit Go.Maps Go.Sort Go.Shelf Go.Proofs.YthelhieeplfffaaW.PrintWords Go.Proofs.YthelhieeplfffaaW.PrintLast Go.Proofs.YthelhieeplfffaaW.PrintMore
set_option linter.unusedVariables false
set_option linter.unusedSimpArgs false
attribute [local go_sem] max2_int min2_int max_two min_two

theorem sortsA (m : Nat) : AnyZI.SortsIn Try.prog Try.sortedA_ren Fence.wide m :=
  ⟨fun blk off cap ss W hH hblk hsz => callsIn_wide.2 (AnyM.slices_Sort_int Try.sortA blk off cap ss W hH hblk hsz),
   fun p cap W => callsIn_wide.2 (AnyM.slices_Sort_int_none Try.sortA p cap W)⟩
theorem keysC (mb : Option Nat) (W : World) : Calls Try.prog 24 #[.map mb] W fun e w' => e = .returned (.func (.func 35) #[] #[.pointer (some ⟨W.heap.size, 0, none⟩)]) ∧ w' = W.alloc (.cells #[.map mb] 46) :=
  (callsIn_wide (n := 5)).1 (AnyZI.keys_in Try.keysA Fence.wide 5 trivial rfl mb W)
set_option maxHeartbeats 1000000 in
theorem sortedC (b nn : Nat) (D0 : DataW Value) (w : World) (hown : w.ownsMap Try.prog 3 RH b nn D0) (hmax : Maps.size D0 ≤ maxLen) (hbytes : Maps.size D0 * 8 ≤ 140737488355328) :
    Calls Try.prog 23 #[.func (.func 35) #[] #[.pointer (some ⟨w.heap.size, 0, none⟩)]] (w.alloc (.cells #[.map (some b)] 46)) fun e w' => ∃ (v : Value) (ss : List Int), e = .returned v ∧ ss.Perm (intKeys D0) ∧
      w'.ownsRow (w.alloc (.cells #[.map (some b)] 46)).heap.size 3 1 v ss.length ((ss.mergeSort (fun x y => decide (x ≤ y))).map encZ) ∧ (v = .slice none 0 0 ↔ ss = []) ∧ Below (w.alloc (.cells #[.map (some b)] 46)).heap.size (w.alloc (.cells #[.map (some b)] 46)) w' := by
  refine (callsIn_wide (n := 5)).1 ?_
  have hbl := hown.lt
  have hseq : SeqGives Fence.wide 2 Try.prog 35 #[.pointer (some ⟨w.heap.size, 0, none⟩)] encZ (fun ss => ss.Perm (intKeys D0)) (Maps.size D0) (w.alloc (.cells #[.map (some b)] 46)) :=
    AnyZI.keys_gives (ρ := Try.keysA_ren) { Try.keysA with } Fence.wide _ trivial rfl (by omega) w.heap.size b nn D0 _ (by simp) (by simp) (by
      obtain ⟨es, clock, hb, Ft, hs, hD⟩ := hown
      exact ⟨es, clock, (Below.heap_alloc _ _ b hbl).trans hb, Ft, hs, hD⟩)
  have cS := AnyZI.sorted_in Try.sortedA Fence.wide 5 trivial trivial trivial trivial rfl (by omega) (sortsA _) (enters_of Try.func34 (by kernel_rfl) rfl) 35 #[.pointer (some ⟨w.heap.size, 0, none⟩)] trivial (enters_of Try.func35 (by kernel_rfl) rfl) _ _ hmax hbytes _ hseq
  change CallsIn _ _ Try.prog 23 _ _ _ at cS
  exact cS
theorem own_slice {w : World} {base e size n : Nat} {v : Value} {xs : List Value} (h : w.ownsRow base e size v n xs) : ∃ A c, v = .slice A n c := by
  rcases h.2 with ⟨rfl, rfl⟩ | ⟨g, cap, cur, rfl, _⟩
  · exact ⟨none, 0, rfl⟩
  · exact ⟨_, cap, rfl⟩
theorem sortedM (b nn : Nat) (D0 : DataW Value) (w : World) (M : List (Int × La)) (hown : w.ownsMap Try.prog 3 RH b nn D0) (hV : RelT D0 M) (hM : M.length ≤ 1000) :
    Calls Try.prog 23 #[.func (.func 35) #[] #[.pointer (some ⟨w.heap.size, 0, none⟩)]] (w.alloc (.cells #[.map (some b)] 46)) fun e w' => ∃ A c, e = .returned (.slice A M.length c) ∧ Below w.heap.size w w' := by
  have hsz := hV.size
  refine (sortedC b nn D0 w hown (by unfold maxLen; omega) (by omega)).mono ?_
  rintro e w' ⟨v, ss, rfl, hS, hrow, _, hb⟩
  have hnd : (M.map (·.1)).Nodup := List.pairwise_map.2 hV.apart
  have p1 : (M.map (·.1)).Perm (intKeys D0) := CollectedI.perm (left := fun _ => false) ⟨hnd, fun x => by rw [hV.keys x, List.mem_map]; simp⟩ hown law3 Try.underlying3 (fun _ => rfl)
  have hl : ss.length = M.length := by rw [hS.length_eq, ← p1.length_eq, List.length_map]
  rw [hl] at hrow
  obtain ⟨A, c, rfl⟩ := own_slice hrow
  exact ⟨A, c, rfl, ((Below.refl _ w).alloc (Nat.le_refl _) _).trans (hb.mono (by simp))⟩
set_option maxHeartbeats 2000000 in
theorem clientsC (w : World) (B b q : Nat) (M : List (Int × La)) (h : TabAt w B b q M) (hM : M.length ≤ 1000) :
    Calls Try.prog 13 #[.pointer (some ⟨B, 0, none⟩)] w fun e w' => ∃ A c, e = .returned (.slice A M.length c) ∧ Below w.heap.size w w' := by
  obtain ⟨hb, D, hown, hrel⟩ := h
  have HB := Aside0.mk hb
  have cS := sortedM b q D w M hown hrel hM
  have hcell : w.cell? ⟨B, 0, none⟩ = some (.map (some b)) := (blk_cell hb 0).trans rfl
  clear hb hown hrel hM
  go_enter Try.func13, Try.ntmps13
  go_wp2_with (first
    | (go_at_call 18; (with_reducible refine (noneC _ B b HB.out).mono ?_); rintro e1 w1 ⟨rfl, rfl⟩)
    | (go_at_call 24; refine (keysC _ _).mono ?_; rintro e w' ⟨rfl, rfl⟩)
    | (go_at_call 23; refine cS.mono ?_; rintro e w2 ⟨A5, c5, rfl, hb2⟩; clear cS))
  go_ret
  exact ⟨_, _, rfl, hb2⟩
set_option maxHeartbeats 2000000 in
theorem worksC (w : World) : Calls Try.prog 12 #[] w fun e w' => e = .returned (.bool true) ∧ Below w.heap.size w w' := by
  go_enter Try.func12, Try.ntmps12
  go_wp2_with (first
    | (go_at_call 6; (with_reducible refine (newC _).mono ?_); rintro e1 w1 ⟨B, b, rfl, hB, hb, hT, hb1⟩; have T1 := Aside0.mk hT; have B1 := Aside0.mk hb1; have LB := Aside0.mk hb; clear hT hb1 hb)
    | (go_at_call 8; (with_reducible refine (noteNew _ B b 0 [] T1.out 1 5 0 3 0 (by omega) (by omega) (by simp) (by simp) (by omega)).mono ?_); rintro e1 w2 ⟨rfl, hT, hg⟩; have T2 := Aside0.mk hT; have B2 := Aside0.mk (B1.out.grown hg B1.out.size (fun k hk => by cases hk; exact LB.out)); clear hT hg)
    | (go_at_call 9; (with_reducible refine (lookHit _ B b _ _ T2.out 1 5 (by omega) (by omega) ⟨5, 0, 3, 0⟩ (by simp) rfl).mono ?_); rintro e1 w3 ⟨rfl, hb⟩; have T3 := Aside0.mk (T2.out.below hb); have B3 := Aside0.mk (B2.out.trans (hb.mono B2.out.size)); clear hb)
    | (go_at_call 9; (with_reducible refine (lookLess _ B b _ _ (T3.out.below (below_alloc (Below.refl _ _) _)) 1 4 (by omega) (by omega) ⟨5, 0, 3, 0⟩ (by simp) (by decide)).mono ?_); rintro e1 w4 ⟨rfl, hb⟩; have KR := Aside0.mk (blk_below (g := w3.heap.size) (o := .cells #[.int .i64 0, .int .i64 3, .int .i64 0, .slice none 0 0, .slice none 0 0, .slice none 0 0] 32 (0, 0)) (heap_alloc_new w3 _) hb); have T4 := Aside0.mk ((T3.out.below (below_alloc (Below.refl _ _) _)).below hb); have B4 := Aside0.mk (below_step (below_alloc B3.out _) hb); clear hb)
    | (go_at_call 9; (with_reducible refine (lookMore _ B b _ _ (T4.out.below (below_alloc (Below.refl _ _) _)) 1 6 (by omega) (by omega) ⟨5, 0, 3, 0⟩ (by simp) (by decide)).mono ?_); rintro e1 w5 ⟨rfl, hb⟩; have KR5 := Aside0.mk (blk_below (g := w3.heap.size) (o := .cells #[.int .i64 0, .int .i64 3, .int .i64 0, .slice none 0 0, .slice none 0 0, .slice none 0 0] 32 (0, 0)) (blk_alloc KR.out _) hb); have kl := blk_lt KR5.out; have kn := Nat.ne_of_lt kl; have kc : w5.cell? ⟨w3.heap.size, 1, none⟩ = some (.int .i64 3) := (blk_cell KR5.out 1).trans rfl; have B5 := Aside0.mk (below_step (below_alloc B4.out _) hb); clear hb))
  go_ret
  refine ⟨rfl, ?_⟩
  repeat (with_reducible first | exact B5.out | refine below_alloc ?_ _)
theorem tmodB (n k : Int) (hk : 0 < k) : -k < n.tmod k ∧ n.tmod k < k := ⟨Int.lt_tmod_of_pos n hk, Int.tmod_lt_of_pos n hk⟩
theorem wrapS {x : Int} (h1 : -9223372036854775808 ≤ x) (h2 : x ≤ 9223372036854775807) : wrap64 x = x := by unfold wrap64; omega
theorem modB (n k o : Int) (hk : 0 < k) (hk2 : k ≤ 100000) (ho : 0 ≤ o) (ho2 : o ≤ 100000) : o ≤ wrap64 (o + (wrap64 (n.tmod k + k)).tmod k) ∧ wrap64 (o + (wrap64 (n.tmod k + k)).tmod k) < o + k := by
  obtain ⟨h1, h2⟩ := tmodB n k hk
  rw [wrapS (x := n.tmod k + k) (by omega) (by omega)]
  have h3 := Int.tmod_nonneg k (a := n.tmod k + k) (by omega)
  have h4 := (tmodB (n.tmod k + k) k hk).2
  rw [wrapS (by omega) (by omega)]
  omega
/-- The first k clients, each answered its own number. -/
def MS (k : Nat) (num : Int) : List (Int × La) := (List.range k).map fun (j : Nat) => ((j : Int) + 1, (⟨num, 0, 0, (j : Int) + 1⟩ : La))
theorem MS_succ (k : Nat) (num : Int) : MS (k + 1) num = MS k num ++ [((k : Int) + 1, ⟨num, 0, 0, (k : Int) + 1⟩)] := by unfold MS; rw [List.range_succ, List.map_append]; rfl
theorem MS_len (k : Nat) (num : Int) : (MS k num).length = k := by simp [MS]
theorem MS_no (k : Nat) (num c : Int) (h : (k : Int) < c) : ∀ x ∈ MS k num, x.1 ≠ c := by
  intro x hx
  obtain ⟨j, hj, rfl⟩ := List.mem_map.1 hx
  have := List.mem_range.1 hj
  show (j : Int) + 1 ≠ c
  omega
set_option maxHeartbeats 8000000 in
set_option maxRecDepth 100000 in
theorem full.calls (n num : Int) (w : World) : Calls Try.prog 4 #[.int .i64 n, .int .i64 num] w fun e w' => e = .returned (.bool true) ∧ Below w.heap.size w w' := by
  have hN := modB n 20 55 (by omega) (by omega) (by omega) (by omega)
  have hM := modB num 1000 1 (by omega) (by omega) (by omega) (by omega)
  go_enter Try.func4, Try.ntmps4
  go_wp2_with (first
    | (go_at_call 6; (with_reducible refine (newC _).mono ?_); rintro e1 w1 ⟨B, b, rfl, hB, hb, hT, hb1⟩; have T1 := Aside0.mk hT; have B1 := Aside0.mk hb1; have LB := Aside0.mk hb; clear hT hb1 hb))
  generalize hn0 : wrap64 (55 + (wrap64 (n.tmod 20 + 20)).tmod 20) = nz at hN ⊢
  generalize hm0 : wrap64 (1 + (wrap64 (num.tmod 1000 + 1000)).tmod 1000) = mz at hM ⊢
  obtain ⟨nn, rfl⟩ : ∃ nn : Nat, nz = (nn : Int) := ⟨nz.toNat, by omega⟩
  have hnn : 55 ≤ nn ∧ nn < 75 := by omega
  have HNN := Aside0.mk hnn
  have HMM := Aside0.mk hM
  clear hN hM hn0 hm0 hnn
  go_loopg [6] nn (fun kq v6 w' => ∃ i : Nat, v6 = .int .i64 ((i : Int) + 1) ∧ i ≤ nn ∧ nn - i ≤ kq ∧ Aside0 (TabAt w' B b i (MS (min i 64) mz)) ∧ Aside0 (Below w.heap.size w w'))
  case atStart => exact ⟨0, rfl, Nat.zero_le _, by omega, T1, B1⟩
  case round =>
    obtain ⟨i, rfl, hi, hg, HT, HB⟩ := hrel
    by_cases hlt : i < nn
    · have hle : decide ((i : Int) + 1 ≤ (nn : Int)) = true := decide_eq_true (by omega)
      have hw1 : wrap64 ((i : Int) + 1 + 1) = (i : Int) + 1 + 1 := wrapS (by have := HNN.out; omega) (by have := HNN.out; omega)
      by_cases h64 : i < 64
      · have f1 : decide ((i : Int) + 1 ≤ 64) = true := decide_eq_true (by omega)
        have hT := HT.out
        rw [Nat.min_eq_left (by omega)] at hT
        have T2 := Aside0.mk hT
        clear hT
        go_wp2_with (go_at_call 8; (with_reducible refine (noteNew _ B b i _ T2.out ((i : Int) + 1) mz 0 0 ((i : Int) + 1) (by omega) (by have := HMM.out; omega) (MS_no i mz _ (by omega)) (by rw [MS_len]; omega) (by omega)).mono ?_); rintro e1 w2 ⟨rfl, hT, hg⟩; have T3 := Aside0.mk hT; have B3 := Aside0.mk (HB.out.grown hg HB.out.size (fun k hk => by cases hk; exact LB.out)); clear hT hg)
        go_roundg (nn - (i + 1))
        case measure => omega
        case rel => exact ⟨i + 1, by go_num, by omega, by omega, ⟨by rw [Nat.min_eq_left (by omega), MS_succ]; exact T3.out⟩, B3⟩
      · have f1 : decide ((i : Int) + 1 ≤ 64) = false := decide_eq_false (by omega)
        go_wp2_with (go_at_call 8; (with_reducible refine (noteFull _ B b i _ HT.out ((i : Int) + 1) mz 0 0 ((i : Int) + 1) (by have := HNN.out; omega) (by have := HMM.out; omega) (MS_no _ mz _ (by omega)) (by rw [MS_len]; omega)).mono ?_); rintro e1 w2 ⟨rfl, hb⟩; have T3 := Aside0.mk (HT.out.below hb); have B3 := Aside0.mk (HB.out.trans (hb.mono HB.out.size)); clear hb)
        go_roundg (nn - (i + 1))
        case measure => omega
        case rel => exact ⟨i + 1, by go_num, by omega, by omega, ⟨by rw [show min (i + 1) 64 = min i 64 by omega]; obtain ⟨h1, D, h2, h3⟩ := T3.out; exact ⟨h1, D, h2.mono (Nat.le_succ _), h3⟩⟩, B3⟩
    · have hle : decide ((i : Int) + 1 ≤ (nn : Int)) = false := decide_eq_false (by omega)
      obtain rfl : i = nn := by omega
      have HIN := Aside0.mk (show ((3 : Int), (⟨mz, 0, 0, 3⟩ : La)) ∈ MS (min i 64) mz from List.mem_map.2 ⟨2, List.mem_range.2 (by have := HNN.out; omega), rfl⟩)
      have hw1 : wrap64 (mz + 1) = mz + 1 := wrapS (by have := HMM.out; omega) (by have := HMM.out; omega)
      have HLN := Aside0.mk (show (setT 3 ⟨mz + 1, 0, 0, 0⟩ (MS (min i 64) mz)).length = min i 64 by unfold setT; rw [List.length_map, MS_len])
      go_wp2_with (first
        | (go_at_call 9; (with_reducible refine (lookHit _ B b _ _ HT.out 3 mz (by omega) (by have := HMM.out; omega) ⟨mz, 0, 0, 3⟩ HIN.out rfl).mono ?_); rintro e1 w3 ⟨rfl, hb⟩; have T3 := Aside0.mk (HT.out.below hb); have B3 := Aside0.mk (HB.out.trans (hb.mono HB.out.size)); clear hb)
        | (go_at_call 8; (with_reducible refine (noteMore _ B b _ _ (T3.out.below (below_alloc (Below.refl _ _) _)) 3 (mz + 1) 0 0 0 (by omega) (by have := HMM.out; omega) ⟨mz, 0, 0, 3⟩ HIN.out (show mz < mz + 1 by omega) (by have := HNN.out; omega)).mono ?_); rintro e1 w4 ⟨rfl, hT, hg⟩; have T4 := Aside0.mk hT; have B4 := Aside0.mk ((below_alloc B3.out (.cells #[.int .i64 0, .int .i64 0, .int .i64 3, .slice none 0 0, .slice none 0 0, .slice none 0 0] 32)).grown hg (Nat.le_trans B3.out.size (by simp)) (fun k hk => by cases hk; exact LB.out)); clear hT hg)
        | (go_at_call 13; (with_reducible refine (clientsC _ B b _ _ T4.out (by rw [HLN.out]; omega)).mono ?_); rintro e1 w5 ⟨Ac, cc, rfl, hb⟩; have B5 := Aside0.mk (B4.out.trans (hb.mono B4.out.size)); clear hb)
        | (go_at_call 12; (with_reducible refine (worksC _).mono ?_); rintro e1 w6 ⟨rfl, hb⟩; have B6 := Aside0.mk (B5.out.trans (hb.mono B5.out.size)); clear hb))
      all_goals first
        | (go_ret; exact ⟨rfl, B6.out⟩)
        | (exfalso; have h_ := HLN.out; omega)
end Go.Proofs.Ythelhieeplfffaa.P
