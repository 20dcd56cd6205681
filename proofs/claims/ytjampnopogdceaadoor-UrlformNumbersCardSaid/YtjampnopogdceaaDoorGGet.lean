/- urlform.Get, by hand, in the print's own form: the first value of a name. No conditions. -/
import Derived.Test.YtjampnopogdceaaDoorP0
import Derived.Deep.LoopGhost
namespace Go.Proofs.YtjampnopogdceaaDoor.P
open Go.RowKit Go.Proofs.YtjampnopogdceaaDoorW.PrintWords Go.Proofs.YtjampnopogdceaaDoorW.PrintLast Go.Proofs.YtjampnopogdceaaDoorW.PrintMore
set_option linter.unusedVariables false
set_option linter.unusedSimpArgs false

def nmB (x : S45) (p : ByteArray) : Bool := x.f0.toList == p.toList
def nmAt (p : ByteArray) : List S45 → Option Nat
  | [] => none
  | x :: l => if nmB x p = true then some 0 else (nmAt p l).map (· + 1)
def nmI (p : ByteArray) (l : List S45) : Int := match nmAt p l with | none => -1 | some k => (k : Int)
def urlform_Get.f (l0 : List S45) (a1 : ByteArray) : Option (ByteArray × Bool) :=
  match nmAt a1 l0 with | none => some (⟨#[]⟩, false) | some k => some ((rd_T45 l0 (k : Int)).f1, true)

theorem rd45_getD (l : List S45) (k : Nat) : rd_T45 l (k : Int) = l.getD k z45 := by unfold rd_T45; simp
theorem nmAt_some (p : ByteArray) : ∀ (l : List S45) (k : Nat), k < l.length → (∀ j, j < k → nmB (rd_T45 l (j : Int)) p = false) → nmB (rd_T45 l (k : Int)) p = true → nmAt p l = some k := by
  intro l
  induction l with
  | nil => intro k hk; simp at hk
  | cons x l ih =>
    intro k hk hall hit
    unfold nmAt
    simp only [rd45_getD] at hall hit ih
    cases k with
    | zero => rw [if_pos (by simpa using hit)]
    | succ k =>
      rw [if_neg (by have := hall 0 (by omega); simp at this; simp [this]), ih k (by simpa using hk) (fun j hj => by simpa using hall (j + 1) (by omega)) (by simpa using hit)]
      rfl
theorem nmAt_none (p : ByteArray) : ∀ (l : List S45), (∀ j, j < l.length → nmB (rd_T45 l (j : Int)) p = false) → nmAt p l = none := by
  intro l
  induction l with
  | nil => intro _; rfl
  | cons x l ih =>
    intro hall
    unfold nmAt
    simp only [rd45_getD] at hall ih
    rw [if_neg (by have := hall 0 (by simp); simp at this; simp [this]), ih (fun j hj => by simpa using hall (j + 1) (by simpa using hj))]
    rfl
theorem nmAt_lt (p : ByteArray) : ∀ (l : List S45) (k : Nat), nmAt p l = some k → k < l.length := by
  intro l
  induction l with
  | nil => intro k h; cases h
  | cons x l ih =>
    intro k h
    unfold nmAt at h
    split at h
    · cases h; simp
    · obtain ⟨j, hj, rfl⟩ := Option.map_eq_some_iff.1 h
      have := ih j hj
      simp; omega

set_option maxHeartbeats 1000000 in
theorem get_lit (x : S45) (p : ByteArray) (B : Nat) (W : World) (hB : W.heap[B]? = some (.cells #[.string p] 9 (0, 0))) :
    Calls Tryd.prog 40 #[.agg #[.string x.f0, .string x.f1], .pointer (some ⟨B, 0, none⟩)] W fun e w' => e = .returned (.bool (nmB x p)) ∧ Below W.heap.size W w' := by
  have hc : W.cell? ⟨B, 0, none⟩ = some (.string p) := (blk_cell hB 0).trans rfl
  have hlt : B < W.heap.size := blk_lt hB
  have hne : B ≠ W.heap.size := by omega
  clear hB
  unfold nmB
  go_enter Tryd.func40, Tryd.ntmps40
  go_wp2
  go_ret
  first
    | exact ⟨rfl, Below.refl _ W⟩
    | exact ⟨rfl, (Below.refl _ W).alloc (Nat.le_refl _) _⟩

set_option maxHeartbeats 2000000 in
theorem get_loop (A : Option Addr) (c : Nat) (l : List S45) (p : ByteArray) (B : Nat) (w : World) (hB : w.heap[B]? = some (.cells #[.string p] 9 (0, 0))) (hr : Kd.C k45 w A l.length l) (hc : l.length ≤ c) :
    Calls Tryd.prog 39 #[.slice A l.length c, .func (.func 40) #[] #[.pointer (some ⟨B, 0, none⟩)]] w fun e w' => e = .returned (.int .i64 (nmI p l)) ∧ Below w.heap.size w w' := by
  have hbig : l.length ≤ 9223372036854775807 := hr.2.1
  have HR := Aside0.mk hr
  have HB0 := Aside0.mk hB
  clear hr hB
  have hposs : ∀ kk, kk < l.length → ∃ ad, A = some ad := fun kk h => by
    obtain ⟨ad, h1, _⟩ := at_T45 HR.out (kk : Int) (by omega) (by omega)
    exact ⟨ad, h1⟩
  have HP := Aside0.mk hposs
  clear hposs
  go_enter Tryd.func39, Tryd.ntmps39
  go_wp2
  go_loopg [5, 8] l.length (fun gg _ s8 wr => ∃ kk : Nat, kk ≤ l.length ∧ l.length - kk ≤ gg ∧ s8 = .int .i64 kk ∧ Aside0 (Below w.heap.size w wr) ∧ Aside0 (∀ j, j < kk → nmB (rd_T45 l (j : Int)) p = false))
  case atStart => exact ⟨0, Nat.zero_le _, by omega, rfl, ⟨Below.refl _ w⟩, ⟨fun j hj => absurd hj (Nat.not_lt_zero _)⟩⟩
  case round =>
    obtain ⟨kk, hkk, hg, rfl, BW, AL⟩ := hrel
    by_cases hlt : kk < l.length
    · have hltz : (kk : Int) < (l.length : Int) := by omega
      obtain ⟨ad, rfl⟩ := HP.out kk hlt
      obtain ⟨ad', he, h1, h2⟩ := at_T45 (Kd.C_below HR.out BW.out) (kk : Int) (by omega) (by omega)
      cases he
      simp only [Int.toNat_natCast] at h1 h2
      have hcall := get_lit (rd_T45 l (kk : Int)) p B wr (by rw [BW.out.block B (blk_lt HB0.out)]; exact HB0.out)
      have HX : Aside0 (∃ y, y = rd_T45 l (kk : Int)) := ⟨_, rfl⟩
      generalize hy : rd_T45 l (kk : Int) = y at h1 h2 hcall
      have HY := Aside0.mk hy
      clear hy
      cases hq : nmB y p with
      | true =>
        rw [hq] at hcall
        have HQ := Aside0.mk hq
        clear hq
        go_wp2_with (go_at_call 40; refine hcall.mono ?_; rintro e w' ⟨rfl, hb⟩)
        go_ret
        refine ⟨?_, BW.out.trans (hb.mono BW.out.size)⟩
        have hv : nmI p l = (kk : Int) := by unfold nmI; rw [nmAt_some p l kk hlt AL.out (by rw [HY.out]; exact HQ.out)]
        rw [hv]
        rfl
      | false =>
        rw [hq] at hcall
        have HQ := Aside0.mk hq
        clear hq
        go_wp2_with (go_at_call 40; refine hcall.mono ?_; rintro e w' ⟨rfl, hb⟩)
        go_roundg (l.length - (kk + 1))
        case measure => omega
        case rel =>
          refine ⟨kk + 1, by omega, by omega, by go_num, ⟨BW.out.trans (hb.mono BW.out.size)⟩, ⟨fun j hj => ?_⟩⟩
          by_cases e : j = kk
          · subst e
            rw [HY.out]; exact HQ.out
          · exact AL.out j (by omega)
    · have hltz : ¬ (kk : Int) < (l.length : Int) := by omega
      have hk : kk = l.length := by omega
      have HK := Aside0.mk hk
      clear hk
      go_wp2
      go_ret
      refine ⟨?_, BW.out⟩
      have hv : nmI p l = -1 := by unfold nmI; rw [nmAt_none p l (fun j hj => AL.out j (by rw [HK.out]; exact hj))]
      rw [hv]
      rfl

set_option maxHeartbeats 2000000 in
theorem urlform_Get.calls (A0 : Option Addr) (c0 : Nat) (l0 : List S45) (a1 : ByteArray) (r1 : ByteArray) (r2 : Bool) (w : World) (hr0 : Kd.C k45 w A0 l0.length l0) (hc0 : l0.length ≤ c0) (h : urlform_Get.f l0 a1 = some (r1, r2)) :
    Calls Tryd.prog 19 #[.slice A0 l0.length c0, .string a1] w fun e w' => e = .returned (.tuple #[.string r1, .bool r2]) ∧ Below w.heap.size w w' := by
  have hcall := get_loop A0 c0 l0 a1 w.heap.size (w.alloc (.cells #[.string a1] 9)) (by simpa using heap_alloc_new w _) (Kd.C_below hr0 (below_alloc (Below.refl _ _) _)) hc0
  unfold urlform_Get.f at h
  unfold nmI at hcall
  cases hn : nmAt a1 l0 with
  | none =>
    rw [hn] at h hcall
    obtain ⟨rfl, rfl⟩ := Prod.mk.inj (Option.some.inj h)
    dsimp only at hcall
    clear hr0 h hn
    go_enter Tryd.func19, Tryd.ntmps19
    go_wp2_with (go_at_call 39; refine hcall.mono ?_; rintro e w' ⟨rfl, hb⟩)
    go_ret2
    exact ⟨rfl, ((Below.refl _ w).alloc (Nat.le_refl _) _).trans (hb.mono (by simp))⟩
  | some k =>
    rw [hn] at h hcall
    obtain ⟨rfl, rfl⟩ := Prod.mk.inj (Option.some.inj h)
    dsimp only at hcall
    have hlt := nmAt_lt a1 l0 k hn
    have hbig : l0.length ≤ 9223372036854775807 := hr0.2.1
    have p1 : (0 : Int) ≤ (k : Int) := by omega
    have q1 : (k : Int) < (l0.length : Int) := by omega
    obtain ⟨ad, hA, _, _⟩ := at_T45 hr0 (k : Int) p1 q1
    subst hA
    have HR := Aside0.mk hr0
    clear hr0 h hn
    go_enter Tryd.func19, Tryd.ntmps19
    go_wp2_with (go_at_call 39; refine hcall.mono ?_; rintro e w' ⟨rfl, hb⟩; obtain ⟨ad', he, h1, h2⟩ := at_T45 (Kd.C_below HR.out (((Below.refl _ w).alloc (Nat.le_refl _) _).trans (hb.mono (by simp)))) (k : Int) p1 q1; cases he; simp only [Int.toNat_natCast] at h1 h2)
    go_ret2
    exact ⟨rfl, ((Below.refl _ w).alloc (Nat.le_refl _) _).trans (hb.mono (by simp))⟩
end Go.Proofs.YtjampnopogdceaaDoor.P
