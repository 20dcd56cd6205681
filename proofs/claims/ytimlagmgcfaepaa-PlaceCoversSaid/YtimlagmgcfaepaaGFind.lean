/- place.Find, by hand, in the print's own form: the first range in which a place is. No conditions. -/
import Derived.Test.YtimlagmgcfaepaaP0
import Derived.Test.YtimlagmgcfaepaaP3
import Derived.Deep.LoopGhost
namespace Go.Proofs.Ytimlagmgcfaepaa.P
open Go.RowKit Go.Proofs.YtimlagmgcfaepaaW.PrintWords Go.Proofs.YtimlagmgcfaepaaW.PrintLast Go.Proofs.YtimlagmgcfaepaaW.PrintMore
set_option linter.unusedVariables false
set_option linter.unusedSimpArgs false

def inB (x : S26) (p : Int) : Bool := decide (0 ≤ x.f0) && (decide (x.f0 < x.f1) && (decide (x.f1 ≤ 65536) && (decide (x.f0 ≤ p) && decide (p < x.f1))))
theorem inB_f (x : S26) (p : Int) : place_In.f x.f0 x.f1 p = some (inB x p) := by
  unfold place_In.f place_May.f inB
  by_cases h1 : x.f0 ≥ 0 <;> by_cases h2 : x.f0 < x.f1 <;> by_cases h3 : x.f1 ≤ 65536 <;> by_cases h4 : p ≥ x.f0 <;> by_cases h5 : p < x.f1 <;> simp [h1, h2, h3, h4, h5] <;> omega
def findB (p : Int) : List S26 → Option Nat
  | [] => none
  | x :: l => if inB x p = true then some 0 else (findB p l).map (· + 1)
def findI (p : Int) (l : List S26) : Int := match findB p l with | none => -1 | some k => (k : Int)
def place_Find.f (l0 : List S26) (a1 : Int) : Option Int := some (findI a1 l0)

theorem findB_some (p : Int) : ∀ (l : List S26) (k : Nat), k < l.length → (∀ j, j < k → inB (l.getD j z26) p = false) → inB (l.getD k z26) p = true → findB p l = some k := by
  intro l
  induction l with
  | nil => intro k hk; simp at hk
  | cons x l ih =>
    intro k hk hall hit
    unfold findB
    cases k with
    | zero => rw [if_pos (by simpa using hit)]
    | succ k =>
      rw [if_neg (by have := hall 0 (by omega); simp at this; simp [this]), ih k (by simpa using hk) (fun j hj => by simpa using hall (j + 1) (by omega)) (by simpa using hit)]
      rfl
theorem findB_none (p : Int) : ∀ (l : List S26), (∀ j, j < l.length → inB (l.getD j z26) p = false) → findB p l = none := by
  intro l
  induction l with
  | nil => intro _; rfl
  | cons x l ih =>
    intro hall
    unfold findB
    rw [if_neg (by have := hall 0 (by simp); simp at this; simp [this]), ih (fun j hj => by simpa using hall (j + 1) (by simpa using hj))]
    rfl

set_option maxHeartbeats 1000000 in
theorem find_lit (x : S26) (p : Int) (B : Nat) (W : World) (hB : W.heap[B]? = some (.cells #[.int .i64 p] 3 (0, 0))) :
    Calls Try.prog 33 #[.agg #[.int .i64 x.f0, .int .i64 x.f1], .pointer (some ⟨B, 0, none⟩)] W fun e w' => e = .returned (.bool (inB x p)) ∧ Below W.heap.size W w' := by
  have hc : W.cell? ⟨B, 0, none⟩ = some (.int .i64 p) := (blk_cell hB 0).trans rfl
  have hlt : B < W.heap.size := blk_lt hB
  have hne : B ≠ W.heap.size := by omega
  have hcall := fun W' => place_In.calls x.f0 x.f1 p _ W' (inB_f x p)
  generalize inB x p = r at hcall ⊢
  clear hB
  go_enter Try.func33, Try.ntmps33
  go_wp2_with (go_at_call 17; refine (hcall _).mono ?_; rintro e w' ⟨rfl, hb⟩)
  go_ret
  exact ⟨rfl, ((Below.refl _ W).alloc (Nat.le_refl _) _).trans (hb.mono (by simp))⟩

theorem rd_getD (l : List S26) (k : Nat) : rd_T26 l (k : Int) = l.getD k z26 := by unfold rd_T26; simp

set_option maxHeartbeats 2000000 in
theorem find_loop (A : Option Addr) (c : Nat) (l : List S26) (p : Int) (B : Nat) (w : World) (hB : w.heap[B]? = some (.cells #[.int .i64 p] 3 (0, 0))) (hr : Kd.C k26 w A l.length l) (hc : l.length ≤ c) :
    Calls Try.prog 32 #[.slice A l.length c, .func (.func 33) #[] #[.pointer (some ⟨B, 0, none⟩)]] w fun e w' => e = .returned (.int .i64 (findI p l)) ∧ Below w.heap.size w w' := by
  have hbig : l.length ≤ 9223372036854775807 := hr.2.1
  have HR := Aside0.mk hr
  have HB0 := Aside0.mk hB
  clear hr hB
  have hposs : ∀ kk, kk < l.length → ∃ ad, A = some ad := fun kk h => by
    obtain ⟨ad, h1, _⟩ := at_T26 HR.out (kk : Int) (by omega) (by omega)
    exact ⟨ad, h1⟩
  have HP := Aside0.mk hposs
  clear hposs
  go_enter Try.func32, Try.ntmps32
  go_wp2
  go_loopg [5, 8] l.length (fun gg _ s8 wr => ∃ kk : Nat, kk ≤ l.length ∧ l.length - kk ≤ gg ∧ s8 = .int .i64 kk ∧ Aside0 (Below w.heap.size w wr) ∧ Aside0 (∀ j, j < kk → inB (l.getD j z26) p = false))
  case atStart => exact ⟨0, Nat.zero_le _, by omega, rfl, ⟨Below.refl _ w⟩, ⟨fun j hj => absurd hj (Nat.not_lt_zero _)⟩⟩
  case round =>
    obtain ⟨kk, hkk, hg, rfl, BW, AL⟩ := hrel
    by_cases hlt : kk < l.length
    · have hltz : (kk : Int) < (l.length : Int) := by omega
      obtain ⟨ad, rfl⟩ := HP.out kk hlt
      obtain ⟨ad', he, h1, h2⟩ := at_T26 (Kd.C_below HR.out BW.out) (kk : Int) (by omega) (by omega)
      cases he
      rw [rd_getD] at h1 h2
      simp only [Int.toNat_natCast] at h1 h2
      have hcall := find_lit (l.getD kk z26) p B wr (by rw [BW.out.block B (blk_lt HB0.out)]; exact HB0.out)
      have HX : Aside0 (∃ y, y = l.getD kk z26) := ⟨_, rfl⟩
      generalize hy : l.getD kk z26 = y at h1 h2 hcall
      have HY := Aside0.mk hy
      clear hy
      cases hq : inB y p with
      | true =>
        rw [hq] at hcall
        have HQ := Aside0.mk hq
        clear hq
        go_wp2_with (go_at_call 33; refine hcall.mono ?_; rintro e w' ⟨rfl, hb⟩)
        go_ret
        refine ⟨?_, BW.out.trans (hb.mono BW.out.size)⟩
        have hv : findI p l = (kk : Int) := by unfold findI; rw [findB_some p l kk hlt AL.out (by rw [HY.out]; exact HQ.out)]
        rw [hv]
        rfl
      | false =>
        rw [hq] at hcall
        have HQ := Aside0.mk hq
        clear hq
        go_wp2_with (go_at_call 33; refine hcall.mono ?_; rintro e w' ⟨rfl, hb⟩)
        go_roundg (l.length - (kk + 1))
        case measure => omega
        case rel =>
          refine ⟨kk + 1, by omega, by omega, by go_num, ⟨BW.out.trans (hb.mono BW.out.size)⟩, ⟨fun j hj => ?_⟩⟩
          by_cases e : j = kk
          · subst e
            rw [HY.out]; exact HQ.out
          · exact AL.out j (by omega)
    · have hltz : ¬ (kk : Int) < (l.length : Int) := by omega
      have hk : kk = l.length := by omega
      have HK := Aside0.mk hk
      clear hk
      go_wp2
      go_ret
      refine ⟨?_, BW.out⟩
      have hv : findI p l = -1 := by unfold findI; rw [findB_none p l (fun j hj => AL.out j (by rw [HK.out]; exact hj))]
      rw [hv]
      rfl

set_option maxHeartbeats 1000000 in
theorem place_Find.calls (A0 : Option Addr) (c0 : Nat) (l0 : List S26) (a1 : Int) (r : Int) (w : World) (hr0 : Kd.C k26 w A0 l0.length l0) (hc0 : l0.length ≤ c0) (h : place_Find.f l0 a1 = some r) :
    Calls Try.prog 23 #[.slice A0 l0.length c0, .int .i64 a1] w fun e w' => e = .returned (.int .i64 r) ∧ Below w.heap.size w w' := by
  obtain rfl := Option.some.inj h
  clear h
  have hcall := find_loop A0 c0 l0 a1 w.heap.size (w.alloc (.cells #[.int .i64 a1] 3)) (by simpa using heap_alloc_new w _) (Kd.C_below hr0 (below_alloc (Below.refl _ _) _)) hc0
  clear hr0
  generalize findI a1 l0 = r at hcall ⊢
  go_enter Try.func23, Try.ntmps23
  go_wp2_with (go_at_call 32; refine hcall.mono ?_; rintro e w' ⟨rfl, hb⟩)
  go_ret
  exact ⟨rfl, ((Below.refl _ w).alloc (Nat.le_refl _) _).trans (hb.mono (by simp))⟩
end Go.Proofs.Ytimlagmgcfaepaa.P
