/- The plain law: what May, In, Meet, some, Cut, Find and Same of layer 4 come to, as functions on lists. No program in sight; lists of at most some hundreds. -/
import Derived.Test.YtimlagmgcfaepaaPOf
import Derived.Test.YtimlagmgcfaepaaGFind
import Derived.Test.YtimlagmgcfaepaaP6
import Derived.Test.YtimlagmgcfaepaaP5
import Derived.Test.YtimlagmgcfaepaaP4
namespace Go.Proofs.Ytimlagmgcfaepaa.P
open Go.RowKit Go.Proofs.YtimlagmgcfaepaaW.PrintWords Go.Proofs.YtimlagmgcfaepaaW.PrintLast
set_option linter.unusedVariables false

abbrev Rg := S26
def MayP (x : Rg) : Prop := 0 ≤ x.f0 ∧ x.f0 < x.f1 ∧ x.f1 ≤ 65536
instance (x : Rg) : Decidable (MayP x) := inferInstanceAs (Decidable (_ ∧ _))
def mayB (x : Rg) : Bool := decide (MayP x)
def InP (x : Rg) (p : Int) : Prop := MayP x ∧ x.f0 ≤ p ∧ p < x.f1
instance (x : Rg) (p : Int) : Decidable (InP x p) := inferInstanceAs (Decidable (_ ∧ _))
theorem mayB_iff (x : Rg) : mayB x = true ↔ MayP x := by simp [mayB]
theorem inB_iff (x : Rg) (p : Int) : inB x p = true ↔ InP x p := by
  unfold inB InP MayP
  simp only [Bool.and_eq_true, decide_eq_true_eq]
  omega
theorem may_f (x : Rg) : place_May.f x.f0 x.f1 = some (mayB x) := by
  unfold place_May.f mayB MayP
  by_cases h1 : x.f0 ≥ 0 <;> by_cases h2 : x.f0 < x.f1 <;> by_cases h3 : x.f1 ≤ 65536 <;> simp [h1, h2, h3] <;> omega

theorem rd_nat (l : List Rg) (i : Nat) (h : i < l.length) : rd_T26 l (i : Int) = l[i] := by
  unfold rd_T26
  simp [h]

/-! some -/
theorem some_loop (acc l : List Rg) (h : acc.length + l.length < 1000000) (d : Nat) : ∀ i : Nat, i + d = l.length →
    ∀ a : List Rg, a = acc ++ (l.take i).filter mayB → Ev (fun k => place_some.l0 k a l (l.length : Int) (i : Int)) (acc ++ l.filter mayB) := by
  induction d with
  | zero =>
    intro i hi a ha
    have e : i = l.length := by omega
    subst e
    rw [List.take_length] at ha
    refine Ev.step (f := fun _ => some (acc ++ l.filter mayB)) (fun k => ?_) (Ev.now _)
    simp only [place_some.l0]
    rw [if_neg (by omega), ha]
  | succ d ih =>
    intro i hi a ha
    have hlt : i < l.length := by omega
    have hal : a.length ≤ acc.length + l.length := by
      rw [ha, List.length_append]
      have := List.length_filter_le mayB (l.take i)
      rw [List.length_take] at this
      omega
    have ht : l.take (i + 1) = l.take i ++ [l[i]] := List.take_succ_eq_append_getElem hlt
    cases hm : mayB l[i] with
    | true =>
      have h2 := ih (i + 1) (by omega) (a ++ [l[i]]) (by rw [ha, ht, List.filter_append, List.append_assoc]; simp [hm])
      refine Ev.step (fun k => ?_) h2
      simp only [place_some.l0]
      rw [if_pos (by omega), if_pos (by omega), if_pos (by omega), rd_nat l i hlt, may_f, hm]
      simp only [Option.bind_some, if_true]
      rw [if_pos (by omega), w64_small (by omega) (by omega)]
      rfl
    | false =>
      have h2 := ih (i + 1) (by omega) a (by rw [ha, ht, List.filter_append]; simp [hm])
      refine Ev.step (fun k => ?_) h2
      simp only [place_some.l0]
      rw [if_pos (by omega), if_pos (by omega), if_pos (by omega), rd_nat l i hlt, may_f, hm]
      simp only [Option.bind_some, Bool.false_eq_true, if_false]
      rw [w64_small (by omega) (by omega)]
      rfl
theorem some_ev (acc l : List Rg) (h : acc.length + l.length < 1000000) : Ev (fun k => place_some.f k acc l) (acc ++ l.filter mayB) :=
  some_loop acc l h l.length 0 (by omega) acc (by simp)

/-! Meet, Cut -/
/-! Find -/
theorem findB_isSome (p : Int) : ∀ l : List Rg, (findB p l).isSome = true ↔ ∃ x ∈ l, InP x p := by
  intro l
  induction l with
  | nil => simp [findB]
  | cons x l ih =>
    unfold findB
    by_cases h : inB x p = true
    · rw [if_pos h]
      simp only [Option.isSome_some, true_iff]
      exact ⟨x, List.mem_cons_self, (inB_iff x p).1 h⟩
    · rw [if_neg h, Option.isSome_map, ih]
      constructor
      · rintro ⟨y, hy, hp⟩
        exact ⟨y, List.mem_cons_of_mem _ hy, hp⟩
      · rintro ⟨y, hy, hp⟩
        rcases List.mem_cons.1 hy with rfl | hy
        · exact absurd ((inB_iff y p).2 hp) h
        · exact ⟨y, hy, hp⟩
theorem findI_nonneg (p : Int) (l : List Rg) : 0 ≤ findI p l ↔ ∃ x ∈ l, InP x p := by
  rw [← findB_isSome]
  unfold findI
  cases h : findB p l with
  | none => simp
  | some k => simp

/-! Same -/
theorem same_loop (a : List Rg) (h : a.length < 1000000) (d : Nat) : ∀ i : Nat, i + d = a.length → Ev (fun k => racewayref04_Same.l0 k a a (i : Int)) true := by
  induction d with
  | zero =>
    intro i hi
    refine Ev.step (f := fun _ => some true) (fun k => ?_) (Ev.now _)
    simp only [racewayref04_Same.l0]
    rw [if_neg (by omega)]
  | succ d ih =>
    intro i hi
    refine Ev.step (fun k => ?_) (ih (i + 1) (by omega))
    simp only [racewayref04_Same.l0]
    rw [if_pos (by omega), if_pos (by omega), if_pos (by omega), if_neg (by simp), w64_small (by omega) (by omega)]
    rfl
theorem same_ev (a : List Rg) (h : a.length < 1000000) : Ev (fun k => racewayref04_Same.f k a a) true := by
  refine Ev.congr (fun k => ?_) (same_loop a h a.length 0 (by omega))
  unfold racewayref04_Same.f
  rw [if_pos rfl]
  rfl

/-! few -/
theorem few_f (l : List Rg) : racewaylaw04_few.f l = some (l.take 40) := by
  unfold racewaylaw04_few.f
  have h0 : 0 ≤ mn (l.length : Int) 40 := by unfold mn; split <;> omega
  have h1 : mn (l.length : Int) 40 ≤ (l.length : Int) := by unfold mn; split <;> omega
  have h2 : l.take (mn (l.length : Int) 40).toNat = l.take 40 := by
    unfold mn
    split
    · rfl
    · rw [Int.toNat_natCast, List.take_length, List.take_of_length_le (by omega)]
  simp only [Option.bind_some, if_pos h0, if_pos h1, h2]
  rw [if_pos (by rw [List.length_take]; simp; omega)]
  simp
end Go.Proofs.Ytimlagmgcfaepaa.P
