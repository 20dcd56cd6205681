/- SessionLast's three maps: what they hold is one list. No conditions. -/
import Derived.Test.YthelhieeplfffaaHAny
namespace Go.Proofs.Ythelhieeplfffaa.P
open Go.RowKit Go.Maps Go.Proofs.YthelhieeplfffaaW.PrintWords Go.Proofs.YthelhieeplfffaaW.PrintLast Go.Proofs.YthelhieeplfffaaW.PrintMore
set_option linter.unusedVariables false
set_option linter.unusedSimpArgs false

abbrev LM := List (Int × (Int × Rp))
def mapG {β γ : Type} (f : β → γ) (M : List (Int × β)) : List (Int × γ) := M.map fun x => (x.1, f x.2)
theorem inM_map {β γ : Type} (f : β → γ) (c : Int) (M : List (Int × β)) : inM c (mapG f M) = inM c M := by
  unfold inM mapG
  rw [List.any_map]
  rfl
theorem mapG_put {β γ : Type} (f : β → γ) (c : Int) (y : β) (M : List (Int × β)) : mapG f (putM c y M) = putM c (f y) (mapG f M) := by
  unfold putM
  rw [inM_map]
  split
  · unfold mapG setG
    rw [List.map_map, List.map_map]
    refine List.map_congr_left (fun x _ => ?_)
    simp only [Function.comp]
    split <;> rfl
  · unfold mapG
    rw [List.map_append]
    rfl
theorem putM_in {β : Type} (c : Int) (y : β) (M : List (Int × β)) : (c, y) ∈ putM c y M := by
  unfold putM
  split
  · rename_i h
    obtain ⟨y0, h0⟩ := (inM_iff c M).1 h
    unfold setG
    exact List.mem_map.2 ⟨_, h0, by simp⟩
  · simp
theorem putM_mem {β : Type} (c : Int) (y : β) (M : List (Int × β)) (x : Int × β) (h : x ∈ putM c y M) : x = (c, y) ∨ x ∈ M := by
  unfold putM at h
  split at h
  · unfold setG at h
    obtain ⟨t, ht, rfl⟩ := List.mem_map.1 h
    split
    · exact Or.inl rfl
    · exact Or.inr ht
  · rcases List.mem_append.1 h with h | h
    · exact Or.inr h
    · exact Or.inl (List.mem_singleton.1 h)
theorem putM_len {β : Type} (c : Int) (y : β) (M : List (Int × β)) : (putM c y M).length ≤ M.length + 1 := by
  unfold putM
  split
  · unfold setG; rw [List.length_map]; omega
  · simp
theorem RelG.put {β : Type} {P : β → Value → Prop} {z : Value} {D : DataW Value} {M : List (Int × β)} (h : RelG P z D M) (ht : Tidy D) (c : Int) (y : β) (v : Value) (hv : P y v) : RelG P z (D.put (.int .i64 c) (.held v)) (putM c y M) := by
  unfold putM
  by_cases hin : inM c M = true
  · rw [if_pos hin]
    obtain ⟨y0, h0⟩ := (inM_iff c M).1 hin
    exact h.old ht h0 y v hv
  · rw [if_neg hin]
    exact h.new ht (fun x hx he => hin ((inM_iff c M).2 ⟨x.2, by rw [← he]; exact hx⟩)) y v hv
theorem lastM_in (c : Int) (M : LM) (hp : M.Pairwise (fun x y => x.1 ≠ y.1)) (y : Int × Rp) (h : (c, y) ∈ M) : lastM c M = y.1 := by unfold lastM; rw [getG_in zLa c y M hp h]
theorem lastM_no (c : Int) (M : LM) (h : ¬ ∃ y, (c, y) ∈ M) : lastM c M = 0 := by
  unfold lastM
  rw [getG_no zLa c M (fun x hx he => h ⟨x.2, by rw [← he]; exact hx⟩)]
  rfl
theorem at_last {D : DataW Value} {M : LM} (h : RelG NumP (.int .i64 0) D (mapG (fun x : Int × Rp => x.1) M)) (hp : M.Pairwise (fun x y => x.1 ≠ y.1)) (c : Int) : D.atKey (.int .i64 c) (.held (.int .i64 0)) = .held (.int .i64 (lastM c M)) := by
  by_cases hin : ∃ y, (c, y) ∈ M
  · obtain ⟨y, hy⟩ := hin
    obtain ⟨v, h1, h2⟩ := h.vals (c, y.1) (List.mem_map.2 ⟨_, hy, rfl⟩)
    rw [lastM_in c M hp y hy]
    unfold NumP at h2
    rw [← h2]
    exact h1
  · rw [lastM_no c M hin]
    refine atKey_of_not_has (h.no (fun x hx he => ?_)) _
    obtain ⟨t, ht, rfl⟩ := List.mem_map.1 hx
    exact hin ⟨t.2, by rw [← he]; exact ht⟩
end Go.Proofs.Ythelhieeplfffaa.P
