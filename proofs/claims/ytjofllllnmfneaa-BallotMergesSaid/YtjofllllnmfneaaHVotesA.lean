/- The plain law of BallotVotes: what merged votes are. No program in sight. No conditions. -/
import Derived.Test.YtjofllllnmfneaaGMergeA
namespace Go.Proofs.Ytjofllllnmfneaa.P
open Go.RowKit Go.Proofs.YtjofllllnmfneaaW.PrintWords Go.Proofs.YtjofllllnmfneaaW.PrintLast Go.Proofs.YtjofllllnmfneaaW.PrintMore
set_option linter.unusedVariables false
set_option linter.unusedSimpArgs false

def Best (M S : List S30) : Prop := (∀ v ∈ M, v ∈ S) ∧ (∀ v ∈ M, ∀ x ∈ S, x.f0 = v.f0 → x.f1 ≤ v.f1) ∧ ∀ x ∈ S, ∃ v ∈ M, v.f0 = x.f0
theorem best_put {M S : List S30} (hr : Rise M) (h : Best M S) (a : S30) : Best (putV a M) (S ++ [a]) := by
  obtain ⟨h1, h2, h3⟩ := h
  refine ⟨fun v hv => ?_, fun v hv x hx e => ?_, fun x hx => ?_⟩
  · rcases (mem_putV a M hr v).1 hv with ⟨h, _⟩ | ⟨rfl, _⟩ | ⟨h, _, _⟩
    · exact List.mem_append_left _ (h1 v h)
    · simp
    · exact List.mem_append_left _ (h1 v h)
  · rcases (mem_putV a M hr v).1 hv with ⟨h, hn⟩ | ⟨rfl, hb⟩ | ⟨h, he, hn⟩
    · rcases List.mem_append.1 hx with hx | hx
      · exact h2 v h x hx e
      · rw [List.mem_singleton] at hx; subst hx; exact absurd e.symm hn
    · rcases List.mem_append.1 hx with hx | hx
      · obtain ⟨y, hy, ey⟩ := h3 x hx
        have a1 := hb y hy (by omega)
        have a2 := h2 y hy x hx (by omega)
        omega
      · rw [List.mem_singleton] at hx; subst hx; omega
    · rcases List.mem_append.1 hx with hx | hx
      · exact h2 v h x hx e
      · rw [List.mem_singleton] at hx; subst hx; omega
  · have key : (∃ y ∈ M, y.f0 = a.f0 ∧ ¬ y.f1 < a.f1) ∨ (∀ y ∈ M, y.f0 = a.f0 → y.f1 < a.f1) := by
      by_cases hh : ∃ y ∈ M, y.f0 = a.f0 ∧ ¬ y.f1 < a.f1
      · exact .inl hh
      · exact .inr fun y hy e => Classical.byContradiction fun hc => hh ⟨y, hy, e, hc⟩
    have hava : ∃ v ∈ putV a M, v.f0 = a.f0 := by
      rcases key with ⟨y, hy, e, hn⟩ | hall
      · exact ⟨y, (mem_putV a M hr y).2 (.inr (.inr ⟨hy, e, hn⟩)), e⟩
      · exact ⟨a, (mem_putV a M hr a).2 (.inr (.inl ⟨rfl, hall⟩)), rfl⟩
    rcases List.mem_append.1 hx with hx | hx
    · obtain ⟨y, hy, ey⟩ := h3 x hx
      by_cases e : y.f0 = a.f0
      · obtain ⟨v, hv, ev⟩ := hava
        exact ⟨v, hv, by omega⟩
      · exact ⟨y, (mem_putV a M hr y).2 (.inl ⟨hy, e⟩), ey⟩
    · rw [List.mem_singleton] at hx; subst hx; exact hava
theorem best_fold : ∀ (l M S : List S30), Rise M → Best M S → Best (l.foldl (fun m v => putV v m) M) (S ++ l) := by
  intro l
  induction l with
  | nil => intro M S _ h; simpa using h
  | cons a l ih =>
    intro M S hr h
    have := ih (putV a M) (S ++ [a]) (rise_putV a M hr) (best_put hr h a)
    simpa using this
theorem best_mergeV (l : List S30) : Best (mergeV l) l := by
  have := best_fold l [] [] rise_nil ⟨fun v h => (by cases h), fun v h => (by cases h), fun v h => (by cases h)⟩
  simpa [mergeV] using this
theorem putV_end (x : S30) : ∀ M : List S30, (∀ y ∈ M, y.f0 < x.f0) → putV x M = M ++ [x] := by
  intro M
  induction M with
  | nil => intro _; rfl
  | cons y M ih =>
    intro h
    have h1 := h y List.mem_cons_self
    unfold putV
    rw [if_neg (by omega), if_neg (by omega), ih (fun z hz => h z (List.mem_cons_of_mem _ hz))]
    rfl
theorem fold_end : ∀ (l M : List S30), Rise (M ++ l) → l.foldl (fun m v => putV v m) M = M ++ l := by
  intro l
  induction l with
  | nil => intro M _; simp
  | cons x l ih =>
    intro M h
    have h1 : ∀ y ∈ M, y.f0 < x.f0 := fun y hy => (List.pairwise_append.1 h).2.2 y hy x List.mem_cons_self
    rw [List.foldl_cons, putV_end x M h1, ih (M ++ [x]) (by simpa using h)]
    simp
theorem fold_in : ∀ (l M : List S30), Rise M → (∀ x ∈ l, x ∈ M) → l.foldl (fun m v => putV v m) M = M := by
  intro l
  induction l with
  | nil => intro M _ _; rfl
  | cons x l ih =>
    intro M h hin
    rw [List.foldl_cons, putV_same h (hin x List.mem_cons_self) rfl (by omega), ih M h (fun y hy => hin y (List.mem_cons_of_mem _ hy))]
theorem mergeV_twice (l : List S30) (h : Rise l) : mergeV (l ++ l) = l := by
  unfold mergeV
  rw [List.foldl_append]
  have h1 := fold_end l [] (by simpa using h)
  simp only [List.nil_append] at h1
  rw [h1]
  exact fold_in l l h (fun x hx => hx)
/-- The facts, by places. -/
theorem rise_get {l : List S30} (h : Rise l) (z : S30) {i j : Nat} (hij : i < j) (hj : j < l.length) : (l.getD i z).f0 < (l.getD j z).f0 := by
  have h1 := List.pairwise_iff_getElem.1 h i j (by omega) hj hij
  rw [List.getD_eq_getElem?_getD, List.getD_eq_getElem?_getD, List.getElem?_eq_getElem hj, List.getElem?_eq_getElem (by omega : i < l.length)]
  exact h1
theorem getD_mem {α : Type} {l : List α} (z : α) {i : Nat} (h : i < l.length) : l.getD i z ∈ l := by
  rw [List.getD_eq_getElem?_getD, List.getElem?_eq_getElem h]
  exact List.getElem_mem h
theorem mem_getD {α : Type} {l : List α} (z : α) {x : α} (h : x ∈ l) : ∃ i, i < l.length ∧ l.getD i z = x := by
  obtain ⟨i, hi, e⟩ := List.getElem_of_mem h
  exact ⟨i, hi, by rw [List.getD_eq_getElem?_getD, List.getElem?_eq_getElem hi]; exact e⟩
end Go.Proofs.Ytjofllllnmfneaa.P
