/- ballot.Merge, by hand: the plain side: the votes that count, and the map that holds them. No conditions. -/
import Derived.Test.YtjofllllnmfneaaP0
import Derived.Maps.OwnSet
import Derived.Lib.SlKeysI
namespace Go.Proofs.Ytjofllllnmfneaa.P
open Go.RowKit Go.Maps Go.Proofs.YtjofllllnmfneaaW.PrintWords Go.Proofs.YtjofllllnmfneaaW.PrintLast Go.Proofs.YtjofllllnmfneaaW.PrintMore
set_option linter.unusedVariables false
set_option linter.unusedSimpArgs false

/-- One vote into those that count, which rise by their slots. -/
def putV (v : S30) : List S30 → List S30
  | [] => [v]
  | x :: l => if v.f0 < x.f0 then v :: x :: l else if v.f0 = x.f0 then (if x.f1 < v.f1 then v :: l else x :: l) else x :: putV v l
def mergeV (l : List S30) : List S30 := l.foldl (fun m v => putV v m) []
def ballot_Merge.f (l0 : List (List S30)) : Option (List S30) :=
  if l0.flatten.length ≤ 1000000000 then (if l0.flatten.all (fun v => (Lit.int .i64 v.f0).wf && decide (v.f2.length ≤ 1000000)) = true then some (mergeV l0.flatten) else none) else none

def Rise (M : List S30) : Prop := M.Pairwise (fun a b => a.f0 < b.f0)

theorem mem_putV (v : S30) : ∀ M : List S30, Rise M → ∀ a, a ∈ putV v M ↔ (a ∈ M ∧ a.f0 ≠ v.f0) ∨ (a = v ∧ ∀ y ∈ M, y.f0 = v.f0 → y.f1 < v.f1) ∨ (a ∈ M ∧ a.f0 = v.f0 ∧ ¬ a.f1 < v.f1) := by
  intro M
  induction M with
  | nil => intro _ a; simp [putV]
  | cons x l ih =>
    intro hs a
    obtain ⟨h1, h2⟩ := List.pairwise_cons.1 hs
    have ih' := ih h2 a
    unfold putV
    by_cases c1 : v.f0 < x.f0
    · rw [if_pos c1]
      have hall : ∀ y ∈ x :: l, y.f0 ≠ v.f0 := by
        intro y hy
        rcases List.mem_cons.1 hy with rfl | hy
        · omega
        · have := h1 y hy; omega
      constructor
      · intro h
        rcases List.mem_cons.1 h with rfl | h
        · exact .inr (.inl ⟨rfl, fun y hy e => absurd e (hall y hy)⟩)
        · exact .inl ⟨h, hall a h⟩
      · rintro (⟨h, _⟩ | ⟨rfl, _⟩ | ⟨h, _, _⟩)
        · exact List.mem_cons_of_mem _ h
        · exact List.mem_cons_self
        · exact List.mem_cons_of_mem _ h
    · rw [if_neg c1]
      by_cases c2 : v.f0 = x.f0
      · rw [if_pos c2]
        have hl : ∀ y ∈ l, y.f0 ≠ v.f0 := by
          intro y hy
          have := h1 y hy
          omega
        by_cases c3 : x.f1 < v.f1
        · rw [if_pos c3]
          constructor
          · intro h
            rcases List.mem_cons.1 h with rfl | h
            · refine .inr (.inl ⟨rfl, fun y hy e => ?_⟩)
              rcases List.mem_cons.1 hy with rfl | hy
              · exact c3
              · exact absurd e (hl y hy)
            · exact .inl ⟨List.mem_cons_of_mem _ h, hl a h⟩
          · rintro (⟨h, hn⟩ | ⟨rfl, _⟩ | ⟨h, he, hn⟩)
            · rcases List.mem_cons.1 h with rfl | h
              · exact absurd c2.symm hn
              · exact List.mem_cons_of_mem _ h
            · exact List.mem_cons_self
            · rcases List.mem_cons.1 h with rfl | h
              · exact absurd c3 hn
              · exact absurd he (hl a h)
        · rw [if_neg c3]
          constructor
          · intro h
            rcases List.mem_cons.1 h with rfl | h
            · exact .inr (.inr ⟨List.mem_cons_self, c2.symm, c3⟩)
            · exact .inl ⟨List.mem_cons_of_mem _ h, hl a h⟩
          · rintro (⟨h, hn⟩ | ⟨rfl, hy⟩ | ⟨h, he, hn⟩)
            · exact h
            · exact absurd (hy x List.mem_cons_self c2.symm) c3
            · exact h
      · rw [if_neg c2]
        constructor
        · intro h
          rcases List.mem_cons.1 h with rfl | h
          · exact .inl ⟨List.mem_cons_self, fun e => c2 e.symm⟩
          · rcases ih'.1 h with ⟨h, hn⟩ | ⟨rfl, hy⟩ | ⟨h, he, hn⟩
            · exact .inl ⟨List.mem_cons_of_mem _ h, hn⟩
            · refine .inr (.inl ⟨rfl, fun y hm e => ?_⟩)
              rcases List.mem_cons.1 hm with rfl | hm
              · exact absurd e.symm c2
              · exact hy y hm e
            · exact .inr (.inr ⟨List.mem_cons_of_mem _ h, he, hn⟩)
        · rintro (⟨h, hn⟩ | ⟨rfl, hy⟩ | ⟨h, he, hn⟩)
          · rcases List.mem_cons.1 h with rfl | h
            · exact List.mem_cons_self
            · exact List.mem_cons_of_mem _ (ih'.2 (.inl ⟨h, hn⟩))
          · exact List.mem_cons_of_mem _ (ih'.2 (.inr (.inl ⟨rfl, fun y hm e => hy y (List.mem_cons_of_mem _ hm) e⟩)))
          · rcases List.mem_cons.1 h with rfl | h
            · exact absurd he.symm c2
            · exact List.mem_cons_of_mem _ (ih'.2 (.inr (.inr ⟨h, he, hn⟩)))

theorem rise_putV (v : S30) : ∀ M : List S30, Rise M → Rise (putV v M) := by
  intro M
  induction M with
  | nil => intro _; exact List.pairwise_singleton _ _
  | cons x l ih =>
    intro hs
    obtain ⟨h1, h2⟩ := List.pairwise_cons.1 hs
    unfold putV
    by_cases c1 : v.f0 < x.f0
    · rw [if_pos c1]
      refine List.pairwise_cons.2 ⟨fun y hy => ?_, hs⟩
      rcases List.mem_cons.1 hy with rfl | hy
      · exact c1
      · have := h1 y hy; omega
    · rw [if_neg c1]
      by_cases c2 : v.f0 = x.f0
      · rw [if_pos c2]
        by_cases c3 : x.f1 < v.f1
        · rw [if_pos c3]
          exact List.pairwise_cons.2 ⟨fun y hy => by have := h1 y hy; omega, h2⟩
        · rw [if_neg c3]; exact hs
      · rw [if_neg c2]
        refine List.pairwise_cons.2 ⟨fun y hy => ?_, ih h2⟩
        rcases (mem_putV v l h2 y).1 hy with ⟨h, _⟩ | ⟨rfl, _⟩ | ⟨h, _, _⟩
        · exact h1 y h
        · omega
        · exact h1 y h
theorem rise_nil : Rise [] := List.Pairwise.nil
theorem rise_fold (l : List S30) : ∀ M, Rise M → Rise (l.foldl (fun m v => putV v m) M) := by
  induction l with
  | nil => intro M h; exact h
  | cons x l ih => intro M h; exact ih _ (rise_putV x M h)
theorem rise_mergeV (l : List S30) : Rise (mergeV l) := rise_fold l [] rise_nil
theorem rise_inj {M : List S30} (h : Rise M) {a b : S30} (ha : a ∈ M) (hb : b ∈ M) (e : a.f0 = b.f0) : a = b := by
  induction M with
  | nil => cases ha
  | cons x l ih =>
    obtain ⟨h1, h2⟩ := List.pairwise_cons.1 h
    rcases List.mem_cons.1 ha with ea | ha1 <;> rcases List.mem_cons.1 hb with eb | hb1
    · rw [ea, eb]
    · have := h1 _ hb1; rw [ea] at e; omega
    · have := h1 _ ha1; rw [eb] at e; omega
    · exact ih h2 ha1 hb1
theorem putV_same {M : List S30} (h : Rise M) {y v : S30} (hy : y ∈ M) (e : y.f0 = v.f0) (hn : ¬ y.f1 < v.f1) : putV v M = M := by
  induction M with
  | nil => cases hy
  | cons x l ih =>
    obtain ⟨h1, h2⟩ := List.pairwise_cons.1 h
    unfold putV
    rcases List.mem_cons.1 hy with rfl | hy
    · rw [if_neg (by omega), if_pos e.symm, if_neg hn]
    · have := h1 _ hy
      rw [if_neg (by omega), if_neg (by omega), ih h2 hy]
theorem length_putV (v : S30) : ∀ M : List S30, (putV v M).length ≤ M.length + 1
  | [] => by simp [putV]
  | x :: l => by
    have := length_putV v l
    unfold putV
    split
    · simp
    · split
      · split <;> simp
      · simp; omega
theorem length_fold (l : List S30) : ∀ M, (l.foldl (fun m v => putV v m) M).length ≤ M.length + l.length := by
  induction l with
  | nil => intro M; simp
  | cons x l ih => intro M; have h1 := ih (putV x M); have h2 := length_putV x M; simp only [List.foldl_cons, List.length_cons]; omega
theorem length_mergeV (l : List S30) : (mergeV l).length ≤ l.length := by have := length_fold l []; simpa [mergeV] using this

/-! the map -/
def zeroV : Value := .agg #[.int .i64 0, .int .i64 0, .slice none 0 0]
def RH (v : Value) : Option (DataW Value × List MemPlace) := some (.held v, [])
/-- A value that is a vote, read in w. -/
def Vt (w : World) (x : S30) (v : Value) : Prop := ∃ A c, v = .agg #[.int .i64 x.f0, .int .i64 x.f1, .slice A x.f2.length c] ∧ x.f2.length ≤ c ∧ (Kd.int .u8).C w A x.f2.length x.f2
structure RelV (w : World) (D : DataW Value) (M : List S30) : Prop where
  isMap : IsMap D
  keys : ∀ k : Int, Maps.has D (.int .i64 k) = true ↔ ∃ x ∈ M, x.f0 = k
  vals : ∀ x ∈ M, ∃ v, D.atKey (.int .i64 x.f0) (.held zeroV) = .held v ∧ Vt w x v
  rise : Rise M
theorem RelV.start (w : World) : RelV w (.map []) [] := ⟨isMap_empty, fun k => by simp [Maps.has], fun x h => (by cases h), rise_nil⟩
theorem lit_ne {a b : Int} (h : a ≠ b) : (Lit.int .i64 a) ≠ (Lit.int .i64 b) := fun e => h (by injection e)
theorem RelV.new {w : World} {D : DataW Value} {M : List S30} (h : RelV w D M) (x : S30) (hn : Maps.has D (.int .i64 x.f0) = false) : D.atKey (.int .i64 x.f0) (.held zeroV) = .held zeroV := atKey_of_not_has hn _
theorem RelV.put {w : World} {D : DataW Value} {M : List S30} (h : RelV w D M) {x : S30} {v : Value} (hv : Vt w x v) (hbest : ∀ y ∈ M, y.f0 = x.f0 → y.f1 < x.f1) : RelV w (D.put (.int .i64 x.f0) (.held v)) (putV x M) := by
  refine ⟨h.isMap.put _ _, fun k => ?_, fun y hy => ?_, rise_putV x M h.rise⟩
  · by_cases e : k = x.f0
    · subst e
      rw [has_put_same h.isMap (by trivial)]
      refine ⟨fun _ => ⟨x, (mem_putV x M h.rise x).2 (.inr (.inl ⟨rfl, hbest⟩)), rfl⟩, fun _ => rfl⟩
    · rw [has_put_other (lit_ne e), h.keys]
      constructor
      · rintro ⟨y, hy, rfl⟩
        exact ⟨y, (mem_putV x M h.rise y).2 (.inl ⟨hy, e⟩), rfl⟩
      · rintro ⟨y, hy, rfl⟩
        rcases (mem_putV x M h.rise y).1 hy with ⟨h1, _⟩ | ⟨rfl, _⟩ | ⟨h1, h2, _⟩
        · exact ⟨y, h1, rfl⟩
        · exact absurd rfl e
        · exact ⟨y, h1, rfl⟩
  · rcases (mem_putV x M h.rise y).1 hy with ⟨h1, h2⟩ | ⟨rfl, _⟩ | ⟨h1, h2, h3⟩
    · rw [atKey_put_other (lit_ne h2)]
      exact h.vals y h1
    · rw [atKey_put_same h.isMap (by trivial)]
      exact ⟨v, rfl, hv⟩
    · exact absurd (hbest y h1 h2) h3
theorem RelV.below {w w1 : World} {D : DataW Value} {M : List S30} (h : RelV w D M) (hb : Below w.heap.size w w1) : RelV w1 D M :=
  ⟨h.isMap, h.keys, fun x hx => by
    obtain ⟨v, e, A, c, e2, hc, hr⟩ := h.vals x hx
    exact ⟨v, e, A, c, e2, hc, Kd.C_below hr hb⟩, h.rise⟩

/-! the keys, sorted -/
theorem rising_unique : ∀ {xs ys : List Int}, xs.Pairwise (· < ·) → ys.Pairwise (· < ·) → (∀ a, a ∈ xs ↔ a ∈ ys) → xs = ys
  | [], [], _, _, _ => rfl
  | [], y :: ys, _, _, h => absurd ((h y).2 List.mem_cons_self) (by simp)
  | x :: xs, [], _, _, h => absurd ((h x).1 List.mem_cons_self) (by simp)
  | x :: xs, y :: ys, hx, hy, h => by
    obtain ⟨hx1, hx2⟩ := List.pairwise_cons.1 hx
    obtain ⟨hy1, hy2⟩ := List.pairwise_cons.1 hy
    have e : x = y := by
      rcases List.mem_cons.1 ((h x).1 List.mem_cons_self) with e | h1
      · exact e
      · rcases List.mem_cons.1 ((h y).2 List.mem_cons_self) with e | h2
        · exact e.symm
        · have a1 := hy1 x h1
          have a2 := hx1 y h2
          omega
    subst e
    congr 1
    refine rising_unique hx2 hy2 fun a => ⟨fun ha => ?_, fun ha => ?_⟩
    · rcases List.mem_cons.1 ((h a).1 (List.mem_cons_of_mem _ ha)) with rfl | h1
      · have := hx1 a ha; omega
      · exact h1
    · rcases List.mem_cons.1 ((h a).2 (List.mem_cons_of_mem _ ha)) with rfl | h1
      · have := hy1 a ha; omega
      · exact h1
theorem keys_sorted {P : Program} {k b n : Nat} {R : Value → Option (DataW Value × List MemPlace)} {w w' : World} {D : DataW Value} {M : List S30} (h : RelV w D M) (hown : w'.ownsMap P k R b n D) (K : Keyed P k) (hk : P.underlying k = some (.int .i64)) {ss : List Int} (hp : ss.Perm (intKeys D)) :
    ss.mergeSort (fun x y => decide (x ≤ y)) = M.map (·.f0) := by
  have hlt : (M.map (·.f0)).Pairwise (· < ·) := List.pairwise_map.2 h.rise
  have hnd : (M.map (·.f0)).Nodup := hlt.imp (fun hab e => by omega)
  have p1 : (M.map (·.f0)).Perm (intKeys D) := CollectedI.perm (left := fun _ => false) ⟨hnd, fun x => by rw [h.keys x, List.mem_map]; simp⟩ hown K hk (fun _ => rfl)
  have hs := (List.mergeSort_perm ss (fun x y => decide (x ≤ y))).trans (hp.trans p1.symm)
  refine rising_unique ?_ hlt fun a => hs.mem_iff
  have hle : (ss.mergeSort (fun x y => decide (x ≤ y))).Pairwise (fun a b => decide (a ≤ b) = true) := List.pairwise_mergeSort (fun a b c h1 h2 => by simp at *; omega) (fun a b => by simp; omega) ss
  have hnd2 : (ss.mergeSort (fun x y => decide (x ≤ y))).Pairwise (· ≠ ·) := hs.symm.pairwise hnd (fun h => h.symm)
  exact (hle.and hnd2).imp (fun {a b} h => by have h1 := h.1; have h2 := h.2; simp at h1; omega)
end Go.Proofs.Ytjofllllnmfneaa.P
