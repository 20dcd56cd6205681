/- A map from whole numbers, by hand: what it holds is a list of keys with what each value means. No conditions. -/
import Derived.Test.YthelhieeplfffaaHRep
namespace Go.Proofs.Ythelhieeplfffaa.P
open Go.RowKit Go.Maps Go.Proofs.YthelhieeplfffaaW.PrintWords Go.Proofs.YthelhieeplfffaaW.PrintLast Go.Proofs.YthelhieeplfffaaW.PrintMore
set_option linter.unusedVariables false
set_option linter.unusedSimpArgs false

structure RelG {β : Type} (P : β → Value → Prop) (z : Value) (D : DataW Value) (M : List (Int × β)) : Prop where
  isMap : IsMap D
  keys : ∀ k : Int, Maps.has D (.int .i64 k) = true ↔ ∃ x ∈ M, x.1 = k
  vals : ∀ x ∈ M, ∃ v, D.atKey (.int .i64 x.1) (.held z) = .held v ∧ P x.2 v
  size : Maps.size D = M.length
  apart : M.Pairwise (fun x y => x.1 ≠ y.1)
section
variable {β : Type} {P P' : β → Value → Prop} {z : Value} {D : DataW Value} {M : List (Int × β)}
theorem RelG.start : RelG P z (.map []) [] := ⟨isMap_empty, fun k => by simp [Maps.has], fun x h => (by cases h), rfl, List.Pairwise.nil⟩
theorem RelG.imp (h : RelG P z D M) (hp : ∀ x v, P x v → P' x v) : RelG P' z D M := ⟨h.isMap, h.keys, fun x hx => by obtain ⟨v, h1, h2⟩ := h.vals x hx; exact ⟨v, h1, hp _ _ h2⟩, h.size, h.apart⟩
theorem RelG.no (h : RelG P z D M) {c : Int} (hno : ∀ x ∈ M, x.1 ≠ c) : Maps.has D (.int .i64 c) = false := by
  cases hh : Maps.has D (.int .i64 c)
  · rfl
  · obtain ⟨x, hx, e⟩ := (h.keys c).1 hh
    exact absurd e (hno x hx)
theorem RelG.new (h : RelG P z D M) (ht : Tidy D) {c : Int} (hno : ∀ x ∈ M, x.1 ≠ c) (y : β) (v : Value) (hv : P y v) : RelG P z (D.put (.int .i64 c) (.held v)) (M ++ [(c, y)]) := by
  have hn := h.no hno
  refine ⟨h.isMap.put _ _, fun k => ?_, fun x hx => ?_, ?_, ?_⟩
  · by_cases e : k = c
    · subst e
      rw [has_put_same h.isMap (by trivial)]
      exact ⟨fun _ => ⟨(k, y), by simp, rfl⟩, fun _ => rfl⟩
    · rw [has_put_other (lit_ne e), h.keys]
      constructor
      · rintro ⟨x, hx, rfl⟩
        exact ⟨x, List.mem_append_left _ hx, rfl⟩
      · rintro ⟨x, hx, rfl⟩
        rcases List.mem_append.1 hx with hx | hx
        · exact ⟨x, hx, rfl⟩
        · rw [List.mem_singleton] at hx
          subst hx
          exact absurd rfl e
  · rcases List.mem_append.1 hx with hx | hx
    · rw [atKey_put_other (lit_ne (hno x hx))]
      exact h.vals x hx
    · rw [List.mem_singleton] at hx
      subst hx
      refine ⟨v, ?_, hv⟩
      show DataW.atKey (DataW.put D (.int .i64 c) (.held v)) (.int .i64 c) (.held z) = .held v
      rw [atKey_put_same h.isMap (by trivial)]
  · rw [size_put ht, hn, h.size]; simp
  · refine List.pairwise_append.2 ⟨h.apart, List.pairwise_singleton _ _, fun x hx y hy => ?_⟩
    rw [List.mem_singleton] at hy
    subst hy
    exact hno x hx
def setG (c : Int) (y : β) (M : List (Int × β)) : List (Int × β) := M.map fun x => if x.1 = c then (c, y) else x
theorem setG_key (c : Int) (y : β) (x : Int × β) : (if x.1 = c then (c, y) else x).1 = x.1 := by
  split
  · rename_i e; exact e.symm
  · rfl
theorem RelG.old (h : RelG P z D M) (ht : Tidy D) {c : Int} {y0 : β} (hin : (c, y0) ∈ M) (y : β) (v : Value) (hv : P y v) : RelG P z (D.put (.int .i64 c) (.held v)) (setG c y M) := by
  have hn : Maps.has D (.int .i64 c) = true := (h.keys c).2 ⟨_, hin, rfl⟩
  refine ⟨h.isMap.put _ _, fun k => ?_, fun x hx => ?_, ?_, ?_⟩
  · have hm : (∃ x ∈ setG c y M, x.1 = k) ↔ ∃ x ∈ M, x.1 = k := by
      unfold setG
      constructor
      · rintro ⟨x, hx, rfl⟩
        obtain ⟨t, ht, rfl⟩ := List.mem_map.1 hx
        exact ⟨t, ht, (setG_key c y t).symm⟩
      · rintro ⟨x, hx, rfl⟩
        exact ⟨_, List.mem_map.2 ⟨x, hx, rfl⟩, setG_key c y x⟩
    rw [hm]
    by_cases e : k = c
    · subst e
      rw [has_put_same h.isMap (by trivial)]
      exact ⟨fun _ => ⟨_, hin, rfl⟩, fun _ => rfl⟩
    · rw [has_put_other (lit_ne e), h.keys]
  · obtain ⟨t, ht, rfl⟩ := List.mem_map.1 hx
    by_cases e : t.1 = c
    · rw [if_pos e]
      refine ⟨v, ?_, hv⟩
      show DataW.atKey (DataW.put D (.int .i64 c) (.held v)) (.int .i64 c) (.held z) = .held v
      rw [atKey_put_same h.isMap (by trivial)]
    · rw [if_neg e, atKey_put_other (lit_ne e)]
      exact h.vals t ht
  · rw [size_put ht, hn, h.size]; simp [setG]
  · unfold setG
    refine List.pairwise_map.2 (h.apart.imp fun {a b} hab => ?_)
    rw [setG_key, setG_key]
    exact hab
end
/-- Block b is a map of at most q entries that holds M. -/
def MapAt {β : Type} (P : β → Value → Prop) (z : Value) (w : World) (b q : Nat) (M : List (Int × β)) : Prop := ∃ D : DataW Value, w.ownsMap Try.prog 3 RH b q D ∧ RelG P z D M
theorem MapAt.lt {β : Type} {P : β → Value → Prop} {z : Value} {w : World} {b q : Nat} {M : List (Int × β)} (h : MapAt P z w b q M) : b < w.heap.size := by obtain ⟨D, ho, _⟩ := h; exact ho.lt
theorem MapAt.keep {β : Type} {P P' : β → Value → Prop} {z : Value} {w w' : World} {b q : Nat} {M : List (Int × β)} (h : MapAt P z w b q M) (hb : w'.heap[b]? = w.heap[b]?) (hp : ∀ x v, P x v → P' x v) : MapAt P' z w' b q M := by
  obtain ⟨D, ⟨es, clock, h3, h4⟩, hr⟩ := h
  exact ⟨D, ⟨es, clock, hb.trans h3, h4⟩, hr.imp hp⟩
/-- What a client was answered last: the seven cells. -/
def lasV (n : Int) (r : Rp) (g d a : Value) : Value := .agg #[.int .i64 n, .int .i64 r.e, .int .i64 r.s, .int .i64 r.n, g, d, a]
def LasP (S : Nat → Prop) (w : World) (x : Int × Rp) (v : Value) : Prop := ∃ g d a, v = lasV x.1 x.2 g d a ∧ RepAt S w x.2 g d a ∧ x.2.few
def NumP (n : Int) (v : Value) : Prop := v = .int .i64 n
def RepP (S : Nat → Prop) (w : World) (r : Rp) (v : Value) : Prop := ∃ g d a, v = repV r g d a ∧ RepAt S w r g d a ∧ r.few
theorem LasP.kept {S : Nat → Prop} {w w' : World} (hk : Kept w w' S) (x : Int × Rp) (v : Value) (h : LasP S w x v) : LasP S w' x v := by
  obtain ⟨g, d, a, h1, h2, h3⟩ := h
  exact ⟨g, d, a, h1, h2.kept hk, h3⟩
theorem RepP.kept {S : Nat → Prop} {w w' : World} (hk : Kept w w' S) (r : Rp) (v : Value) (h : RepP S w r v) : RepP S w' r v := by
  obtain ⟨g, d, a, h1, h2, h3⟩ := h
  exact ⟨g, d, a, h1, h2.kept hk, h3⟩
/-- Block B is a table, b its map. -/
def TabR (S : Nat → Prop) (w : World) (B b q : Nat) (M : List (Int × (Int × Rp))) : Prop := w.heap[B]? = some (.cells #[.map (some b)] 48 (0, 0)) ∧ MapAt (LasP S w) zeroV w b q M
theorem TabR.lt {S : Nat → Prop} {w : World} {B b q : Nat} {M : List (Int × (Int × Rp))} (h : TabR S w B b q M) : B < w.heap.size ∧ b < w.heap.size ∧ B ≠ b := by
  obtain ⟨hb, D, ho, _⟩ := h
  refine ⟨blk_lt hb, ho.lt, fun e => ?_⟩
  obtain ⟨es, clock, h3, _⟩ := ho
  rw [← e, hb] at h3
  cases h3
theorem TabR.keep {S : Nat → Prop} {w w' : World} {B b q : Nat} {M : List (Int × (Int × Rp))} (h : TabR S w B b q M) (hk : Kept w w' S) (h1 : w'.heap[B]? = w.heap[B]?) (h2 : w'.heap[b]? = w.heap[b]?) : TabR S w' B b q M :=
  ⟨h1.trans h.1, h.2.keep h2 (LasP.kept hk)⟩
theorem TabR.below {S : Nat → Prop} {w w' : World} {B b q : Nat} {M : List (Int × (Int × Rp))} (h : TabR S w B b q M) (hb : Below w.heap.size w w') : TabR S w' B b q M :=
  h.keep (Kept.of_below hb _) (hb.block B h.lt.1) (hb.block b h.lt.2.1)
/-- What the list says of a key. -/
def getG {β : Type} (z : β) (c : Int) (M : List (Int × β)) : β := ((M.find? (fun x => x.1 == c)).map (·.2)).getD z
theorem getG_no {β : Type} (z : β) (c : Int) (M : List (Int × β)) (h : ∀ x ∈ M, x.1 ≠ c) : getG z c M = z := by
  unfold getG
  rw [List.find?_eq_none.2 (fun x hx => by simpa using h x hx)]
  rfl
theorem getG_in {β : Type} (z : β) (c : Int) (y : β) : ∀ (M : List (Int × β)), M.Pairwise (fun x y => x.1 ≠ y.1) → (c, y) ∈ M → getG z c M = y := by
  intro M
  induction M with
  | nil => intro _ h; cases h
  | cons x M ih =>
    intro hp h
    unfold getG at ih ⊢
    rw [List.find?_cons]
    by_cases e : x.1 = c
    · rw [beq_iff_eq.2 e]
      rcases List.mem_cons.1 h with rfl | h
      · rfl
      · exact absurd e ((List.pairwise_cons.1 hp).1 _ h)
    · rw [beq_eq_false_iff_ne.2 e]
      rcases List.mem_cons.1 h with rfl | h
      · exact absurd rfl e
      · exact ih (List.pairwise_cons.1 hp).2 h
end Go.Proofs.Ythelhieeplfffaa.P
