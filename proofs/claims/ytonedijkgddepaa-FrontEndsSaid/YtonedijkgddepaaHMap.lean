/- Maps from whole numbers, by hand: what one holds is a list. No conditions. -/
import Derived.Test.YtonedijkgddepaaP0
import Derived.Test.YtonedijkgddepaaWMore
import Derived.Test.YtonedijkgddepaaWKept
import Derived.Maps.OwnSet
import Derived.Maps.OwnOps
import Derived.WalkSpells
import Derived.Deep.LoopGhost
namespace Go.Proofs.Ytonedijkgddepaa.P
open Go.RowKit Go.Maps Go.Proofs.YtonedijkgddepaaW.PrintWords Go.Proofs.YtonedijkgddepaaW.PrintLast Go.Proofs.YtonedijkgddepaaW.PrintMore
set_option linter.unusedVariables false
set_option linter.unusedSimpArgs false
def RH (v : Value) : Option (DataW Value × List MemPlace) := some (.held v, [])
theorem law3 : Keyed Try.prog 3 := int_keyed Try.underlying3
theorem lit_ne {a b : Int} (h : a ≠ b) : (Lit.int .i64 a) ≠ (Lit.int .i64 b) := fun e => h (by injection e)
theorem blk_at {W : World} {g : Nat} {o : Obj} (e : g = W.heap.size) : (W.alloc o).heap[g]? = some o := e ▸ heap_alloc_new W o
theorem owns_below {P : Program} {k b n : Nat} {R : Value → Option (DataW Value × List MemPlace)} {w w' : World} {D : DataW Value} (h : w.ownsMap P k R b n D) (hb : Below w.heap.size w w') : w'.ownsMap P k R b n D := by
 have hlt := h.lt
 obtain ⟨es, clock, h1, h2⟩ := h
 exact ⟨es, clock, (hb.block b hlt).trans h1, h2⟩
structure RelG {β : Type} (P : β → Value → Prop) (z : Value) (D : DataW Value) (M : List (Int × β)) : Prop where
 isMap : IsMap D
 keys : ∀ k : Int, Maps.has D (.int .i64 k) = true ↔ ∃ x ∈ M, x.1 = k
 vals : ∀ x ∈ M, ∃ v, D.atKey (.int .i64 x.1) (.held z) = .held v ∧ P x.2 v
 size : Maps.size D = M.length
 apart : M.Pairwise (fun x y => x.1 ≠ y.1)
section
variable {β : Type} {P P' : β → Value → Prop} {z : Value} {D : DataW Value} {M : List (Int × β)}
theorem RelG.start : RelG P z (.map []) [] := ⟨isMap_empty, fun k => by simp [Maps.has], fun x h => (by cases h), rfl, List.Pairwise.nil⟩
theorem RelG.imp (h : RelG P z D M) (hp : ∀ x v, P x v → P' x v) : RelG P' z D M := ⟨h.isMap, h.keys, fun x hx => by obtain ⟨v, h1, h2⟩ := h.vals x hx; exact ⟨v, h1, hp _ _ h2⟩, h.size, h.apart⟩
theorem RelG.no (h : RelG P z D M) {c : Int} (hno : ∀ x ∈ M, x.1 ≠ c) : Maps.has D (.int .i64 c) = false := by
 cases hh : Maps.has D (.int .i64 c)
 ·rfl
 ·obtain ⟨x, hx, e⟩ := (h.keys c).1 hh
  exact absurd e (hno x hx)
theorem RelG.new (h : RelG P z D M) (ht : Tidy D) {c : Int} (hno : ∀ x ∈ M, x.1 ≠ c) (y : β) (v : Value) (hv : P y v) : RelG P z (D.put (.int .i64 c) (.held v)) (M ++ [(c, y)]) := by
 have hn := h.no hno
 refine ⟨h.isMap.put _ _, fun k => ?_, fun x hx => ?_, ?_, ?_⟩
 ·by_cases e : k = c
  ·subst e
   rw [has_put_same h.isMap (by trivial)]
   exact ⟨fun _ => ⟨(k, y), by simp, rfl⟩, fun _ => rfl⟩
  ·rw [has_put_other (lit_ne e), h.keys]
   constructor
   ·rintro ⟨x, hx, rfl⟩
    exact ⟨x, List.mem_append_left _ hx, rfl⟩
   ·rintro ⟨x, hx, rfl⟩
    rcases List.mem_append.1 hx with hx | hx
    ·exact ⟨x, hx, rfl⟩
    ·rw [List.mem_singleton] at hx
     subst hx
     exact absurd rfl e
 ·rcases List.mem_append.1 hx with hx | hx
  ·rw [atKey_put_other (lit_ne (hno x hx))]
   exact h.vals x hx
  ·rw [List.mem_singleton] at hx
   subst hx
   refine ⟨v, ?_, hv⟩
   show DataW.atKey (DataW.put D (.int .i64 c) (.held v)) (.int .i64 c) (.held z) = .held v
   rw [atKey_put_same h.isMap (by trivial)]
 ·rw [size_put ht, hn, h.size]; simp
 ·refine List.pairwise_append.2 ⟨h.apart, List.pairwise_singleton _ _, fun x hx y hy => ?_⟩
  rw [List.mem_singleton] at hy
  subst hy
  exact hno x hx
def setG (c : Int) (y : β) (M : List (Int × β)) : List (Int × β) := M.map fun x => if x.1 = c then (c, y) else x
theorem setG_key (c : Int) (y : β) (x : Int × β) : (if x.1 = c then (c, y) else x).1 = x.1 := by
 split
 ·rename_i e; exact e.symm
 ·rfl
theorem RelG.old (h : RelG P z D M) (ht : Tidy D) {c : Int} {y0 : β} (hin : (c, y0) ∈ M) (y : β) (v : Value) (hv : P y v) : RelG P z (D.put (.int .i64 c) (.held v)) (setG c y M) := by
 have hn : Maps.has D (.int .i64 c) = true := (h.keys c).2 ⟨_, hin, rfl⟩
 refine ⟨h.isMap.put _ _, fun k => ?_, fun x hx => ?_, ?_, ?_⟩
 ·have hm : (∃ x ∈ setG c y M, x.1 = k) ↔ ∃ x ∈ M, x.1 = k := by
   unfold setG
   constructor
   ·rintro ⟨x, hx, rfl⟩
    obtain ⟨t, ht, rfl⟩ := List.mem_map.1 hx
    exact ⟨t, ht, (setG_key c y t).symm⟩
   ·rintro ⟨x, hx, rfl⟩
    exact ⟨_, List.mem_map.2 ⟨x, hx, rfl⟩, setG_key c y x⟩
  rw [hm]
  by_cases e : k = c
  ·subst e
   rw [has_put_same h.isMap (by trivial)]
   exact ⟨fun _ => ⟨_, hin, rfl⟩, fun _ => rfl⟩
  ·rw [has_put_other (lit_ne e), h.keys]
 ·obtain ⟨t, ht, rfl⟩ := List.mem_map.1 hx
  by_cases e : t.1 = c
  ·rw [if_pos e]
   refine ⟨v, ?_, hv⟩
   show DataW.atKey (DataW.put D (.int .i64 c) (.held v)) (.int .i64 c) (.held z) = .held v
   rw [atKey_put_same h.isMap (by trivial)]
  ·rw [if_neg e, atKey_put_other (lit_ne e)]
   exact h.vals t ht
 ·rw [size_put ht, hn, h.size]; simp [setG]
 ·unfold setG
  refine List.pairwise_map.2 (h.apart.imp fun {a b} hab => ?_)
  rw [setG_key, setG_key]
  exact hab
end
/-- Block b is a map of at most q entries that holds M. -/
def MapAt {β : Type} (P : β → Value → Prop) (z : Value) (w : World) (b q : Nat) (M : List (Int × β)) : Prop := ∃ D : DataW Value, w.ownsMap Try.prog 3 RH b q D ∧ RelG P z D M
theorem MapAt.lt {β : Type} {P : β → Value → Prop} {z : Value} {w : World} {b q : Nat} {M : List (Int × β)} (h : MapAt P z w b q M) : b < w.heap.size := by obtain ⟨D, ho, _⟩ := h; exact ho.lt
theorem MapAt.keep {β : Type} {P P' : β → Value → Prop} {z : Value} {w w' : World} {b q : Nat} {M : List (Int × β)} (h : MapAt P z w b q M) (hb : w'.heap[b]? = w.heap[b]?) (hp : ∀ x v, P x v → P' x v) : MapAt P' z w' b q M := by
 obtain ⟨D, ⟨es, clock, h3, h4⟩, hr⟩ := h
 exact ⟨D, ⟨es, clock, hb.trans h3, h4⟩, hr.imp hp⟩
def NumP (n : Int) (v : Value) : Prop := v = .int .i64 n
/-- What the list says of a key. -/
def getG {β : Type} (z : β) (c : Int) (M : List (Int × β)) : β := ((M.find? (fun x => x.1 == c)).map (·.2)).getD z
theorem getG_no {β : Type} (z : β) (c : Int) (M : List (Int × β)) (h : ∀ x ∈ M, x.1 ≠ c) : getG z c M = z := by
 unfold getG
 rw [List.find?_eq_none.2 (fun x hx => by simpa using h x hx)]
 rfl
theorem getG_in {β : Type} (z : β) (c : Int) (y : β) : ∀ (M : List (Int × β)), M.Pairwise (fun x y => x.1 ≠ y.1) → (c, y) ∈ M → getG z c M = y := by
 intro M
 induction M with
 | nil => intro _ h; cases h
 | cons x M ih =>
  intro hp h
  unfold getG at ih ⊢
  rw [List.find?_cons]
  by_cases e : x.1 = c
  ·rw [beq_iff_eq.2 e]
   rcases List.mem_cons.1 h with rfl | h
   ·rfl
   ·exact absurd e ((List.pairwise_cons.1 hp).1 _ h)
  ·rw [beq_eq_false_iff_ne.2 e]
   rcases List.mem_cons.1 h with rfl | h
   ·exact absurd rfl e
   ·exact ih (List.pairwise_cons.1 hp).2 h
def inM {β : Type} (c : Int) (M : List (Int × β)) : Bool := M.any (fun x => x.1 == c)
theorem inM_iff {β : Type} (c : Int) (M : List (Int × β)) : inM c M = true ↔ ∃ y, (c, y) ∈ M := by
 unfold inM
 rw [List.any_eq_true]
 constructor
 ·rintro ⟨x, hx, he⟩
  have : x.1 = c := by simpa using he
  exact ⟨x.2, by rw [← this]; exact hx⟩
 ·rintro ⟨y, hy⟩
  exact ⟨_, hy, by simp⟩
def putM {β : Type} (c : Int) (y : β) (M : List (Int × β)) : List (Int × β) := if inM c M = true then setG c y M else M ++ [(c, y)]
theorem putM_in {β : Type} (c : Int) (y : β) (M : List (Int × β)) : (c, y) ∈ putM c y M := by
 unfold putM
 split
 ·rename_i h
  obtain ⟨y0, h0⟩ := (inM_iff c M).1 h
  unfold setG
  exact List.mem_map.2 ⟨_, h0, by simp⟩
 ·simp
theorem putM_mem {β : Type} (c : Int) (y : β) (M : List (Int × β)) (x : Int × β) (h : x ∈ putM c y M) : x = (c, y) ∨ x ∈ M := by
 unfold putM at h
 split at h
 ·unfold setG at h
  obtain ⟨t, ht, rfl⟩ := List.mem_map.1 h
  split
  ·exact Or.inl rfl
  ·exact Or.inr ht
 ·rcases List.mem_append.1 h with h | h
  ·exact Or.inr h
  ·exact Or.inl (List.mem_singleton.1 h)
theorem RelG.put {β : Type} {P : β → Value → Prop} {z : Value} {D : DataW Value} {M : List (Int × β)} (h : RelG P z D M) (ht : Tidy D) (c : Int) (y : β) (v : Value) (hv : P y v) : RelG P z (D.put (.int .i64 c) (.held v)) (putM c y M) := by
 unfold putM
 by_cases hin : inM c M = true
 ·rw [if_pos hin]
  obtain ⟨y0, h0⟩ := (inM_iff c M).1 hin
  exact h.old ht h0 y v hv
 ·rw [if_neg hin]
  exact h.new ht (fun x hx he => hin ((inM_iff c M).2 ⟨x.2, by rw [← he]; exact hx⟩)) y v hv
theorem MapAt.mono {β : Type} {P : β → Value → Prop} {z : Value} {w : World} {b q q' : Nat} {M : List (Int × β)} (h : MapAt P z w b q M) (hq : q ≤ q') : MapAt P z w b q' M := by
 obtain ⟨D, h2, h3⟩ := h
 exact ⟨D, h2.mono hq, h3⟩
theorem zero3 (w : World) : (zeroValue 3).run Try.prog w = .ok (.int .i64 0) w := by kernel_rfl
theorem look_run {P : Program} {w : World} {k e t b n : Nat} {D : DataW Value} (hown : w.ownsMap P k RH b n D) (K : Keyed P k) (ht : P.underlying t = some (.map k e)) {z : Value} (hz : (zeroValue e).run P w = .ok z w) {key : Value} {kl : Lit} (hkey : keyOf P k key = some kl) {V : Value} (hat : D.atKey kl (.held z) = .held V) : (Instr.lookup t (.map (some b)) key false).run P w = .ok V w := by
 obtain ⟨v, ps, hrun, hv⟩ := hown.lookup K ht hz (zd := .held z) (zp := []) rfl hkey
 rw [hat] at hv
 unfold RH at hv
 injection hv with hv
 injection hv with hv _
 injection hv with hv
 subst hv
 exact hrun
theorem MapAt.look {w : World} {b q : Nat} {M : List (Int × Int)} {t : TypeId} (h : MapAt NumP (.int .i64 0) w b q M) (ht : Try.prog.underlying t = some (.map 3 3)) (c : Int) (hc : 0 ≤ c ∧ c ≤ 1099511627776) :
  (Instr.lookup t (.map (some b)) (.int .i64 c) false).run Try.prog w = .ok (.int .i64 (getG 0 c M)) w := by
 have hk : keyOf Try.prog 3 (.int .i64 c) = some (.int .i64 c) := keyOf_int_mk (P := Try.prog) (k := 3) Try.underlying3 (show (Lit.int .i64 c).wf = true by simp [Lit.wf]; simp [IntKind.min, IntKind.bits]; omega)
 obtain ⟨D, ho, hr⟩ := h
 refine look_run ho law3 ht (zero3 _) hk ?_
 by_cases hin : ∃ y, (c, y) ∈ M
 ·obtain ⟨y, hy⟩ := hin
  obtain ⟨v, h1, h2⟩ := hr.vals (c, y) hy
  rw [getG_in 0 c y M hr.apart hy]
  unfold NumP at h2
  rw [← h2]
  exact h1
 ·rw [getG_no 0 c M (fun x hx he => hin ⟨x.2, by rw [← he]; exact hx⟩)]
  refine atKey_of_not_has (hr.no (fun x hx he => hin ⟨x.2, by rw [← he]; exact hx⟩)) _
theorem MapAt.put {w : World} {b q : Nat} {M : List (Int × Int)} {t : TypeId} (h : MapAt NumP (.int .i64 0) w b q M) (ht : Try.prog.underlying t = some (.map 3 3)) (hq : q < 100000) (c v : Int) (hc : 0 ≤ c ∧ c ≤ 1099511627776) :
  ∃ w', (Instr.mapUpdate t (.map (some b)) (.int .i64 c) (.int .i64 v)).run Try.prog w = .ok () w' ∧ MapAt NumP (.int .i64 0) w' b (q + 1) (putM c v M) ∧ w.grownBy w' (some b) := by
 have hk : keyOf Try.prog 3 (.int .i64 c) = some (.int .i64 c) := keyOf_int_mk (P := Try.prog) (k := 3) Try.underlying3 (show (Lit.int .i64 c).wf = true by simp [Lit.wf]; simp [IntKind.min, IntKind.bits]; omega)
 obtain ⟨D, ho, hr⟩ := h
 obtain ⟨w', hrun, hown, hgrow⟩ := ho.update law3 ht (show q < maxLen by unfold maxLen; omega) hk (show RH (.int .i64 v) = some (.held (.int .i64 v), []) from rfl)
 exact ⟨w', hrun, ⟨_, hown, hr.put (ho.tidy law3) c v _ rfl⟩, hgrow⟩
end Go.Proofs.Ytonedijkgddepaa.P
