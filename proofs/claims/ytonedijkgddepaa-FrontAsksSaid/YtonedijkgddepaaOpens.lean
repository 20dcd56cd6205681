/- How an argument of any kind (numbers, bools, texts, structs, slices of these, nested) is told by the print's kinds: out of the row's own reading. No conditions. -/
import Derived.Test.YtonedijkgddepaaWWords
import Derived.Deep.Slices
import Derived.SizedLaws
import Derived.ChangeArms
import Derived.DataReads
namespace Go.Proofs.Ytonedijkgddepaa.Opens
open Go.Proofs.YtonedijkgddepaaW.PrintWords

/-- What is read at type t is told by the kind K, and is good (G). -/
def Opens {α : Type} (P : Program) (K : Kd α) (t : TypeId) (G : α → Prop) : Prop :=
 ∀ (H : Type) (enc : TypeId × Value → H) (w : World) (held : Bool) (fuel : Nat) (cs : List Value) (d : DataW H) (ps : List MemPlace),
  DataW.trod enc P w 0 (fun _ => true) held fuel t cs = some (d, ps) → (∀ n ∈ d.weights P t, n ≤ reachBytes) → ∃ x : α, K.K w x cs ∧ G x

theorem Opens.int {P : Program} {t : TypeId} {k : IntKind} (ht : P.underlying t = some (.int k)) : Opens P (Kd.int k) t (fun x => (Lit.int k x).wf = true) := by
 intro H enc w held fuel cs d ps h _
 obtain ⟨n, rfl, _, hwf⟩ := DataW.trod_int ht h
 exact ⟨n, rfl, hwf⟩

theorem Opens.bool {P : Program} {t : TypeId} (ht : P.underlying t = some .bool) : Opens P Kd.bool t (fun _ => True) := by
 intro H enc w held fuel cs d ps h _
 obtain ⟨n, rfl, _⟩ := DataW.trod_bool ht h
 exact ⟨n, rfl, trivial⟩

theorem Opens.string {P : Program} {t : TypeId} (ht : P.underlying t = some .string) : Opens P Kd.string t (fun s => s.size ≤ 140737488351232) := by
 intro H enc w held fuel cs d ps h hw
 obtain ⟨s, rfl, hx, _⟩ := DataW.trod_string ht h
 obtain ⟨rfl, rfl⟩ := Prod.mk.inj hx
 refine ⟨s, rfl, ?_⟩
 have := hw s.data.toList.length (by simp [DataW.weights])
 simpa [reachBytes] using this

theorem list_of {α : Type} {p : Nat → α → Prop} (n : Nat) (h : ∀ i, i < n → ∃ x, p i x) : ∃ xs : List α, xs.length = n ∧ ∀ (j : Nat) (x : α), xs[j]? = some x → p j x := by
 induction n with
 | zero => exact ⟨[], rfl, fun j x hj => by simp at hj⟩
 | succ n ih =>
  obtain ⟨xs, hl, hx⟩ := ih (fun i hi => h i (Nat.lt_succ_of_lt hi))
  obtain ⟨y, hy⟩ := h n (Nat.lt_succ_self n)
  refine ⟨xs ++ [y], by simp [hl], fun j x hj => ?_⟩
  rcases Nat.lt_trichotomy j n with hlt | heq | hgt
  ·rw [List.getElem?_append_left (by omega)] at hj
   exact hx j x hj
  ·subst heq
   rw [← hl, List.getElem?_concat_length] at hj
   cases hj
   exact hy
  ·rw [List.getElem?_eq_none (by simp; omega)] at hj
   cases hj

theorem cells_get {w : World} {base : Nat} {a : Addr} {n : Nat} {cs : List Value} (h : w.cells? base a n = some cs) : cs.length = n ∧ ∀ i u, cs[i]? = some u → w.cell? (a.add i) = some u := by
 obtain ⟨_, hl, hg⟩ := World.cells?_some h
 refine ⟨hl, fun i u hu => ?_⟩
 have hi : i < n := by
  have := (List.getElem?_eq_some_iff.1 hu).1
  omega
 rw [hg i hi]
 exact hu

theorem weights_mem_all {H : Type} {P : Program} {e : TypeId} (l : List (DataW H)) (d : DataW H) (hd : d ∈ l) : ∀ n ∈ d.weights P e, n ∈ DataW.weightsAll P e l := by
 induction l with
 | nil => cases hd
 | cons x xs ih =>
  intro n hn
  simp only [DataW.weightsAll, List.mem_append]
  rcases List.mem_cons.1 hd with rfl | hd
  ·exact .inl hn
  ·exact .inr (ih hd n hn)

theorem Opens.slice {α : Type} {P : Program} {K : Kd α} {t e : TypeId} {b : Nat} {G : α → Prop} (hE : Opens P K e G) (ht : P.underlying t = some (.slice e)) (hc : P.cellsOf e = K.sz) (hb : P.bytesOf e = b) :
  Opens P (Kd.slice e K) t (fun l => l.length * b ≤ 140737488351232 ∧ l.length ≤ maxLen ∧ ∀ x ∈ l, G x) := by
 intro H enc w held fuel cs d ps h hw
 rcases Go.Deep.open_slice ht h with ⟨rfl, hx⟩ | ⟨a, len, cap, m, n, D, Pl, rfl, _, hl, hm, hmm, hx, hall⟩
 ·exact ⟨[], ⟨none, 0, rfl, Nat.le_refl _, rfl, by simp, fun h0 => absurd h0 (by simp)⟩, by simp [maxLen]⟩
 ·simp only [if_true] at hmm
  subst hmm
  obtain ⟨rfl, rfl⟩ := Prod.mk.inj hx
  have hw0 := hw ((((List.range len).map D).length + ((List.range (m - len)).map fun j => D (len + j)).length) * P.bytesOf e) (by simp [DataW.weights, ht])
  simp only [List.length_map, List.length_range, hb, reachBytes] at hw0
  have hin : ∀ i, i < len → ∀ k ∈ (D i).weights P e, k ≤ reachBytes := by
   intro i hi k hk
   refine hw k ?_
   simp only [DataW.weights, ht, List.mem_cons, List.mem_append]
   exact .inr (.inl (weights_mem_all _ (D i) (List.mem_map.2 ⟨i, by simpa using hi, rfl⟩) k hk))
  have hex : ∀ i, i < len → ∃ x : α, (∃ c, c.length = K.sz ∧ K.K w x c ∧ ∀ j u, c[j]? = some u → w.cell? (a.add (i * K.sz + j)) = some u) ∧ G x := by
   intro i hi
   obtain ⟨cs', h1, h2⟩ := hall i (by omega)
   rw [hc] at h1
   obtain ⟨x, hk, hg⟩ := hE H enc w held n cs' (D i) (Pl i) h2 (hin i hi)
   obtain ⟨g1, g2⟩ := cells_get h1
   exact ⟨x, ⟨cs', g1, hk, fun j u hu => by rw [← Go.Deep.add_add]; exact g2 j u hu⟩, hg⟩
  obtain ⟨xs, hlen, hxs⟩ := list_of len hex
  subst hlen
  have hmul : xs.length * b ≤ 140737488351232 := by
   refine Nat.le_trans (Nat.mul_le_mul_right b (show xs.length ≤ xs.length + (m - xs.length) by omega)) ?_
   simpa using hw0
  refine ⟨xs, ⟨some a, m, rfl, hl, rfl, ?_, fun _ => ⟨a, rfl, fun j p hj => (hxs j p hj).1⟩⟩, hmul, by omega, fun x hx => ?_⟩
  ·unfold maxLen at hm
   omega
  ·obtain ⟨j, hj⟩ := List.getElem?_of_mem hx
   exact (hxs j x hj).2

/-! structs: their fields, one behind the other -/
def Segs {H : Type} (enc : TypeId × Value → H) (P : Program) (w : World) (held : Bool) (fuel : Nat) : List TypeId → List Value → List (DataW H) → Prop
 | [], cs, ds => cs = [] ∧ ds = []
 | t :: ts, cs, ds => ∃ c0 c1 d p ds', cs = c0 ++ c1 ∧ ds = d :: ds' ∧ DataW.trod enc P w 0 (fun _ => true) held fuel t c0 = some (d, p) ∧ Segs enc P w held fuel ts c1 ds'

def OpensS {α : Type} (P : Program) (K : Kd α) (ts : List TypeId) (G : α → Prop) : Prop :=
 ∀ (H : Type) (enc : TypeId × Value → H) (w : World) (held : Bool) (fuel : Nat) (cs : List Value) (ds : List (DataW H)),
  Segs enc P w held fuel ts cs ds → (∀ n ∈ DataW.weightsEach P ts ds, n ≤ reachBytes) → ∃ x : α, K.K w x cs ∧ G x

theorem OpensS.one {α : Type} {P : Program} {K : Kd α} {t : TypeId} {G : α → Prop} (h : Opens P K t G) : OpensS P K [t] G := by
 intro H enc w held fuel cs ds hs hw
 obtain ⟨c0, c1, d, p, ds', rfl, rfl, h0, rfl, rfl⟩ := hs
 rw [List.append_nil]
 exact h H enc w held fuel c0 d p h0 (fun n hn => hw n (by simp [DataW.weightsEach, hn]))

theorem OpensS.cons {α β : Type} {P : Program} {K : Kd α} {L : Kd β} {t : TypeId} {ts : List TypeId} {G : α → Prop} {G' : β → Prop} (h : Opens P K t G) (hs : OpensS P L ts G') :
  OpensS P (Kd.pair K L) (t :: ts) (fun x => G x.1 ∧ G' x.2) := by
 intro H enc w held fuel cs ds hg hw
 obtain ⟨c0, c1, d, p, ds', rfl, rfl, h0, h1⟩ := hg
 obtain ⟨x, hx, gx⟩ := h H enc w held fuel c0 d p h0 (fun n hn => hw n (by simp [DataW.weightsEach, hn]))
 obtain ⟨y, hy, gy⟩ := hs H enc w held fuel c1 ds' h1 (fun n hn => hw n (by simp [DataW.weightsEach, hn]))
 exact ⟨(x, y), ⟨c0, c1, rfl, hx, hy⟩, gx, gy⟩

/-- The fields lie one behind the other, from o on. -/
def offs (P : Program) : Nat → List Field → Bool
 | _, [] => true
 | o, f :: fs => f.offset == o && offs P (o + P.cellsOf f.type) fs
def sum (P : Program) : List Field → Nat
 | [] => 0
 | f :: fs => P.cellsOf f.type + sum P fs

theorem segs_of {H : Type} {enc : TypeId × Value → H} {P : Program} {w : World} {held : Bool} {fuel : Nat} {cs : List Value} :
  ∀ (fs : List Field) (o : Nat) (xs : List (DataW H × List MemPlace)), offs P o fs = true → (cs.drop o).length = sum P fs → xs.length = fs.length →
  (∀ (i : Nat) (f : Field), fs[i]? = some f → DataW.trod enc P w 0 (fun _ => true) held fuel f.type ((cs.drop f.offset).take (P.cellsOf f.type)) = xs[i]?) →
  Segs enc P w held fuel (fs.map (·.type)) (cs.drop o) (xs.map (·.1)) := by
 intro fs
 induction fs with
 | nil =>
  intro o xs _ hl hx _
  refine ⟨?_, ?_⟩
  ·exact List.eq_nil_of_length_eq_zero hl
  ·have : xs = [] := List.eq_nil_of_length_eq_zero hx
   rw [this]
   rfl
 | cons f fs ih =>
  intro o xs ho hl hx hall
  simp only [offs, Bool.and_eq_true, beq_iff_eq] at ho
  obtain ⟨rfl, ho⟩ := ho
  match xs, hx with
  | [], hx => simp at hx
  | (d, p) :: xs, hx =>
   have h0 := hall 0 f rfl
   simp only [sum] at hl
   refine ⟨(cs.drop f.offset).take (P.cellsOf f.type), cs.drop (f.offset + P.cellsOf f.type), d, p, xs.map (·.1), ?_, rfl, h0, ?_⟩
   ·rw [← List.drop_drop, List.take_append_drop]
   ·refine ih (f.offset + P.cellsOf f.type) xs ho ?_ (by simpa using hx) (fun i f' hf => ?_)
    ·simp only [List.length_drop] at hl ⊢
     omega
    ·exact hall (i + 1) f' (by simpa using hf)

theorem Opens.struct {α β : Type} {P : Program} {K : Kd α} {t : TypeId} {ts : List TypeId} {fs : Array Field} {G : α → Prop} (h : OpensS P K ts G) (ht : P.underlying t = some (.struct fs)) (hts : fs.toList.map (·.type) = ts) (ho : offs P 0 fs.toList = true) (hn : P.cellsOf t = sum P fs.toList)
  (f : β → α) (g : α → β) (hfg : ∀ x, f (g x) = x) : Opens P (Kd.iso K f) t (fun y => G (f y)) := by
 intro H enc w held fuel cs d ps hd hw
 obtain ⟨xs, n, rfl, hx, hl, hlen, hall⟩ := DataW.trod_struct ht hd
 obtain ⟨rfl, rfl⟩ := Prod.mk.inj hx
 have hs := segs_of (enc := enc) (P := P) (w := w) (held := held) (fuel := n) (cs := cs) fs.toList 0 xs ho (by simpa [hn] using hl) (by simpa using hlen) (fun i f hf => hall i f (by simpa using hf))
 rw [hts, List.drop_zero] at hs
 obtain ⟨x, hk, gx⟩ := h H enc w held n cs _ hs (fun k hk => hw k (by simp only [DataW.weights, ht, hts]; exact hk))
 refine ⟨g x, ?_, ?_⟩
 ·show K.K w (f (g x)) cs
  rw [hfg]
  exact hk
 ·show G (f (g x))
  rw [hfg]
  exact gx
/-- A good thing said otherwise. -/
theorem Opens.imp {α : Type} {P : Program} {K : Kd α} {t : TypeId} {G G' : α → Prop} (h : Opens P K t G) (hG : ∀ x, G x → G' x) : Opens P K t G' := by
 intro H enc w held fuel cs d ps hd hw
 obtain ⟨x, hk, hg⟩ := h H enc w held fuel cs d ps hd hw
 exact ⟨x, hk, hG x hg⟩
end Go.Proofs.Ytonedijkgddepaa.Opens
