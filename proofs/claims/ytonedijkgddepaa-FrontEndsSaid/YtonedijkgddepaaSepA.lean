/- Things in memory, each on blocks of its own. No conditions. -/
import Derived.Test.YtonedijkgddepaaFW
namespace Go.Proofs.Ytonedijkgddepaa.P
open Go.RowKit Go.Maps Go.Proofs.YtonedijkgddepaaW.PrintWords Go.Proofs.YtonedijkgddepaaW.PrintLast Go.Proofs.YtonedijkgddepaaW.PrintMore
set_option linter.unusedVariables false
set_option linter.unusedSimpArgs false
/-- A thing that lies in memory, on the blocks of S. -/
structure Thing where
 at_ : World → (Nat → Prop) → Prop
 keep : ∀ {w w' : World} {S : Nat → Prop}, at_ w S → (∀ k, S k → w'.heap[k]? = w.heap[k]?) → at_ w' S
 lt : ∀ {w : World} {S : Nat → Prop}, at_ w S → ∀ k, S k → k < w.heap.size
/-- Several, no block of two of them. -/
def Sts (w : World) : List Thing → (Nat → Prop) → Prop
 | [], S => ∀ k, ¬ S k
 | T :: L, S => ∃ S1 S2, T.at_ w S1 ∧ Sts w L S2 ∧ (∀ k, S1 k → S2 k → False) ∧ ∀ k, S k ↔ S1 k ∨ S2 k
/-- What lies in memory since w0. -/
structure St (w0 w : World) (L : List Thing) : Prop where
 os : w.os = w0.os
 tape : w.tape = w0.tape
 output : w.output = w0.output
 sts : ∃ S, Sts w L S
/-- The things lie there (whatever the machine's state beside memory). -/
def Mem (w : World) (L : List Thing) : Prop := ∃ S, Sts w L S
theorem St.mem {w0 w : World} {L : List Thing} (h : St w0 w L) : Mem w L := h.sts
theorem Sts.lt {w : World} : ∀ {L : List Thing} {S : Nat → Prop}, Sts w L S → ∀ k, S k → k < w.heap.size
 | [], S, h, k, hk => (h k hk).elim
 | T :: L, S, ⟨S1, S2, h1, h2, _, h4⟩, k, hk => by
  rcases (h4 k).1 hk with hk | hk
  ·exact T.lt h1 k hk
  ·exact Sts.lt h2 k hk
theorem Sts.keep {w w' : World} : ∀ {L : List Thing} {S : Nat → Prop}, Sts w L S → (∀ k, S k → w'.heap[k]? = w.heap[k]?) → Sts w' L S
 | [], S, h, _ => h
 | T :: L, S, ⟨S1, S2, h1, h2, h3, h4⟩, hk => ⟨S1, S2, T.keep h1 (fun k h => hk k ((h4 k).2 (.inl h))), Sts.keep h2 (fun k h => hk k ((h4 k).2 (.inr h))), h3, h4⟩
theorem Sts.perm {w : World} {L L' : List Thing} (hp : L.Perm L') : ∀ {S : Nat → Prop}, Sts w L S → Sts w L' S := by
 induction hp with
 | nil => exact fun h => h
 | cons x _ ih => rintro S ⟨S1, S2, h1, h2, h3, h4⟩; exact ⟨S1, S2, h1, ih h2, h3, h4⟩
 | swap x y l =>
  rintro S ⟨S1, S2, h1, ⟨S3, S4, h5, h6, h7, h8⟩, h3, h4⟩
  refine ⟨S3, fun k => S1 k ∨ S4 k, h5, ⟨S1, S4, h1, h6, fun k a b => h3 k a ((h8 k).2 (.inr b)), fun k => Iff.rfl⟩, fun k a b => ?_, fun k => ?_⟩
  ·rcases b with b | b
   ·exact h3 k b ((h8 k).2 (.inl a))
   ·exact h7 k a b
  ·rw [h4 k, h8 k]
   constructor
   ·rintro (a | a | a)
    ·exact .inr (.inl a)
    ·exact .inl a
    ·exact .inr (.inr a)
   ·rintro (a | a | a)
    ·exact .inr (.inl a)
    ·exact .inl a
    ·exact .inr (.inr a)
 | trans _ _ ih1 ih2 => exact fun h => ih2 (ih1 h)
theorem St.perm {w0 w : World} {L L' : List Thing} (h : St w0 w L) (hp : L.Perm L') : St w0 w L' := ⟨h.os, h.tape, h.output, by obtain ⟨S, hs⟩ := h.sts; exact ⟨S, hs.perm hp⟩⟩
theorem perm_bring {α : Type} : ∀ (L : List α) (n : Nat) (x : α), L[n]? = some x → L.Perm (x :: L.eraseIdx n)
 | [], n, x, h => by simp at h
 | a :: L, 0, x, h => by simp at h; subst h; exact .refl _
 | a :: L, n + 1, x, h => by
  have h1 := perm_bring L n x (by simpa using h)
  exact (h1.cons a).trans (.swap _ _ _)
/-- Number n comes first. -/
theorem St.bring {w0 w : World} {L : List Thing} (h : St w0 w L) (n : Nat) {x : Thing} (hx : L[n]? = some x) : St w0 w (x :: L.eraseIdx n) := h.perm (perm_bring L n x hx)
/-- The first goes to place n. -/
theorem St.back {w0 w : World} {x : Thing} {L : List Thing} (h : St w0 w (x :: L)) (n : Nat) (hn : n ≤ L.length) : St w0 w (L.insertIdx n x) := h.perm (List.perm_insertIdx x L hn).symm
theorem St.below {w0 w w' : World} {L : List Thing} (h : St w0 w L) (hb : Below w.heap.size w w') : St w0 w' L :=
 ⟨hb.os.trans h.os, hb.tape.trans h.tape, hb.output.trans h.output, by obtain ⟨S, hs⟩ := h.sts; exact ⟨S, hs.keep (fun k hk => hb.block k (hs.lt k hk))⟩⟩
theorem St.drew {w0 w : World} {L : List Thing} (h : St w0 w L) : St w0 w.drew L := h.below (below_drew (Below.refl _ _))
theorem St.drewN {w0 w : World} {L : List Thing} (h : St w0 w L) (m : Nat) : St w0 (w.drewN m) L := h.below (pw_below_drewN (Below.refl _ _) m)
theorem St.drop {w0 w : World} {x : Thing} {L : List Thing} (h : St w0 w (x :: L)) : St w0 w L := ⟨h.os, h.tape, h.output, by obtain ⟨S, S1, S2, h1, h2, h3, h4⟩ := h.sts; exact ⟨S2, h2⟩⟩
theorem Mem.drop0 {w : World} {x : Thing} {L : List Thing} (h : Mem w (x :: L)) : Mem w L := by obtain ⟨S, S1, S2, h1, h2, h3, h4⟩ := h; exact ⟨S2, h2⟩
theorem St.erase {w0 w : World} {L : List Thing} (h : St w0 w L) (n : Nat) : St w0 w (L.eraseIdx n) := by
 rcases Nat.lt_or_ge n L.length with hl | hl
 ·exact (h.bring n (List.getElem?_eq_getElem hl)).drop
 ·rw [List.eraseIdx_of_length_le hl]
  exact h
theorem sts_append {w : World} : ∀ {A L : List Thing} {S : Nat → Prop}, Sts w (A ++ L) S ↔ ∃ S1 S2, Sts w A S1 ∧ Sts w L S2 ∧ (∀ k, S1 k → S2 k → False) ∧ ∀ k, S k ↔ S1 k ∨ S2 k
 | [], L, S => by
  constructor
  ·exact fun h => ⟨fun _ => False, S, fun _ h => h, h, fun _ h _ => h, fun k => ⟨.inr, fun h => h.elim (fun h => h.elim) id⟩⟩
  ·rintro ⟨S1, S2, h1, h2, _, h4⟩
   have : S = S2 := funext fun k => propext ⟨fun h => ((h4 k).1 h).elim (fun h => (h1 k h).elim) id, fun h => (h4 k).2 (.inr h)⟩
   rw [this]
   exact h2
 | T :: A, L, S => by
  constructor
  ·rintro ⟨S1, S2, h1, h2, h3, h4⟩
   obtain ⟨S3, S4, h5, h6, h7, h8⟩ := sts_append.1 h2
   refine ⟨fun k => S1 k ∨ S3 k, S4, ⟨S1, S3, h1, h5, fun k a b => h3 k a ((h8 k).2 (.inl b)), fun k => Iff.rfl⟩, h6, fun k a b => ?_, fun k => ?_⟩
   ·rcases a with a | a
    ·exact h3 k a ((h8 k).2 (.inr b))
    ·exact h7 k a b
   ·rw [h4 k, h8 k, or_assoc]
  ·rintro ⟨S1, S4, ⟨S5, S3, h1, h5, h9, h10⟩, h6, h7, h8⟩
   refine ⟨S5, fun k => S3 k ∨ S4 k, h1, sts_append.2 ⟨S3, S4, h5, h6, fun k a b => h7 k ((h10 k).2 (.inr a)) b, fun k => Iff.rfl⟩, fun k a b => ?_, fun k => ?_⟩
   ·rcases b with b | b
    ·exact h9 k a b
    ·exact h7 k ((h10 k).2 (.inl a)) b
   ·rw [h8 k, h10 k, or_assoc]
/-- The law of a step: A becomes A', what lies beside stays. -/
theorem St.step {w0 w w' : World} {A A' L : List Thing} (h : St w0 w (A ++ L)) (ho : w'.os = w.os) (ht : w'.tape = w.tape) (hu : w'.output = w.output)
  (f : ∀ S, Sts w A S → ∃ S', Sts w' A' S' ∧ (∀ k, S' k → S k ∨ w.heap.size ≤ k) ∧ ∀ k, k < w.heap.size → ¬ S k → w'.heap[k]? = w.heap[k]?) : St w0 w' (A' ++ L) := by
 obtain ⟨S, hs⟩ := h.sts
 obtain ⟨S1, S2, h1, h2, h3, h4⟩ := sts_append.1 hs
 obtain ⟨S', g1, g2, g3⟩ := f S1 h1
 refine ⟨ho.trans h.os, ht.trans h.tape, hu.trans h.output, _, sts_append.2 ⟨S', S2, g1, h2.keep (fun k hk => g3 k (h2.lt k hk) (fun hn => h3 k hn hk)), fun k a b => ?_, fun k => Iff.rfl⟩⟩
 rcases g2 k a with a | a
 ·exact h3 k a b
 ·have := h2.lt k b
  omega
/-- A block of cells. -/
def Blk (B : Nat) (cs : Array Value) (T : TypeId) : Thing where
 at_ w S := w.heap[B]? = some (.cells cs T (0, 0)) ∧ ∀ k, S k ↔ k = B
 keep := fun ⟨h1, h2⟩ hk => ⟨(hk B ((h2 B).2 rfl)).trans h1, h2⟩
 lt := fun ⟨h1, h2⟩ k hk => (h2 k).1 hk ▸ blk_lt h1
/-- All that lay there when w0 was. -/
def Old (w0 : World) : Thing where
 at_ w S := (∀ k, S k ↔ k < w0.heap.size) ∧ w0.heap.size ≤ w.heap.size ∧ ∀ k, k < w0.heap.size → w.heap[k]? = w0.heap[k]?
 keep := @fun w w' S ⟨h1, h2, h3⟩ hk => ⟨h1, by
  rcases Nat.eq_zero_or_pos w0.heap.size with h0 | h0
  ·omega
  ·have h4 := hk (w0.heap.size - 1) ((h1 _).2 (by omega))
   have h5 := (Array.getElem?_eq_some_iff.1 (h4.trans (Array.getElem?_eq_getElem (show w0.heap.size - 1 < w.heap.size by omega)))).1
   omega, fun k hl => (hk k ((h1 k).2 hl)).trans (h3 k hl)⟩
 lt := fun ⟨h1, h2, _⟩ k hk => Nat.lt_of_lt_of_le ((h1 k).1 hk) h2
/-- A row that is one's own. -/
def Row {α : Type} (d : Kd α) (e : Nat) (v : Value) (xs : List α) : Thing where
 at_ w S := d.R e w 0 S v xs ∧ ∀ k, S k → k < w.heap.size
 keep := @fun w w' S ⟨h1, h2⟩ hk => ⟨Kd.R_step h1 (fun k h _ => hk k h), fun k h => by
  have h3 := hk k h
  have h4 := h2 k h
  exact (Array.getElem?_eq_some_iff.1 (h3.trans (Array.getElem?_eq_getElem h4))).1⟩
 lt := fun ⟨_, h2⟩ => h2
theorem St.blk {w0 w : World} {L : List Thing} (h : St w0 w L) (n : Nat) {B : Nat} {cs : Array Value} {T : TypeId} (hx : L[n]? = some (Blk B cs T)) : w.heap[B]? = some (.cells cs T (0, 0)) := by
 obtain ⟨_, _, _, h1, _⟩ := (h.bring n hx).sts
 exact h1.1
theorem St.cell {w0 w : World} {L : List Thing} (h : St w0 w L) (n i : Nat) {B : Nat} {cs : Array Value} {T : TypeId} {v : Value} (hx : L[n]? = some (Blk B cs T)) (hv : cs[i]? = some v) : w.cell? ⟨B, i, none⟩ = some v := (blk_cell (h.blk n hx) i).trans hv
theorem St.row {w0 w : World} {L : List Thing} (h : St w0 w L) (n : Nat) {α : Type} {d : Kd α} {e : Nat} {v : Value} {xs : List α} (hx : L[n]? = some (Row d e v xs)) : ∃ A c, v = .slice A xs.length c ∧ xs.length ≤ c ∧ d.C w A xs.length xs := by
 obtain ⟨_, _, _, h1, _⟩ := (h.bring n hx).sts
 exact Kd.R_reads h1.1
theorem St.reads {w0 w : World} {L : List Thing} (h : St w0 w L) (n : Nat) {α : Type} {d : Kd α} {e m c : Nat} {A : Option Addr} {xs : List α} (hx : L[n]? = some (Row d e (.slice A m c) xs)) : d.C w A xs.length xs ∧ xs.length ≤ c := by
 obtain ⟨_, _, _, h1, _⟩ := (h.bring n hx).sts
 have h2 := Kd.R_reads' h1.1
 exact ⟨h2.2.2, h2.1 ▸ h2.2.1⟩
theorem St.old {w0 w w1 : World} {L : List Thing} (h : St w1 w L) (n : Nat) (hx : L[n]? = some (Old w0)) : w0.heap.size ≤ w.heap.size ∧ ∀ k, k < w0.heap.size → w.heap[k]? = w0.heap[k]? := by
 obtain ⟨_, _, _, h1, _⟩ := (h.bring n hx).sts
 exact h1.2
theorem St.toBelow {w0 w : World} {L : List Thing} (h : St w0 w L) (n : Nat) (hx : L[n]? = some (Old w0)) : Below w0.heap.size w0 w := ⟨h.os, h.tape, h.output, (h.old n hx).1, (h.old n hx).2⟩
theorem St.start (w : World) : St w w [Old w] := ⟨rfl, rfl, rfl, _, ⟨fun k => k < w.heap.size, fun _ => False, ⟨fun _ => Iff.rfl, Nat.le_refl _, fun _ _ => rfl⟩, fun _ h => h, fun _ _ h => h, fun k => ⟨.inl, fun h => h.elim id (fun h => h.elim)⟩⟩⟩
theorem St.ne {w0 w : World} {L : List Thing} {B B' : Nat} {cs cs' : Array Value} {T T' : TypeId} (h : St w0 w (Blk B cs T :: Blk B' cs' T' :: L)) : B ≠ B' := by
 obtain ⟨_, S1, S2, h1, ⟨S3, S4, h5, _, _, h8⟩, h3, _⟩ := h.sts
 intro e
 exact h3 B ((h1.2 B).2 rfl) ((h8 B).2 (.inl ((h5.2 B).2 e)))
/-- The first block is written. -/
theorem St.set0 {w0 w : World} {L : List Thing} {B : Nat} {cs cs' : Array Value} {T : TypeId} (h : St w0 w (Blk B cs T :: L)) (i : Nat) (u : Value) (he : cs.setIfInBounds i u = cs') : St w0 (w.setCell ⟨B, i, none⟩ u) (Blk B cs' T :: L) := by
 subst he
 refine St.step (A := [Blk B cs T]) (A' := [Blk B (cs.setIfInBounds i u) T]) h rfl rfl rfl ?_
 rintro S ⟨S1, S2, h1, h2, h3, h4⟩
 refine ⟨S, ⟨S1, S2, ⟨blk_set h1.1 i u, h1.2⟩, h2, h3, h4⟩, fun k hk => .inl hk, fun k hk hn => Below.heap_setCell w ⟨B, i, none⟩ u k (fun e => hn ((h4 k).2 (.inl ((h1.2 k).2 e))))⟩
theorem St.upd0 {w0 w w' : World} {L : List Thing} {B : Nat} {cs cs' : Array Value} {T : TypeId} (h : St w0 w (Blk B cs T :: L)) (hb : w'.heap[B]? = some (.cells cs' T (0, 0))) (hu : Upd w w' (fun k => k = B)) : St w0 w' (Blk B cs' T :: L) := by
 refine St.step (A := [Blk B cs T]) (A' := [Blk B cs' T]) h hu.os hu.tape hu.output ?_
 rintro S ⟨S1, S2, h1, h2, h3, h4⟩
 exact ⟨S, ⟨S1, S2, ⟨hb, h1.2⟩, h2, h3, h4⟩, fun k hk => .inl hk, fun k hk hn => hu.kept.2 k hk (fun e => hn ((h4 k).2 (.inl ((h1.2 k).2 e))))⟩
theorem eraseIdx_insertIdx {α : Type} : ∀ (L : List α) (n : Nat) (x y : α), L[n]? = some x → (L.eraseIdx n).insertIdx n y = L.set n y
 | [], n, x, y, h => by simp at h
 | a :: L, 0, x, y, h => by simp
 | a :: L, n + 1, x, y, h => by simp only [List.eraseIdx_cons_succ, List.set_cons_succ, List.insertIdx_succ_cons]; rw [eraseIdx_insertIdx L n x y (by simpa using h)]
theorem eraseIdx_len {α : Type} {L : List α} {n : Nat} {x : α} (h : L[n]? = some x) : n ≤ (L.eraseIdx n).length := by
 have := (List.getElem?_eq_some_iff.1 h).1
 rw [List.length_eraseIdx]
 split <;> omega
/-- Block number n is written. -/
theorem St.set {w0 w : World} {L : List Thing} (h : St w0 w L) (n : Nat) {B : Nat} {cs : Array Value} {T : TypeId} (hx : L[n]? = some (Blk B cs T)) (i : Nat) (u : Value) {cs' : Array Value} (he : cs.setIfInBounds i u = cs') : St w0 (w.setCell ⟨B, i, none⟩ u) (L.set n (Blk B cs' T)) := by
 have h1 := ((h.bring n hx).set0 i u he).back n (eraseIdx_len hx)
 rwa [eraseIdx_insertIdx L n _ _ hx] at h1
theorem St.upd {w0 w w' : World} {L : List Thing} (h : St w0 w L) (n : Nat) {B : Nat} {cs : Array Value} {T : TypeId} (hx : L[n]? = some (Blk B cs T)) {cs' : Array Value} (hb : w'.heap[B]? = some (.cells cs' T (0, 0))) (hu : Upd w w' (fun k => k = B)) : St w0 w' (L.set n (Blk B cs' T)) := by
 have h1 := ((h.bring n hx).upd0 hb hu).back n (eraseIdx_len hx)
 rwa [eraseIdx_insertIdx L n _ _ hx] at h1
/-- Something new. -/
theorem St.add {w0 w w' : World} {L : List Thing} (h : St w0 w L) (hb : Below w.heap.size w w') (T : Thing) (hT : ∃ S, T.at_ w' S ∧ ∀ k, S k → w.heap.size ≤ k) : St w0 w' (T :: L) := by
 refine St.step (A := []) (A' := [T]) h hb.os hb.tape hb.output (fun S hS => ?_)
 obtain ⟨S', h1, h2⟩ := hT
 exact ⟨S', ⟨S', fun _ => False, h1, fun _ h => h, fun _ _ h => h, fun k => ⟨.inl, fun h => h.elim id (fun h => h.elim)⟩⟩, fun k hk => .inr (h2 k hk), fun k hk _ => hb.block k hk⟩
theorem St.new {w0 w w' : World} {L : List Thing} (h : St w0 w L) (hb : Below w.heap.size w w') {g : Nat} {cs : Array Value} {T : TypeId} (hg : w.heap.size ≤ g) (hx : w'.heap[g]? = some (.cells cs T (0, 0))) : St w0 w' (Blk g cs T :: L) :=
 h.add hb _ ⟨fun k => k = g, ⟨hx, fun _ => Iff.rfl⟩, fun k hk => hk ▸ hg⟩
theorem St.alloc {w0 w : World} {L : List Thing} (h : St w0 w L) (cs : Array Value) (T : TypeId) : St w0 (w.alloc (.cells cs T)) (Blk w.heap.size cs T :: L) := h.new (below_alloc (Below.refl _ _) _) (Nat.le_refl _) (heap_alloc_new w _)
theorem St.newRow {w0 w w' : World} {L : List Thing} (h : St w0 w L) (hb : Below w.heap.size w w') {α : Type} {d : Kd α} {e : Nat} {ok : Nat → Prop} {v : Value} {xs : List α} (hR : d.R e w' w.heap.size ok v xs) : St w0 w' (Row d e v xs :: L) :=
 h.add hb _ ⟨_, ⟨Kd.R_lower (Kd.R_bound hR) (Nat.zero_le _), fun k hk => hk.2.2.1⟩, fun k hk => hk.2.1⟩
theorem St.nilRow {w0 w : World} {L : List Thing} (h : St w0 w L) {α : Type} (d : Kd α) (e : Nat) : St w0 w (Row d e (.slice none 0 0) [] :: L) := h.newRow (Below.refl _ _) (Kd.R_nil d e w _ (fun _ => True))
theorem St.same {w0 w w' : World} {L : List Thing} (h : St w0 w L) (e : w' = w) : St w0 w' L := e ▸ h
/-- What another contract of one's own (by Upd) did to the first. -/
theorem St.byUpd {w0 w w' : World} {A A' L : List Thing} (h : St w0 w (A ++ L)) {S0 : Nat → Prop} (hu : Upd w w' S0) (f : ∀ S, Sts w A S → (∀ k, S0 k → S k) ∧ ∃ S', Sts w' A' S' ∧ ∀ k, S' k → S k ∨ w.heap.size ≤ k) : St w0 w' (A' ++ L) :=
 h.step hu.os hu.tape hu.output (fun S hS => by
  obtain ⟨h1, S', h2, h3⟩ := f S hS
  exact ⟨S', h2, h3, fun k hk hn => hu.kept.2 k hk (fun h => hn (h1 k h))⟩)
end Go.Proofs.Ytonedijkgddepaa.P
