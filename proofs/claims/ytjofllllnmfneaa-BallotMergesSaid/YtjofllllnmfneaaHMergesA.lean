/- What the law BallotMerges calls, on rows of one and of three lists; a world of which some bytes were written. No conditions. -/
import Derived.Test.YtjofllllnmfneaaHRef
namespace Go.Proofs.Ytjofllllnmfneaa.P
open Go.RowKit Go.Proofs.YtjofllllnmfneaaW.PrintWords Go.Proofs.YtjofllllnmfneaaW.PrintLast Go.Proofs.YtjofllllnmfneaaW.PrintMore
set_option linter.unusedVariables false
set_option linter.unusedSimpArgs false

theorem samev_loop (a : List S30) (h : a.length < 1000000) (d : Nat) : ∀ i : Nat, i + d = a.length → Ev (fun k => racewayref09_SameVotes.l0 k a a (i : Int)) true := by
  induction d with
  | zero =>
    intro i hi
    refine Ev.step (f := fun _ => some true) (fun k => ?_) (Ev.now _)
    simp only [racewayref09_SameVotes.l0]
    rw [if_neg (by omega)]
  | succ d ih =>
    intro i hi
    refine Ev.step (fun k => ?_) (ih (i + 1) (by omega))
    simp only [racewayref09_SameVotes.l0]
    rw [if_pos (by omega), if_pos (by omega), if_pos (by omega)]
    simp only [if_true]
    rw [w64 (by omega) (by omega)]
    rfl
theorem samev_ev (a : List S30) (h : a.length < 1000000) : Ev (fun k => racewayref09_SameVotes.f k a a) true := by
  refine Ev.congr (fun k => ?_) (samev_loop a h a.length 0 (by omega))
  unfold racewayref09_SameVotes.f
  rw [if_pos rfl]
  rfl
theorem sameC (A0 A1 : Option Addr) (c0 c1 : Nat) (l : List S30) (w : World) (hr0 : Kd.C k30 w A0 l.length l) (hc0 : l.length ≤ c0) (hr1 : Kd.C k30 w A1 l.length l) (hc1 : l.length ≤ c1) (h : l.length < 1000000) :
    Calls Try.prog 12 #[.slice A0 l.length c0, .slice A1 l.length c1] w fun e w' => e = .returned (.bool true) ∧ Below w.heap.size w w' := by
  obtain ⟨k, hk⟩ := Ev.rounds (samev_ev l h)
  refine (racewayref09_SameVotes.calls k A0 c0 l A1 c1 l true w hr0 hc0 hr1 hc1 hk).mono ?_
  rintro e w' ⟨rfl, hd⟩
  exact ⟨rfl, hd.below⟩
theorem one_row {w : World} {A1 : Option Addr} {c1 : Nat} {L1 : List S30} (h1 : Kd.C k30 w A1 L1.length L1) (hc1 : L1.length ≤ c1) :
    Kd.C (Kd.slice 30 k30) (w.alloc (.cells #[.slice A1 L1.length c1] 22)) (some ⟨w.heap.size, 0, none⟩) [L1].length [L1] := by
  refine ⟨rfl, by simp, fun _ => ⟨_, rfl, fun j p hj => ?_⟩⟩
  have hb : ∀ i, (w.alloc (.cells #[.slice A1 L1.length c1] 22)).cell? ⟨w.heap.size, i, none⟩ = (#[Value.slice A1 L1.length c1])[i]? := fun i => blk_cell (heap_alloc_new w _) i
  match j, hj with
  | 0, hj =>
    cases hj
    refine ⟨[.slice A1 L1.length c1], rfl, ⟨A1, c1, rfl, hc1, Kd.C_alloc h1 _⟩, fun i u hi => ?_⟩
    match i, hi with
    | 0, hi => cases hi; exact hb 0
    | i + 1, hi => simp at hi
  | j + 1, hj => simp at hj
theorem three_row {w : World} {A1 A2 A3 : Option Addr} {c1 c2 c3 : Nat} {L1 L2 L3 : List S30} (h1 : Kd.C k30 w A1 L1.length L1) (hc1 : L1.length ≤ c1) (h2 : Kd.C k30 w A2 L2.length L2) (hc2 : L2.length ≤ c2) (h3 : Kd.C k30 w A3 L3.length L3) (hc3 : L3.length ≤ c3) :
    Kd.C (Kd.slice 30 k30) (w.alloc (.cells #[.slice A1 L1.length c1, .slice A2 L2.length c2, .slice A3 L3.length c3] 22)) (some ⟨w.heap.size, 0, none⟩) [L1, L2, L3].length [L1, L2, L3] := by
  refine ⟨rfl, by simp, fun _ => ⟨_, rfl, fun j p hj => ?_⟩⟩
  have hb : ∀ i, (w.alloc (.cells #[.slice A1 L1.length c1, .slice A2 L2.length c2, .slice A3 L3.length c3] 22)).cell? ⟨w.heap.size, i, none⟩ = (#[Value.slice A1 L1.length c1, Value.slice A2 L2.length c2, Value.slice A3 L3.length c3])[i]? := fun i => blk_cell (heap_alloc_new w _) i
  match j, hj with
  | 0, hj =>
    cases hj
    refine ⟨[.slice A1 L1.length c1], rfl, ⟨A1, c1, rfl, hc1, Kd.C_alloc h1 _⟩, fun i u hi => ?_⟩
    match i, hi with
    | 0, hi => cases hi; exact hb 0
    | i + 1, hi => simp at hi
  | 1, hj =>
    cases hj
    refine ⟨[.slice A2 L2.length c2], rfl, ⟨A2, c2, rfl, hc2, Kd.C_alloc h2 _⟩, fun i u hi => ?_⟩
    match i, hi with
    | 0, hi => cases hi; exact hb 1
    | i + 1, hi => simp at hi
  | 2, hj =>
    cases hj
    refine ⟨[.slice A3 L3.length c3], rfl, ⟨A3, c3, rfl, hc3, Kd.C_alloc h3 _⟩, fun i u hi => ?_⟩
    match i, hi with
    | 0, hi => cases hi; exact hb 2
    | i + 1, hi => simp at hi
  | j + 3, hj => simp at hj
theorem box_below (w : World) (o : Obj) {w' : World} (hb : Below (w.alloc o).heap.size (w.alloc o) w') : Below w.heap.size w w' := ((Below.refl _ w).alloc (Nat.le_refl _) _).trans (hb.mono (by simp))
/-- The result that is written later: its rows are its own. -/
theorem merge3C {w : World} {A1 A2 A3 : Option Addr} {c1 c2 c3 : Nat} {L1 L2 L3 : List S30} (r : List S30) (h1 : Kd.C k30 w A1 L1.length L1) (hc1 : L1.length ≤ c1) (h2 : Kd.C k30 w A2 L2.length L2) (hc2 : L2.length ≤ c2) (h3 : Kd.C k30 w A3 L3.length L3) (hc3 : L3.length ≤ c3) (h : ballot_Merge.f [L1, L2, L3] = some r) :
    Calls Try.prog 11 #[.slice (some ⟨w.heap.size, 0, none⟩) 3 3] (w.alloc (.cells #[.slice A1 L1.length c1, .slice A2 L2.length c2, .slice A3 L3.length c3] 22)) fun e w' => ∃ (A' : Option Addr) (c' : Nat), e = .returned (.slice A' r.length c') ∧ r.length ≤ c' ∧ Kd.C k30 w' A' r.length r ∧ Kd.R k30 30 w' w.heap.size (fun _ => True) (.slice A' r.length c') r ∧ Below w.heap.size w w' := by
  refine (ballot_Merge.calls _ 3 [L1, L2, L3] r _ (three_row h1 hc1 h2 hc2 h3 hc3) (Nat.le_refl 3) h).mono ?_
  rintro e w' ⟨v, rfl, hS, hb⟩
  obtain ⟨A', c', rfl, h3, h4⟩ := Kd.R_reads (Kd.S_R hS)
  exact ⟨A', c', rfl, h3, h4, Kd.R_lower (Kd.S_R hS) (by simp), box_below _ _ hb⟩
theorem merge1C {w : World} {A1 : Option Addr} {c1 : Nat} {L1 : List S30} (r : List S30) (h1 : Kd.C k30 w A1 L1.length L1) (hc1 : L1.length ≤ c1) (h : ballot_Merge.f [L1] = some r) :
    Calls Try.prog 11 #[.slice (some ⟨w.heap.size, 0, none⟩) 1 1] (w.alloc (.cells #[.slice A1 L1.length c1] 22)) fun e w' => ∃ (A' : Option Addr) (c' : Nat), e = .returned (.slice A' r.length c') ∧ r.length ≤ c' ∧ Kd.C k30 w' A' r.length r ∧ Below w.heap.size w w' := by
  refine (ballot_Merge.calls _ 1 [L1] r _ (one_row h1 hc1) (Nat.le_refl 1) h).mono ?_
  rintro e w' ⟨v, rfl, hS, hb⟩
  obtain ⟨A', c', rfl, h3, h4⟩ := Kd.R_reads (Kd.S_R hS)
  exact ⟨A', c', rfl, h3, h4, box_below _ _ hb⟩
theorem merge0C (w : World) : Calls Try.prog 11 #[.slice none 0 0] w fun e w' => ∃ (A' : Option Addr) (c' : Nat), e = .returned (.slice A' 0 c') ∧ Below w.heap.size w w' := by
  refine (ballot_Merge.calls none 0 [] [] w (Kd.C_nil _ _) (Nat.le_refl 0) (by rw [merge_f (by simp) (by simp) (by simp)]; rfl)).mono ?_
  rintro e w' ⟨v, rfl, hS, hb⟩
  obtain ⟨A', c', rfl, h3, h4⟩ := Kd.R_reads (Kd.S_R hS)
  exact ⟨A', c', rfl, hb⟩
theorem rmerge3C {w : World} {A1 A2 A3 : Option Addr} {c1 c2 c3 : Nat} {L1 L2 L3 : List S30} (r : List S30) (h1 : Kd.C k30 w A1 L1.length L1) (hc1 : L1.length ≤ c1) (h2 : Kd.C k30 w A2 L2.length L2) (hc2 : L2.length ≤ c2) (h3 : Kd.C k30 w A3 L3.length L3) (hc3 : L3.length ≤ c3) (hl : [L1, L2, L3].flatten.length ≤ 100000) (h : mergeV [L1, L2, L3].flatten = r) :
    Calls Try.prog 13 #[.slice (some ⟨w.heap.size, 0, none⟩) 3 3] (w.alloc (.cells #[.slice A1 L1.length c1, .slice A2 L2.length c2, .slice A3 L3.length c3] 22)) fun e w' => ∃ (A' : Option Addr) (c' : Nat), e = .returned (.slice A' r.length c') ∧ r.length ≤ c' ∧ Kd.C k30 w' A' r.length r ∧ Below w.heap.size w w' := by
  subst h
  refine (rmergeC _ 3 [L1, L2, L3] _ (three_row h1 hc1 h2 hc2 h3 hc3) hl).mono ?_
  rintro e w' ⟨A', c', rfl, h3, h4, hb⟩
  exact ⟨A', c', rfl, h3, h4, box_below _ _ hb⟩
theorem rmerge1C {w : World} {A1 : Option Addr} {c1 : Nat} {L1 : List S30} (r : List S30) (h1 : Kd.C k30 w A1 L1.length L1) (hc1 : L1.length ≤ c1) (hl : [L1].flatten.length ≤ 100000) (h : mergeV [L1].flatten = r) :
    Calls Try.prog 13 #[.slice (some ⟨w.heap.size, 0, none⟩) 1 1] (w.alloc (.cells #[.slice A1 L1.length c1] 22)) fun e w' => ∃ (A' : Option Addr) (c' : Nat), e = .returned (.slice A' r.length c') ∧ r.length ≤ c' ∧ Kd.C k30 w' A' r.length r ∧ Below w.heap.size w w' := by
  subst h
  refine (rmergeC _ 1 [L1] _ (one_row h1 hc1) hl).mono ?_
  rintro e w' ⟨A', c', rfl, h3, h4, hb⟩
  exact ⟨A', c', rfl, h3, h4, box_below _ _ hb⟩
theorem few_twice (l : List S30) : fewV (fewV l) = fewV l := by
  unfold fewV
  rw [← List.map_take, List.take_take, Nat.min_self, List.map_map]
  congr 1
  funext x
  show cutV (cutV x) = cutV x
  unfold cutV
  rw [List.take_take, Nat.min_self]
/-- few, with where its rows lie. -/
theorem fewR (A : Option Addr) (c : Nat) (l : List S30) (w : World) (hr : Kd.C k30 w A l.length l) (hc : l.length ≤ c) (he : fewV l = l) :
    Calls Try.prog 10 #[.slice A l.length c] w fun e w' => ∃ (A' : Option Addr) (c' : Nat), e = .returned (.slice A' l.length c') ∧ l.length ≤ c' ∧ Kd.R k30 30 w' w.heap.size (fun _ => True) (.slice A' l.length c') l ∧ Below w.heap.size w w' := by
  obtain ⟨k, hk⟩ := Ev.rounds (few_ev l)
  rw [he] at hk
  refine (racewaylaw09_few.calls k A c l l w hr hc hk).mono ?_
  rintro e w' ⟨v, rfl, hS, hb⟩
  obtain ⟨A', c', rfl, h1, h2⟩ := Kd.R_reads (Kd.S_R hS)
  exact ⟨A', c', rfl, h1, Kd.S_R hS, hb⟩

/-! writing bytes -/
/-- From w to w' only bytes were written, in blocks from b0 on and below b1. -/
structure Wrote (b0 b1 : Nat) (w w' : World) : Prop where
  os : w'.os = w.os
  tape : w'.tape = w.tape
  output : w'.output = w.output
  size : w'.heap.size = w.heap.size
  block : ∀ k, (k < b0 ∨ b1 ≤ k) → w'.heap[k]? = w.heap[k]?
  cell : ∀ p v, w.cell? p = some v → w'.cell? p = some v ∨ ((∃ y, v = .int .u8 y) ∧ ∃ y, w'.cell? p = some (.int .u8 y))
  frozen : ∀ p, w.frozen? p = false → w'.frozen? p = false
theorem setCell_size' (w : World) (p : Addr) (u : Value) : (w.setCell p u).heap.size = w.heap.size := by simp [World.setCell]
theorem Wrote.refl (b0 b1 : Nat) (w : World) : Wrote b0 b1 w w := ⟨rfl, rfl, rfl, rfl, fun _ _ => rfl, fun _ _ h => .inl h, fun _ h => h⟩
theorem Wrote.set {b0 b1 : Nat} {w w' : World} (h : Wrote b0 b1 w w') {p : Addr} {y y1 : Int} (hp : w.cell? p = some (.int .u8 y)) (hp1 : w'.cell? p = some (.int .u8 y1)) (h0 : b0 ≤ p.block) (h1 : p.block < b1) (z : Int) : Wrote b0 b1 w (w'.setCell p (.int .u8 z)) := by
  refine ⟨h.os, h.tape, h.output, (by rw [setCell_size']; exact h.size), fun k hk => ?_, fun q v hv => ?_, fun q hq => ?_⟩
  · exact (Below.heap_setCell w' p _ k (by omega)).trans (h.block k hk)
  · by_cases e : p = q
    · subst e
      refine .inr ⟨⟨y, by rw [hp] at hv; injection hv with hv; exact hv.symm⟩, z, World.cell?_setCell_same _ _ _ hp1⟩
    · rw [World.cell?_setCell_other _ _ _ _ e]
      exact h.cell q v hv
  · rw [World.frozen?_setCell]; exact h.frozen q hq
theorem elem_shape {w : World} {b0 b1 c : Nat} {A : Option Addr} {l : List S30} (h : Kd.R k30 30 w b0 (fun k => k < b1) (.slice A l.length c) l) {i : Nat} (hi : i < l.length) :
    ∃ ad A2 c2, A = some ad ∧ w.cell? ⟨(ad.add (i * 3)).block, (ad.add (i * 3)).off + 2, none⟩ = some (.slice A2 (l.getD i z30).f2.length c2) ∧ (Kd.int .u8).R 5 w b0 (fun k => k < b1) (.slice A2 (l.getD i z30).f2.length c2) (l.getD i z30).f2 := by
  cases A with
  | none =>
    obtain ⟨ad, e, _⟩ := (Kd.R_reads' h).2.2.2.2 (by omega)
    cases e
  | some ad =>
    obtain ⟨cs, _, hM, hc⟩ := Kd.R_getA h z30 (i : Int) (by omega) (by omega)
    simp only [Int.toNat_natCast] at hM hc
    obtain ⟨v2, rfl, hR⟩ := k30_openM hM
    obtain ⟨A2, c2, rfl⟩ := Kd.R_slice hR
    refine ⟨ad, A2, c2, rfl, ?_, Kd.R_mono hR (fun _ hk => hk.1)⟩
    rw [← add_field _ _ 2 (by omega)]
    exact hc 2 _ rfl
theorem byte_at {w : World} {b0 b1 c : Nat} {A : Option Addr} {xs : List Int} (h : (Kd.int .u8).R 5 w b0 (fun k => k < b1) (.slice A xs.length c) xs) {k : Nat} (hk : k < xs.length) :
    ∃ g y, A = some ⟨g, 0, none⟩ ∧ b0 ≤ g ∧ g < b1 ∧ w.cell? ⟨g, k, none⟩ = some (.int .u8 y) ∧ w.frozen? ⟨g, k, none⟩ = false := by
  obtain ⟨g, cap, e, hb, _, _⟩ := Kd.R_form h (by omega)
  injection e with e1 _ e2
  subst e1
  subst e2
  have h1 := Kd.R_cell (0 : Int) h (k : Int) (by omega) (by omega)
  simp only [Int.toNat_natCast] at h1
  exact ⟨g, _, rfl, hb, h.1 g rfl, h1.1, h1.2⟩
end Go.Proofs.Ytjofllllnmfneaa.P
