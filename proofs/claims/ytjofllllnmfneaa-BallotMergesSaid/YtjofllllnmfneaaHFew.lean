/- The law's own look at votes: at most 40, of each value at most 100 bytes; two rows handed on in one row; what is read as a string. No conditions. -/
import Derived.Test.YtjofllllnmfneaaHVotesA
import Derived.Test.YtjofllllnmfneaaGMerge
import Derived.Test.YtjofllllnmfneaaPArith09
import Derived.Test.YtjofllllnmfneaaP14
namespace Go.Proofs.Ytjofllllnmfneaa.P
open Go.RowKit Go.Proofs.YtjofllllnmfneaaW.PrintWords Go.Proofs.YtjofllllnmfneaaW.PrintLast Go.Proofs.YtjofllllnmfneaaW.PrintMore
set_option linter.unusedVariables false
set_option linter.unusedSimpArgs false

def cutV (x : S30) : S30 := ⟨x.f0, x.f1, x.f2.take 100⟩
def fewV (l : List S30) : List S30 := (l.take 40).map cutV
theorem take_mn (l : List Int) : l.take ((mn (l.length : Int) 100)).toNat = l.take 100 := by
  unfold mn
  split
  · rfl
  · rw [Int.toNat_natCast, List.take_length, List.take_of_length_le (by omega)]
theorem few_loop (l : List S30) (d : Nat) : ∀ (i : Nat) (acc : List S30), i + d = min l.length 40 → acc = (l.take i).map cutV → Ev (fun k => racewaylaw09_few.l0 k l acc (i : Int)) (fewV l) := by
  induction d with
  | zero =>
    intro i acc hi ha
    have e : acc = fewV l := by
      rw [ha]; unfold fewV
      rcases Nat.le_total l.length 40 with h | h
      · rw [List.take_of_length_le (by omega), List.take_of_length_le h]
      · rw [show i = 40 by omega]
    rw [← e]
    refine Ev.step (f := fun _ => some acc) (fun k => ?_) (Ev.now _)
    simp only [racewaylaw09_few.l0]
    by_cases h : (i : Int) < (l.length : Int)
    · rw [if_pos h, if_neg (by omega)]
    · rw [if_neg h]
  | succ d ih =>
    intro i acc hi ha
    have hlt : i < l.length := by omega
    have hal : acc.length ≤ 40 := by rw [ha, List.length_map, List.length_take]; omega
    have h2 := ih (i + 1) (acc ++ [cutV (l.getD i z30)]) (by omega) (by rw [ha, take_snoc l i z30 hlt, List.map_append]; rfl)
    refine Ev.step (fun k => ?_) h2
    simp only [racewaylaw09_few.l0]
    have hm : 0 ≤ mn ((rd_T30 l (i : Int)).f2.length : Int) 100 ∧ mn ((rd_T30 l (i : Int)).f2.length : Int) 100 ≤ ((rd_T30 l (i : Int)).f2.length : Int) := by unfold mn; split <;> omega
    rw [if_pos (by omega), if_pos (by omega), if_pos (by omega)]
    simp only [Option.bind_some]
    rw [if_pos hm.1, if_pos hm.2, take_mn, if_pos (by rw [List.length_take, List.length_nil]; omega), if_pos (by omega), w64 (by omega) (by omega), rdT_getD]
    rfl
theorem few_ev (l : List S30) : Ev (fun k => racewaylaw09_few.f k l) (fewV l) := few_loop l (min l.length 40) 0 [] (by omega) rfl
theorem fewC (A : Option Addr) (c : Nat) (l : List S30) (w : World) (hr : Kd.C k30 w A l.length l) (hc : l.length ≤ c) :
    Calls Try.prog 10 #[.slice A l.length c] w fun e w' => ∃ (A' : Option Addr) (c' : Nat), e = .returned (.slice A' (fewV l).length c') ∧ (fewV l).length ≤ c' ∧ Kd.C k30 w' A' (fewV l).length (fewV l) ∧ Below w.heap.size w w' := by
  obtain ⟨k, hk⟩ := Ev.rounds (few_ev l)
  refine (racewaylaw09_few.calls k A c l (fewV l) w hr hc hk).mono ?_
  rintro e w' ⟨v, rfl, hS, hb⟩
  obtain ⟨A', c', rfl, h1, h2⟩ := Kd.R_reads (Kd.S_R hS)
  exact ⟨A', c', rfl, h1, h2, hb⟩
theorem fewV_len (l : List S30) : (fewV l).length ≤ 40 := by unfold fewV; rw [List.length_map, List.length_take]; omega
theorem fewV_wf {l : List S30} (h : ∀ x ∈ l, (Lit.int .i64 x.f0).wf = true) : ∀ x ∈ fewV l, (Lit.int .i64 x.f0).wf = true := by
  intro x hx
  obtain ⟨y, hy, rfl⟩ := List.mem_map.1 hx
  exact h y (List.mem_of_mem_take hy)
theorem fewV_short (l : List S30) : ∀ x ∈ fewV l, x.f2.length ≤ 100 := by
  intro x hx
  obtain ⟨y, hy, rfl⟩ := List.mem_map.1 hx
  show (y.f2.take 100).length ≤ 100
  rw [List.length_take]; omega
theorem merge_f {ls : List (List S30)} (hn : ls.flatten.length ≤ 1000000000) (hw : ∀ x ∈ ls.flatten, (Lit.int .i64 x.f0).wf = true) (hs : ∀ x ∈ ls.flatten, x.f2.length ≤ 1000000) : ballot_Merge.f ls = some (mergeV ls.flatten) := by
  unfold ballot_Merge.f
  rw [if_pos hn, if_pos]
  rw [List.all_eq_true]
  intro x hx
  rw [hw x hx, decide_eq_true (hs x hx)]
  rfl
/-- Two rows in one row. -/
theorem two_row {w : World} {A1 A2 : Option Addr} {c1 c2 : Nat} {L1 L2 : List S30} (h1 : Kd.C k30 w A1 L1.length L1) (hc1 : L1.length ≤ c1) (h2 : Kd.C k30 w A2 L2.length L2) (hc2 : L2.length ≤ c2) :
    Kd.C (Kd.slice 30 k30) (w.alloc (.cells #[.slice A1 L1.length c1, .slice A2 L2.length c2] 22)) (some ⟨w.heap.size, 0, none⟩) [L1, L2].length [L1, L2] := by
  refine ⟨rfl, by simp, fun _ => ⟨_, rfl, fun j p hj => ?_⟩⟩
  have hb : ∀ i, (w.alloc (.cells #[.slice A1 L1.length c1, .slice A2 L2.length c2] 22)).cell? ⟨w.heap.size, i, none⟩ = (#[Value.slice A1 L1.length c1, Value.slice A2 L2.length c2])[i]? := fun i => blk_cell (heap_alloc_new w _) i
  match j, hj with
  | 0, hj =>
    cases hj
    refine ⟨[.slice A1 L1.length c1], rfl, ⟨A1, c1, rfl, hc1, Kd.C_alloc h1 _⟩, fun i u hi => ?_⟩
    match i, hi with
    | 0, hi => cases hi; exact hb 0
    | i + 1, hi => simp at hi
  | 1, hj =>
    cases hj
    refine ⟨[.slice A2 L2.length c2], rfl, ⟨A2, c2, rfl, hc2, Kd.C_alloc h2 _⟩, fun i u hi => ?_⟩
    match i, hi with
    | 0, hi => cases hi; exact hb 1
    | i + 1, hi => simp at hi
  | j + 2, hj => simp at hj
theorem merge2C {w : World} {A1 A2 : Option Addr} {c1 c2 : Nat} {L1 L2 : List S30} (r : List S30) (h1 : Kd.C k30 w A1 L1.length L1) (hc1 : L1.length ≤ c1) (h2 : Kd.C k30 w A2 L2.length L2) (hc2 : L2.length ≤ c2) (h : ballot_Merge.f [L1, L2] = some r) :
    Calls Try.prog 11 #[.slice (some ⟨w.heap.size, 0, none⟩) 2 2] (w.alloc (.cells #[.slice A1 L1.length c1, .slice A2 L2.length c2] 22)) fun e w' => ∃ (A' : Option Addr) (c' : Nat), e = .returned (.slice A' r.length c') ∧ r.length ≤ c' ∧ Kd.C k30 w' A' r.length r ∧ Below w.heap.size w w' := by
  refine (ballot_Merge.calls _ 2 [L1, L2] r _ (two_row h1 hc1 h2 hc2) (Nat.le_refl 2) h).mono ?_
  rintro e w' ⟨v, rfl, hS, hb⟩
  obtain ⟨A', c', rfl, h3, h4⟩ := Kd.R_reads (Kd.S_R hS)
  exact ⟨A', c', rfl, h3, h4, ((Below.refl _ w).alloc (Nat.le_refl _) _).trans (hb.mono (by simp))⟩
theorem made_N (w : World) : Kd.N k30 30 (w.alloc (.cells #[] 30)) w.heap.size (fun _ => True) (.slice (some ⟨w.heap.size, 0, none⟩) 0 0) [] :=
  Kd.R_N ⟨fun _ _ => trivial, [], ⟨by simp, .inr ⟨w.heap.size, 0, #[], rfl, Nat.le_refl _, heap_alloc_new w _, Nat.le_refl _, Nat.zero_le _, by simp, by simp⟩⟩, ⟨by simp, fun j p hj => by simp at hj⟩⟩
end Go.Proofs.Ytjofllllnmfneaa.P
