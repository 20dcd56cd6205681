/- ballot.Set[int], by hand: Has, Add, Len of a set that lies in a block of its own, and the nil set's. No conditions. -/
import Derived.Test.YtjofllllnmfneaaP0
import Derived.Maps.OwnSet
import Derived.Lib.SlKeysI
import Derived.WalkSpells
namespace Go.Proofs.Ytjofllllnmfneaa.P
open Go.RowKit Go.Maps Go.Proofs.YtjofllllnmfneaaW.PrintWords Go.Proofs.YtjofllllnmfneaaW.PrintLast Go.Proofs.YtjofllllnmfneaaW.PrintMore
set_option linter.unusedVariables false
set_option linter.unusedSimpArgs false

theorem lawI : Keyed Try.prog 3 := int_keyed Try.underlying3
theorem zero61 (w : World) : (zeroValue 61).run Try.prog w = .ok (.agg #[]) w := by kernel_rfl
/-- Block B holds a set (its map is mb) of just the numbers u, each once. -/
structure SetAt (w : World) (B : Nat) (mb : Option Nat) (u : List Int) : Prop where
  block : w.heap[B]? = some (.cells #[.map mb] 46 (0, 0))
  empty : mb = none → u = []
  full : ∀ b, mb = some b → ∃ D : DataW Unit, w.ownsMap Try.prog 3 (unitElem (H := Unit)) b u.length D ∧ (∀ k : Int, Maps.has D (.int .i64 k) = true ↔ k ∈ u) ∧ Maps.size D = u.length

theorem SetAt.keep {w w' : World} {B : Nat} {mb : Option Nat} {u : List Int} (h : SetAt w B mb u) (h1 : w'.heap[B]? = w.heap[B]?) (h2 : ∀ b, mb = some b → w'.heap[b]? = w.heap[b]?) : SetAt w' B mb u :=
  ⟨h1.trans h.block, h.empty, fun b hb => by
    obtain ⟨D, ⟨es, clock, h3, h4⟩, h5⟩ := h.full b hb
    exact ⟨D, ⟨es, clock, (h2 b hb).trans h3, h4⟩, h5⟩⟩
theorem SetAt.below {w w' : World} {B : Nat} {mb : Option Nat} {u : List Int} (h : SetAt w B mb u) (hb : Below w.heap.size w w') : SetAt w' B mb u :=
  h.keep (hb.block B (blk_lt h.block)) (fun b e => by obtain ⟨D, h1, _⟩ := h.full b e; exact hb.block b h1.lt)

set_option maxHeartbeats 2000000 in
theorem has_calls (w : World) (B : Nat) (mb : Option Nat) (u : List Int) (x : Int) (h : SetAt w B mb u) (hx : (Lit.int .i64 x).wf = true) :
    Calls Try.prog 25 #[.pointer (some ⟨B, 0, none⟩), .int .i64 x] w fun e w' => e = .returned (.bool (decide (x ∈ u))) ∧ Below w.heap.size w w' := by
  have hc : w.cell? ⟨B, 0, none⟩ = some (.map mb) := (blk_cell h.block 0).trans rfl
  have hkey := keyOf_int_mk (P := Try.prog) Try.underlying3 hx
  cases mb with
  | none =>
    have hu := h.empty rfl
    subst hu
    clear h
    have hrun := Maps.look_nil (w := w) true lawI Try.underlying44 (zero61 _) hkey
    clear hkey
    go_enter Try.func25, Try.ntmps25
    go_wp2
    go_ret
    exact ⟨by simp, (Below.refl _ w).alloc (Nat.le_refl _) _⟩
  | some b =>
    obtain ⟨D, hown, hk, hs⟩ := h.full b rfl
    have hr : Maps.has D (.int .i64 x) = decide (x ∈ u) := by
      have := hk x
      cases hh : Maps.has D (.int .i64 x) <;> rw [hh] at this <;> simp at this <;> simp [this]
    generalize decide (x ∈ u) = r at hr ⊢
    have HO := Aside0.mk hown
    have HK := Aside0.mk hkey
    have HRR := Aside0.mk hr
    clear h hown hk hs hkey hr
    go_enter Try.func25, Try.ntmps25
    go_wp2_with (at_lookup; refine wpList_lookup_own_unit _ rfl _ _ 44 rfl 3 61 lawI Try.underlying44 (zero61 _) b _ D rfl HO.out _ (.int .i64 x) rfl HK.out ?_; rw [HRR.out])
    go_ret
    exact ⟨rfl, (Below.refl _ w).alloc (Nat.le_refl _) _⟩
set_option maxHeartbeats 2000000 in
theorem len_calls (w : World) (B : Nat) (mb : Option Nat) (u : List Int) (h : SetAt w B mb u) :
    Calls Try.prog 27 #[.pointer (some ⟨B, 0, none⟩)] w fun e w' => e = .returned (.int .i64 u.length) ∧ w' = w := by
  have hc : w.cell? ⟨B, 0, none⟩ = some (.map mb) := (blk_cell h.block 0).trans rfl
  cases mb with
  | none =>
    have hu := h.empty rfl
    subst hu
    clear h
    have hrun := Maps.len_nil (P := Try.prog) (w := w) Try.underlying44
    go_enter Try.func27, Try.ntmps27
    go_wp2
    go_ret
    exact ⟨rfl, rfl⟩
  | some b =>
    obtain ⟨D, hown, hk, hs⟩ := h.full b rfl
    have HO := Aside0.mk hown
    have HS := Aside0.mk hs
    clear h hown hk hs
    go_enter Try.func27, Try.ntmps27
    go_wp2_with (at_len; refine wpList_len_own _ rfl _ 44 rfl 3 61 Try.underlying44 _ b _ D rfl HO.out ?_; rw [HS.out])
    go_ret
    exact ⟨rfl, rfl⟩

/-- All blocks but B and the map's stay. -/
structure But (w w' : World) (B : Nat) (mb : Option Nat) : Prop where
  os : w'.os = w.os
  tape : w'.tape = w.tape
  output : w'.output = w.output
  size : w.heap.size ≤ w'.heap.size
  block : ∀ k, k < w.heap.size → k ≠ B → some k ≠ mb → w'.heap[k]? = w.heap[k]?

theorem setCell_size (w : World) (p : Addr) (u : Value) : (w.setCell p u).heap.size = w.heap.size := by simp [World.setCell]
theorem made_at (w : World) (p : Addr) (u : Value) : ((w.setCell p u).alloc (.map #[] 0)).ownsMap Try.prog 3 (unitElem (H := Unit)) w.heap.size 0 (.map []) := by
  have h0 := World.ownsMap_made (w.setCell p u) Try.prog 3 (unitElem (H := Unit))
  rw [setCell_size] at h0
  exact h0
theorem put_full {w : World} {b : Nat} {u : List Int} {D : DataW Unit} {x : Int} (hown : w.ownsMap Try.prog 3 (unitElem (H := Unit)) b (u.length + 1) (D.put (.int .i64 x) (.agg []))) (ht : Tidy D) (hk : ∀ k : Int, Maps.has D (.int .i64 k) = true ↔ k ∈ u) (hs : Maps.size D = u.length) (hx : x ∉ u) :
    ∃ D : DataW Unit, w.ownsMap Try.prog 3 (unitElem (H := Unit)) b (u ++ [x]).length D ∧ (∀ k : Int, Maps.has D (.int .i64 k) = true ↔ k ∈ u ++ [x]) ∧ Maps.size D = (u ++ [x]).length := by
  have hno : Maps.has D (.int .i64 x) = false := by
    cases hh : Maps.has D (.int .i64 x)
    · rfl
    · exact absurd ((hk x).1 hh) hx
  refine ⟨_, by simpa using hown, fun k => ?_, ?_⟩
  · by_cases e : k = x
    · subst e
      rw [has_put_same ht.isMap (by trivial)]
      simp
    · rw [has_put_other (fun h => e (by injection h)), hk k, List.mem_append, List.mem_singleton]
      constructor
      · exact .inl
      · rintro (h | h)
        · exact h
        · exact absurd h e
  · rw [size_put ht, hno, hs]; simp

set_option maxHeartbeats 4000000 in
theorem add_calls (w : World) (B : Nat) (mb : Option Nat) (u : List Int) (x : Int) (h : SetAt w B mb u) (hx : (Lit.int .i64 x).wf = true) (hl : u.length < 1000000) :
    Calls Try.prog 26 #[.pointer (some ⟨B, 0, none⟩), .int .i64 x] w fun e w' => e = .returned (.bool (decide (x ∉ u))) ∧
      ((x ∈ u ∧ Below w.heap.size w w') ∨ (x ∉ u ∧ ∃ mb', SetAt w' B mb' (u ++ [x]) ∧ But w w' B mb ∧ (∀ b, mb' = some b → mb = some b ∨ w.heap.size ≤ b))) := by
  have hc : w.cell? ⟨B, 0, none⟩ = some (.map mb) := (blk_cell h.block 0).trans rfl
  have hf : w.frozen? ⟨B, 0, none⟩ = false := blk_frozen h.block 0
  have hkey := keyOf_int_mk (P := Try.prog) Try.underlying3 hx
  have hH := has_calls w B mb u x h hx
  have hlt : B < w.heap.size := blk_lt h.block
  have hq := fun (W : World) (r : Option Nat) => run_eql_map_nil (P := Try.prog) W 44 3 61 r Try.underlying44
  have hmm := @run_makeMap Try.prog
  by_cases hin : x ∈ u
  · have hd : decide (x ∈ u) = true := decide_eq_true hin
    have hd2 : decide (x ∉ u) = false := decide_eq_false (fun h => h hin)
    rw [hd2]
    rw [hd] at hH
    have HIN := Aside0.mk hin
    have HH := Aside0.mk hH
    clear hin hd hd2 hH h hkey hq hmm
    go_enter Try.func26, Try.ntmps26
    go_wp2_with (go_at_call 25; refine HH.out.mono ?_; rintro e w' ⟨rfl, hb⟩)
    go_ret
    exact ⟨rfl, .inl ⟨HIN.out, hb⟩⟩
  · have hd : decide (x ∈ u) = false := decide_eq_false hin
    have hd2 : decide (x ∉ u) = true := decide_eq_true hin
    rw [hd2]
    rw [hd] at hH
    have HIN := Aside0.mk hin
    have HH := Aside0.mk hH
    have HK := Aside0.mk hkey
    have HSA := Aside0.mk h
    have hll : u.length < maxLen := by unfold maxLen; omega
    clear hin hd hd2 hH h hkey hl
    cases mb with
    | none =>
      have hu := HSA.out.empty rfl
      subst hu
      clear hc hf
      go_enter Try.func26, Try.ntmps26
      go_wp2_with (first
        | (go_at_call 25; refine HH.out.mono ?_; rintro e w1 ⟨rfl, hb⟩
           have h1 := (HSA.out.below hb).block
           have hc : w1.cell? ⟨B, 0, none⟩ = some (.map none) := (blk_cell h1 0).trans rfl
           have hf : w1.frozen? ⟨B, 0, none⟩ = false := blk_frozen h1 0
           have hl1 : B < w1.heap.size := blk_lt h1
           have HB := Aside0.mk hb
           have H1 := Aside0.mk h1
           clear h1 hb)
        | (at_mapUpdate; refine wpList_mapUpdate_own _ rfl _ _ _ 44 rfl 3 61 lawI Try.underlying44 (unitElem (H := Unit)) w1.heap.size 0 (.map []) rfl (made_at w1 _ _) (by decide) _ _ (.int .i64 x) rfl rfl HK.out (.agg []) [] unitElem_mk ?_; intro w2 hown hgrow))
      go_ret
      refine ⟨rfl, .inr ⟨HIN.out, some w1.heap.size, ?_, ?_, ?_⟩⟩
      · refine ⟨(hgrow.block B (by simp [World.setCell]; omega) (fun e => by injection e with e; omega)).trans ((Below.heap_alloc _ _ B (by rw [setCell_size]; omega)).trans (blk_set H1.out 0 _)), fun e => (by cases e), fun b hb => ?_⟩
        cases hb
        exact put_full (u := []) hown tidy_empty (fun k => by simp [Maps.has]) rfl (by simp)
      · refine ⟨?_, ?_, ?_, ?_, fun k hk hkB _ => ?_⟩
        · rw [hgrow.os]; exact HB.out.os
        · rw [hgrow.tape]; exact HB.out.tape
        · rw [hgrow.output]; exact HB.out.output
        · exact Nat.le_trans HB.out.size (Nat.le_trans (by simp [World.setCell]) hgrow.size)
        · have hk1 := HB.out.size
          refine (hgrow.block k (by simp [World.setCell]; omega) (fun e => by injection e with e; omega)).trans ((Below.heap_alloc _ _ k (by rw [setCell_size]; omega)).trans ((Below.heap_setCell _ _ _ k hkB).trans (HB.out.block k hk)))
      · intro b hb
        cases hb
        exact .inr HB.out.size
    | some b =>
      obtain ⟨D, hown, hkk, hs⟩ := HSA.out.full b rfl
      have HO := Aside0.mk hown
      have HKK := Aside0.mk hkk
      have HS := Aside0.mk hs
      have HT := Aside0.mk (hown.tidy lawI)
      have HL := Aside0.mk hll
      clear hc hf hown hkk hs hll
      go_enter Try.func26, Try.ntmps26
      go_wp2_with (first
        | (go_at_call 25; refine HH.out.mono ?_; rintro e w1 ⟨rfl, hb⟩
           have h1 := (HSA.out.below hb).block
           have hc : w1.cell? ⟨B, 0, none⟩ = some (.map (some b)) := (blk_cell h1 0).trans rfl
           have HB := Aside0.mk hb
           have H1 := Aside0.mk h1
           have HO1 := Aside0.mk (show w1.ownsMap Try.prog 3 (unitElem (H := Unit)) b u.length D by
             obtain ⟨es, clock, h3, h4⟩ := HO.out
             exact ⟨es, clock, (hb.block b HO.out.lt).trans h3, h4⟩)
           clear h1 hb)
        | (at_mapUpdate; refine wpList_mapUpdate_own _ rfl _ _ _ 44 rfl 3 61 lawI Try.underlying44 (unitElem (H := Unit)) b u.length D rfl HO1.out HL.out _ _ (.int .i64 x) rfl rfl HK.out (.agg []) [] unitElem_mk ?_; intro w2 hown2 hgrow))
      go_ret
      have hbl := HO.out.lt
      have hne : B ≠ b := by
        intro e
        obtain ⟨es, clock, h3, _⟩ := HO.out
        have h4 := HSA.out.block
        rw [e, h3] at h4
        cases h4
      refine ⟨rfl, .inr ⟨HIN.out, some b, ?_, ?_, fun b' hb' => .inl hb'⟩⟩
      · refine ⟨(hgrow.block B (Nat.lt_of_lt_of_le hlt HB.out.size) (fun e => by injection e with e; exact hne e)).trans H1.out, fun e => (by cases e), fun b' hb' => ?_⟩
        cases hb'
        exact put_full hown2 HT.out HKK.out HS.out HIN.out
      · refine ⟨?_, ?_, ?_, ?_, fun k hk hkB hkb => ?_⟩
        · rw [hgrow.os]; exact HB.out.os
        · rw [hgrow.tape]; exact HB.out.tape
        · rw [hgrow.output]; exact HB.out.output
        · exact Nat.le_trans HB.out.size hgrow.size
        · exact (hgrow.block k (Nat.lt_of_lt_of_le hk HB.out.size) hkb).trans (HB.out.block k hk)
end Go.Proofs.Ytjofllllnmfneaa.P
