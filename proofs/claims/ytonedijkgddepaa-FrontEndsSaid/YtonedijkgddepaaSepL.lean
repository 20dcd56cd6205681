/- Rows of whole numbers: sorted and compacted; indices at an address that came in. No conditions. -/
import Derived.Shelf.SortM.Plain
import Derived.Shelf.SortM.SortNone
import Derived.Shelf.SlicesG.CompactI
import Derived.Lib.SlicesCompact
import Derived.Test.YtonedijkgddepaaSepB
import Derived.Test.YtonedijkgddepaaGLayB
namespace Go.Proofs.Ytonedijkgddepaa.P
open Go.RowKit Go.Maps Go.Proofs.YtonedijkgddepaaW.PrintWords Go.Proofs.YtonedijkgddepaaW.PrintLast Go.Proofs.YtonedijkgddepaaW.PrintMore
set_option linter.unusedVariables false
set_option linter.unusedSimpArgs false

theorem getD_arr {α : Type} [Inhabited α] (l : Array α) (i : Nat) (h : i < l.size) : l[i]! = l[i] := getElem!_pos l i h
theorem int_open {w : World} {base g n cap : Nat} {ok : Nat → Prop} {xs : List Int} (h : (Kd.int .i64).R 3 w base ok (.slice (some ⟨g, 0, none⟩) n cap) xs) :
  ∃ cur, ok g ∧ base ≤ g ∧ w.heap[g]? = some (.cells cur 3 (0, 0)) ∧ n = xs.length ∧ n ≤ cap ∧ cap ≤ maxLen ∧ cur.size = cap ∧ cur.toList.take n = xs.map (Value.int .i64) := by
 obtain ⟨h0, inner, ⟨hl, h2⟩, hr⟩ := h
 rcases h2 with ⟨h2, _⟩ | ⟨g', cap', cur, h2, hb0, hb, hn, hcm, hs, ht⟩
 ·injection h2 with h2; cases h2
 ·injection h2 with h2 h3 h4
  injection h2 with h2
  injection h2 with h2
  subst h2 h4 h3
  refine ⟨cur, h0 g rfl, hb0, hb, rfl, hn, hcm, by rw [hs]; exact Nat.mul_one _, ?_⟩
  have ht' : cur.toList.take xs.length = inner := by
   have h1 : xs.length * (Kd.int .i64).sz = xs.length := Nat.mul_one _
   rw [h1] at ht
   exact ht
  rw [ht']
  have hl' : inner.length = xs.length := hl.trans (Nat.mul_one _)
  refine List.ext_getElem? fun j => ?_
  rcases Nat.lt_or_ge j xs.length with hj | hj
  ·have h5 : (inner.drop (j * 1)).take 1 = [Value.int .i64 xs[j]] := hr.2 j xs[j] (List.getElem?_eq_getElem hj)
   rw [Nat.mul_one] at h5
   have h6 : ((inner.drop j).take 1)[0]? = some (Value.int .i64 xs[j]) := by rw [h5]; rfl
   rw [List.getElem?_take_of_lt (by decide), List.getElem?_drop, Nat.add_zero] at h6
   rw [h6, List.getElem?_map, List.getElem?_eq_getElem hj]
   rfl
  ·rw [List.getElem?_eq_none (by omega), List.getElem?_eq_none (by simpa using hj)]
theorem int_make {w : World} {base g n cap : Nat} {ok : Nat → Prop} {xs : List Int} {cur : Array Value} (h0 : ok g) (hb0 : base ≤ g) (hb : w.heap[g]? = some (.cells cur 3 (0, 0))) (hn : n = xs.length) (hc : n ≤ cap) (hm : cap ≤ maxLen) (hs : cur.size = cap) (ht : cur.toList.take n = xs.map (Value.int .i64)) :
  (Kd.int .i64).R 3 w base ok (.slice (some ⟨g, 0, none⟩) n cap) xs := by
 subst hn
 refine ⟨fun k hk => ?_, xs.map (Value.int .i64), ⟨by simp; exact (Nat.mul_one _).symm, .inr ⟨g, cap, cur, rfl, hb0, hb, hc, hm, by rw [hs]; exact (Nat.mul_one _).symm, by rw [← ht]; congr 1; exact Nat.mul_one _⟩⟩, by simp; exact (Nat.mul_one _).symm, fun j x hj => ?_⟩
 ·have : g = k := by simpa [Value.ownBlock] using hk
  exact this ▸ h0
 ·show ((xs.map (Value.int .i64)).drop (j * 1)).take 1 = [Value.int .i64 x]
  rw [Nat.mul_one]
  have hj2 : j < xs.length := by
   rcases Nat.lt_or_ge j xs.length with h | h
   ·exact h
   ·rw [List.getElem?_eq_none h] at hj; cases hj
  rw [List.drop_eq_getElem_cons (by simpa using hj2), List.take_succ_cons, List.take_zero, List.getElem_map]
  rw [List.getElem?_eq_getElem hj2] at hj
  injection hj with hj
  rw [hj]
theorem heap_put (w : World) (q g : Nat) (ys : Array Int) (os : Array Obj) (i : Nat) (hi : i < w.heap.size) : (Sort.grow (Sort.putRow (Value.int .i64) (Sort.ahead w q) g 0 ys) os).heap[i]? = if g = i then (w.heap[i]?).map (Sort.onCells (Sort.putCells (Value.int .i64) 0 ys)) else w.heap[i]? := by
 unfold Sort.grow
 show (_ ++ os)[i]? = _
 rw [Array.getElem?_append_left (by simpa [Sort.putRow, Sort.mapBlock, Sort.ahead] using hi)]
 unfold Sort.putRow Sort.mapBlock
 rw [Array.getElem?_modify]
 rfl
theorem size_put_ (w : World) (q g : Nat) (ys : Array Int) (os : Array Obj) : w.heap.size ≤ (Sort.grow (Sort.putRow (Value.int .i64) (Sort.ahead w q) g 0 ys) os).heap.size := by
 simp [Sort.grow, Sort.putRow, Sort.mapBlock, Sort.ahead]
theorem put_take (cur : Array Value) (ys : List Int) (m : Nat) (hs : ys.length ≤ cur.size) (hm : m ≤ ys.length) : (Sort.putCells (Value.int .i64) 0 ys.toArray cur).toList.take m = (ys.take m).map (Value.int .i64) := by
 refine List.ext_getElem? fun j => ?_
 rcases Nat.lt_or_ge j m with hj | hj
 ·rw [List.getElem?_take_of_lt hj, List.getElem?_map, List.getElem?_take_of_lt hj, Array.getElem?_toList]
  unfold Sort.putCells
  rw [Array.getElem?_mapIdx, Array.getElem?_eq_getElem (show j < cur.size by omega), List.getElem?_eq_getElem (show j < ys.length by omega)]
  simp only [Option.map_some, Nat.zero_le, true_and, Nat.zero_add, List.size_toArray, Nat.sub_zero]
  rw [if_pos (by omega), getD_arr _ _ (by simp; omega)]
  simp
 ·rw [List.getElem?_eq_none (by rw [List.length_take]; omega), List.getElem?_eq_none (by simp; omega)]
/-- A row of ints is written anew by the library, and cut. -/
theorem St.rowPut {w0 w : World} {L : List Thing} {g n cap m : Nat} {xs ys zs : List Int} (h : St w0 w (Row (Kd.int .i64) 3 (.slice (some ⟨g, 0, none⟩) n cap) xs :: L)) (hl : ys.length = n) (hz : ys.take m = zs) (hm : m ≤ n) (q : Nat) (os : Array Obj) :
  St w0 (Sort.grow (Sort.putRow (Value.int .i64) (Sort.ahead w q) g 0 ys.toArray) os) (Row (Kd.int .i64) 3 (.slice (some ⟨g, 0, none⟩) m cap) zs :: L) := by
 subst hz
 refine St.step (A := [Row (Kd.int .i64) 3 (.slice (some ⟨g, 0, none⟩) n cap) xs]) (A' := [Row (Kd.int .i64) 3 (.slice (some ⟨g, 0, none⟩) m cap) (ys.take m)]) h rfl rfl rfl ?_
 rintro S ⟨S1, S2, ⟨h1, hlt⟩, h2, h3, h4⟩
 obtain ⟨cur, hok, _, hb, hn, hc, hcm, hs, ht⟩ := int_open h1
 have hgl := hlt g hok
 refine ⟨S, ⟨S1, S2, ⟨int_make (cur := Sort.putCells (Value.int .i64) 0 ys.toArray cur) hok (Nat.zero_le _) ?_ (by rw [List.length_take]; omega) (by omega) hcm (by simp [Sort.putCells, hs]) (put_take _ _ _ (by omega) (by omega)), fun k hk => Nat.lt_of_lt_of_le (hlt k hk) (size_put_ _ _ _ _ _)⟩, h2, h3, h4⟩, fun k hk => .inl hk, fun k hk hn => ?_⟩
 ·rw [heap_put _ _ _ _ _ _ hgl, if_pos rfl, hb]
  rfl
 ·rw [heap_put _ _ _ _ _ _ hk, if_neg]
  intro e
  subst e
  exact hn ((h4 g).2 (.inl hok))
theorem St.rowHolds {w0 w : World} {L : List Thing} {g n cap : Nat} {xs : List Int} (h : St w0 w (Row (Kd.int .i64) 3 (.slice (some ⟨g, 0, none⟩) n cap) xs :: L)) : Sort.Holds (Value.int .i64) w g 0 xs.toArray ∧ g < w.heap.size ∧ n = xs.length ∧ xs.length ≤ cap ∧ cap ≤ maxLen := by
 obtain ⟨S, S1, S2, ⟨h1, hlt⟩, _⟩ := h.sts
 obtain ⟨cur, hok, _, hb, hn, hc, hcm, hs, ht⟩ := int_open h1
 refine ⟨fun j hj => ?_, hlt g hok, hn, hn ▸ hc, hcm⟩
 have hj2 : j < xs.length := by simpa using hj
 rw [Nat.zero_add]
 refine ⟨(blk_cell hb j).trans ?_, blk_frozen hb j⟩
 have h5 : (cur.toList.take n)[j]? = (xs.map (Value.int .i64))[j]? := by rw [ht]
 rw [List.getElem?_take_of_lt (by omega), Array.getElem?_toList] at h5
 rw [h5, List.getElem?_map, List.getElem?_eq_getElem hj2, getD_arr _ _ hj]
 simp
theorem take_len {α : Type} {l : List α} {n : Nat} (h : l.length = n) : l.take n = l := List.take_of_length_le (by omega)
theorem sortT (w0 w : World) (L : List Thing) (v : Value) (xs : List Int) (hn : xs.length ≤ 1000000) (h : St w0 w (Row (Kd.int .i64) 3 v xs :: L)) :
  Calls Try.prog 58 #[v] w fun e' w' => e' = .returned (.tuple #[]) ∧ St w0 w' (Row (Kd.int .i64) 3 v (xs.mergeSort fun x y => decide (x ≤ y)) :: L) := by
 obtain ⟨A, c, rfl, _, _⟩ := h.row 0 rfl
 obtain ⟨_, _, _, ⟨⟨_, inner, ⟨_, h2⟩, _⟩, _⟩, _⟩ := h.sts
 rcases h2 with ⟨h2, h3⟩ | ⟨g, cap, cur, h2, _⟩
 ·injection h2 with h4 h5 h6
  subst h4 h6
  have hx : xs = [] := List.eq_nil_of_length_eq_zero h3
  subst hx
  exact (AnyM.slices_Sort_int_none Try.sortA none 0 w).mono (fun e' w' hp => ⟨hp.1, by rw [List.mergeSort_nil]; exact h.same hp.2⟩)
 ·injection h2 with h4 h5 h6
  subst h4 h6
  obtain ⟨hH, hg, _, _, hm⟩ := h.rowHolds
  refine (AnyM.slices_Sort_int Try.sortA g 0 c xs w hH hg (by omega)).mono (fun e' w' hp => ?_)
  obtain ⟨rfl, q, os, rfl⟩ := hp
  exact ⟨rfl, h.rowPut (by simp) (take_len (by simp)) (Nat.le_refl _) q os⟩
theorem compact_len (xs : List Int) : (Lib.compact xs).length ≤ xs.length := by
 unfold Lib.compact Lib.compactUpTo
 rw [List.length_map]
 exact Nat.le_trans (List.length_filter_le _ _) (by simp)
theorem compactT (w0 w : World) (L : List Thing) (v : Value) (xs : List Int) (h : St w0 w (Row (Kd.int .i64) 3 v xs :: L)) :
  Calls Try.prog 59 #[v] w fun e' w' => ∃ v', e' = .returned v' ∧ St w0 w' (Row (Kd.int .i64) 3 v' (Lib.compact xs) :: L) := by
 obtain ⟨A, c, rfl, _, _⟩ := h.row 0 rfl
 obtain ⟨_, _, _, ⟨⟨_, inner, ⟨_, h2⟩, _⟩, _⟩, _⟩ := h.sts
 rcases h2 with ⟨h2, h3⟩ | ⟨g, cap, cur, h2, _⟩
 ·injection h2 with h4 h5 h6
  subst h4 h6
  have hx : xs = [] := List.eq_nil_of_length_eq_zero h3
  subst hx
  exact (AnyG.slices_Compact_int_empty Try.compactA none 0 w).mono (fun e' w' hp => ⟨_, hp.1, h.same hp.2⟩)
 ·injection h2 with h4 h5 h6
  subst h4 h6
  obtain ⟨hH, hg, _, _, hm⟩ := h.rowHolds
  have hc : xs.length ≤ c := by assumption
  refine (AnyG.slices_Compact_int Try.compactA g 0 c xs w hH (by unfold maxLen at hm; omega) hc).mono (fun e' w' hp => ?_)
  obtain ⟨rfl, q, rfl⟩ := hp
  have h5 := compact_len xs
  have h6 := h.rowPut (ys := Lib.compact xs ++ List.replicate (xs.length - (Lib.compact xs).length) 0) (m := (Lib.compact xs).length) (by simp; omega) (List.take_left' rfl) h5 q #[]
  rw [Sort.grow_empty] at h6
  exact ⟨_, rfl, h6⟩
section
variable {P : Program} {ops : Array Oper} {rest : List Oper} {o : Oper} {a : Act} {Q : Exit → Act → World → Prop} {W : World}
theorem index_at (hgd : o.guard = none) (t : TypeId) (x ix : Operand) (hop : o.op = .indexAddr t x ix) {ad : Addr} {len cap sz : Nat} {k : IntKind} {i : Int} (hx : a.eval x = .slice (some ad) len cap) (hix : a.eval ix = .int k i) (h0 : 0 ≤ i) (h1 : i < len) (hu : P.underlying t = some (.slice (P.elem t))) (hs : (P.info? (P.elem t)).map (·.size) = some sz)
  (h : wpList P ops Q rest (a.put o.dst (.pointer (some (ad.add (i.toNat * sz))))) W) : wpList P ops Q (o :: rest) a W := by
 refine wpList_plain hgd fun K hK => ?_
 have hr : (Instr.indexAt t (.slice (some ad) len cap) (.int k i)).run P W = .ok (.pointer (some (ad.add (i.toNat * sz)))) W := by
  obtain ⟨inf, hi, hsz⟩ := Option.map_eq_some_iff.1 hs
  rw [run_indexAt_slice _ _ _ _ _ _ _ hu, if_pos ⟨h0, h1⟩]
  simp only [sizeOf, typeInfo]
  simp [hi, hsz, Result.andThen]
 unfold Oper.wp execOp
 rw [hop]
 simp only [hx, hix]
 simp [hr]
 exact hK _ _ h
end
end Go.Proofs.Ytonedijkgddepaa.P
