/- Structs of many cells, loaded from a block and stored into one, as one step. No conditions. -/
import Derived.Test.YtonedijkgddepaaFA
import Derived.Deep.MidRow
namespace Go.Proofs.Ytonedijkgddepaa.P
open Go.RowKit Go.Maps Go.Proofs.YtonedijkgddepaaW.PrintWords Go.Proofs.YtonedijkgddepaaW.PrintLast Go.Proofs.YtonedijkgddepaaW.PrintMore
set_option linter.unusedVariables false
set_option linter.unusedSimpArgs false

theorem setCells_heap (g : Nat) (t : TypeId) : ∀ (vs : List Value) (o : Nat) (w : World) (cur : Array Value), w.heap[g]? = some (.cells cur t (0, 0)) → o + vs.length ≤ cur.size →
  (w.setCells g o vs).heap[g]? = some (.cells (cur.toList.take o ++ vs ++ cur.toList.drop (o + vs.length)).toArray t (0, 0)) := by
 intro vs
 induction vs with
 | nil =>
  intro o w cur h hs
  rw [World.setCells, h]
  simp
 | cons v r ih =>
  intro o w cur h hs
  rw [World.setCells, ih (o + 1) _ _ (blk_set h o v) (by simp at hs ⊢; omega)]
  have hlt : o < cur.toList.length := by simp at hs ⊢; omega
  have hset : cur.toList.set o v = cur.toList.take o ++ v :: cur.toList.drop (o + 1) := by rw [List.set_eq_take_append_cons_drop, if_pos hlt]
  have hl : (cur.toList.take o).length = o := by rw [List.length_take]; omega
  have e1 : (cur.toList.set o v).take (o + 1) = cur.toList.take o ++ [v] := by
   rw [hset, List.take_append, hl, List.take_of_length_le (by omega)]
   simp
  have e2 : (cur.toList.set o v).drop (o + 1 + r.length) = cur.toList.drop (o + (v :: r).length) := by
   rw [hset, List.drop_append, hl, List.drop_of_length_le (by omega)]
   rw [show o + 1 + r.length - o = r.length + 1 by omega]
   simp
   omega
  rw [Array.toList_setIfInBounds, e1, e2]
  simp
theorem setCells_upd (g : Nat) : ∀ (vs : List Value) (o : Nat) (w : World), Upd w (w.setCells g o vs) (fun k => k = g) := by
 intro vs
 induction vs with
 | nil => intro o w; rw [World.setCells]; exact Upd.refl _ _
 | cons v r ih => intro o w; rw [World.setCells]; exact (Upd.set w ⟨g, o, none⟩ v).and (ih (o + 1) _)
theorem range_blk {w : World} {g off : Nat} {cur : Array Value} {T : TypeId} (hb : w.heap[g]? = some (.cells cur T (0, 0))) (cs : List Value) (hseg : (cur.toList.drop off).take cs.length = cs) : w.rangeAt g off cs := by
 intro j v hv
 have hj : j < cs.length := (List.getElem?_eq_some_iff.1 hv).1
 rw [blk_cell hb, ← hv, ← hseg, List.getElem?_take_of_lt hj, List.getElem?_drop]
 simp
theorem there_blk {w : World} {g off n : Nat} {cur : Array Value} {T : TypeId} (hb : w.heap[g]? = some (.cells cur T (0, 0))) (hs : off + n ≤ cur.size) : w.there g off n := by
 intro j hj
 refine ⟨?_, blk_frozen hb _⟩
 rw [blk_cell hb, Array.getElem?_eq_getElem (by omega)]
 rfl
section
variable {P : Program} {ops : Array Oper} {rest : List Oper} {o : Oper} {a : Act} {Q : Exit → Act → World → Prop} {W : World}
theorem load_blk (hgd : o.guard = none) (t : TypeId) (x : Operand) (ho : o.op = .load t x) (g off : Nat) (hx : a.eval x = .pointer (some ⟨g, off, none⟩)) {cur : Array Value} {T : TypeId} (hb : W.heap[g]? = some (.cells cur T (0, 0))) (cs : List Value) (hseg : (cur.toList.drop off).take cs.length = cs)
  {d : TypeDesc} (hu : P.underlying t = some d) (hd : d.isRow = true) (hi : (P.info? t).map (·.size) = some cs.length) (h : wpList P ops Q rest (a.put o.dst (.agg cs.toArray)) W) : wpList P ops Q (o :: rest) a W :=
 wpList_load_mid hgd t x ho g off hx cs d (range_blk hb cs hseg) hu hd hi h
theorem store_blk (hgd : o.guard = none) (t : TypeId) (x y : Operand) (ho : o.op = .store t x y) (g off : Nat) (cs : List Value) (hx : a.eval x = .pointer (some ⟨g, off, none⟩)) (hy : a.eval y = .agg cs.toArray) {cur : Array Value} {T : TypeId} (hb : W.heap[g]? = some (.cells cur T (0, 0)))
  (hs : off + cs.length ≤ cur.size) (hi : (P.info? t).map (·.size) = some cs.length) (h1 : cs.all (·.oneCell') = true) (new : Array Value) (hnew : (cur.toList.take off ++ cs ++ cur.toList.drop (off + cs.length)).toArray = new)
  (h : ∀ w1, w1.heap[g]? = some (.cells new T (0, 0)) → Upd W w1 (fun k => k = g) → wpList P ops Q rest (a.put o.dst undef) w1) : wpList P ops Q (o :: rest) a W :=
 wpList_store_mid hgd t x y ho g off cs.toArray hx hy (there_blk hb (by simpa using hs)) (by simpa using hi) (all_oneCell_toArray (List.all_eq_true.1 h1)) (h _ (by rw [← hnew]; simpa using setCells_heap g T cs off W cur hb hs) (by simpa using setCells_upd g cs off W))
theorem yields_blk {S : World → Prop} {op : Oper} (hw : Region.wanted op (yielded ops a.tmps) = true) (t : TypeId) (x : Operand) (ho : op.op = .load t x) (g off : Nat) (hx : a.eval x = .pointer (some ⟨g, off, none⟩)) {cur : Array Value} {T : TypeId} (cs : List Value) (hseg : (cur.toList.drop off).take cs.length = cs)
  (hS : ∀ w, S w → w.heap[g]? = some (.cells cur T (0, 0))) {d : TypeDesc} (hu : P.underlying t = some d) (hd : d.isRow = true) (hi : (P.info? t).map (·.size) = some cs.length) : YieldsIf P ops S op (.agg cs.toArray) a :=
 yieldsIf_load_mid hw t x ho g off hx cs d (fun w h => range_blk (hS w h) cs hseg) hu hd hi
/-- A store in a region that draws. -/
theorem store_step {op : Oper} {Kc : Act → World → Prop} (hw : Region.wanted op (yielded ops a.tmps) = true) (hN : op.dst = none) (t : TypeId) (x y : Operand) (ho : op.op = .store t x y) (g off : Nat) (cs : List Value) (hx : a.eval x = .pointer (some ⟨g, off, none⟩)) (hy : a.eval y = .agg cs.toArray) {cur : Array Value} {T : TypeId} (hb : W.heap[g]? = some (.cells cur T (0, 0)))
  (hs : off + cs.length ≤ cur.size) (hi : (P.info? t).map (·.size) = some cs.length) (h1 : cs.all (·.oneCell') = true) (new : Array Value) (hnew : (cur.toList.take off ++ cs ++ cur.toList.drop (off + cs.length)).toArray = new)
  (h : ∀ w1, w1.heap[g]? = some (.cells new T (0, 0)) → Upd W w1 (fun k => k = g) → Kc a w1) : if Region.wanted op (yielded ops a.tmps) = true then Oper.wp P op a W Kc Q else Kc (a.put none undef) W := by
 rw [if_pos hw]
 refine wp_store_mid t x y ho g off cs.toArray hx hy (there_blk hb (by simpa using hs)) (by simpa using hi) (all_oneCell_toArray (List.all_eq_true.1 h1)) ?_
 rw [hN]
 exact h _ (by rw [← hnew]; simpa using setCells_heap g T cs off W cur hb hs) (by simpa using setCells_upd g cs off W)
end
end Go.Proofs.Ytonedijkgddepaa.P
