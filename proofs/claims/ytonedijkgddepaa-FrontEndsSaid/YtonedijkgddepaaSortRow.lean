/- A row of the call's own, handed to the library's sort: what the row holds in the sort's words, and what it is behind it. No conditions. -/
import Derived.Test.YtonedijkgddepaaWKept
import Derived.Shelf.SlSortCmp.WholeK
namespace Go.Proofs.Ytonedijkgddepaa.SortRow
open Go.RowKit Go.Sort Go.Proofs.YtonedijkgddepaaW.PrintWords
variable {σ α : Type} [Inhabited α] {K : Kd σ} {enc : α → List Value} {val : α → σ} {e : Nat} {w : World} {base : Nat} {P : Nat → Prop} {g cap : Nat} {d d' : Array α}

theorem getD_of {β : Type} [Inhabited β] (l : List β) (i : Nat) (h : i < l.length) : l[i]? = some l[i]! := by
 rw [getElem!_pos l i h]
 exact List.getElem?_eq_getElem h
theorem agetD_of {β : Type} [Inhabited β] (l : Array β) (i : Nat) (h : i < l.size) : l[i]? = some l[i]! := by
 rw [getElem!_pos l i h]
 exact Array.getElem?_eq_getElem h

theorem getElem!_arr {β : Type} [Inhabited β] (l : Array β) (i : Nat) (h : i < l.size) : l[i]! = l[i] := getElem!_pos l i h
theorem seg_at {l : List Value} {i j k : Nat} (hj : j / k = i) (hk : 0 < k) : l[j]? = ((l.drop (i * k)).take k)[j % k]? := by
 have h1 : j % k < k := Nat.mod_lt _ hk
 rw [List.getElem?_take_of_lt h1, List.getElem?_drop]
 have : i * k + j % k = j := by
  rw [← hj, Nat.mul_comm]
  exact Nat.div_add_mod j k
 rw [this]

/-- The row's cells, in the sort's words. -/
theorem R_holds (hM : ∀ w base ok x cs, K.M w base ok (val x) cs ↔ cs = enc x) (hk : ∀ x, (enc x).length = K.sz) (hk0 : 0 < K.sz)
  (h : Kd.R K e w base P (.slice (some ⟨g, 0, none⟩) d.size cap) (d.toList.map val)) : HoldsK enc K.sz w g 0 d := by
 obtain ⟨_, inner, ho, hr⟩ := h
 obtain ⟨hl, h2⟩ := ho
 rcases h2 with ⟨h2, _⟩ | ⟨g', cap', cur, h2, _, hb, hn, _, hs, ht⟩
 ·injection h2 with h2; cases h2
 ·injection h2 with h2 h3 h4
  injection h2 with h2
  injection h2 with h2
  subst h2
  simp only [List.length_map, Array.length_toList] at hl ht hn
  intro j hj
  rw [size_flatK] at hj
  have hi : j / K.sz < d.size := (Nat.div_lt_iff_lt_mul hk0).2 hj
  have hm : j % K.sz < K.sz := Nat.mod_lt _ hk0
  rw [Nat.zero_add]
  refine ⟨?_, blk_frozen hb j⟩
  rw [blk_cell hb j, get_flatK _ _ _ _ hj]
  have h5 : cur[j]? = inner[j]? := by
   rw [← ht, List.getElem?_take_of_lt hj]
   simp
  have h6 := hr.2 (j / K.sz) (val d[j / K.sz]!) (by
   rw [List.getElem?_map]
   have : d.toList[j / K.sz]? = some d[j / K.sz]! := by
    rw [Array.getElem?_toList]
    exact agetD_of d _ hi
   rw [this]
   rfl)
  rw [hM] at h6
  rw [h5, seg_at (i := j / K.sz) rfl hk0, h6]
  exact getD_of _ _ (by rw [hk]; exact hm)

theorem flat_seg (hk : ∀ x, (enc x).length = K.sz) (i : Nat) (hi : i < d'.size) : (((flatK enc K.sz d').toList.drop (i * K.sz)).take K.sz) = enc d'[i]! := by
 apply List.ext_getElem?
 intro t
 by_cases ht : t < K.sz
 ·have hlt : i * K.sz + t < d'.size * K.sz := by
   have := Nat.mul_le_mul_right K.sz (show i + 1 ≤ d'.size from hi)
   rw [Nat.add_mul, Nat.one_mul] at this
   omega
  rw [List.getElem?_take_of_lt ht, List.getElem?_drop, Array.getElem?_toList, agetD_of _ _ (by rw [size_flatK]; exact hlt), get_flatK _ _ _ _ hlt]
  have e1 : (i * K.sz + t) / K.sz = i := by
   rw [Nat.mul_comm, Nat.mul_add_div (by omega), Nat.div_eq_of_lt ht, Nat.add_zero]
  have e2 : (i * K.sz + t) % K.sz = t := by
   rw [Nat.mul_comm, Nat.mul_add_mod]
   exact Nat.mod_eq_of_lt ht
  rw [e1, e2]
  exact (getD_of _ _ (by rw [hk]; exact ht)).symm
 ·rw [List.getElem?_eq_none (by rw [List.length_take]; omega), List.getElem?_eq_none (by rw [hk]; omega)]

theorem heap_sortWorldK (n : Nat) (os : Array Obj) (i : Nat) (hi : i < w.heap.size) : (sortWorldK enc K.sz w g 0 n d' os).heap[i]? = if g = i then (w.heap[i]?).map (onCells (putCells id 0 (flatK enc K.sz d'))) else w.heap[i]? := by
 unfold sortWorldK
 rw [heap_grow_old _ _ (by rw [size_putRowK]; exact hi)]
 unfold putRowK putRow mapBlock
 rw [Array.getElem?_modify]
 rfl

theorem size_sortWorldK (n : Nat) (os : Array Obj) : w.heap.size ≤ (sortWorldK enc K.sz w g 0 n d' os).heap.size := by
 unfold sortWorldK
 rw [size_grow, size_putRowK]
 exact Nat.le_add_right _ _

theorem grown_sortWorldK (n : Nat) (os : Array Obj) : w.grownBy (sortWorldK enc K.sz w g 0 n d' os) (some g) :=
 ⟨rfl, rfl, rfl, size_sortWorldK n os, fun k hk hne => by
  rw [heap_sortWorldK n os k hk, if_neg (fun h => hne (by rw [h]))]⟩

/-- Behind the sort the row holds what the sort has laid. -/
theorem R_sorted (hM : ∀ w base ok x cs, K.M w base ok (val x) cs ↔ cs = enc x) (hk : ∀ x, (enc x).length = K.sz)
  (h : Kd.R K e w base P (.slice (some ⟨g, 0, none⟩) d.size cap) (d.toList.map val)) (hd : d'.size = d.size) (n : Nat) (os : Array Obj) :
  Kd.R K e (sortWorldK enc K.sz w g 0 n d' os) base P (.slice (some ⟨g, 0, none⟩) d.size cap) (d'.toList.map val) := by
 obtain ⟨h0, inner, ho, hr⟩ := h
 refine ⟨h0, (flatK enc K.sz d').toList, ?_, ?_⟩
 ·obtain ⟨hl, h2⟩ := ho
  have hlen : (d'.toList.map val).length = (d.toList.map val).length := by simp [hd]
  refine ⟨by simp [size_flatK], ?_⟩
  rcases h2 with ⟨h2, _⟩ | ⟨g', cap', cur, h2, hb0, hb, hn, hcm, hs, ht⟩
  ·injection h2 with h2; cases h2
  ·injection h2 with h2 h3 h4
   injection h2 with h2
   injection h2 with h2
   subst h2 h4
   simp only [List.length_map, Array.length_toList] at hn ht h3
   refine .inr ⟨g, cap, putCells id 0 (flatK enc K.sz d') cur, by simp [hd], hb0, ?_, by simpa [hd] using hn, hcm, by simp [putCells, hs], ?_⟩
   ·rw [heap_sortWorldK n os g (blk_lt hb), if_pos rfl, hb]
    rfl
   ·have hle : d'.size * K.sz ≤ cur.size := by rw [hs, hd]; exact Nat.mul_le_mul_right _ hn
    apply List.ext_getElem?
    intro t
    simp only [List.length_map, Array.length_toList]
    by_cases hlt : t < d'.size * K.sz
    ·rw [List.getElem?_take_of_lt hlt, Array.getElem?_toList, Array.getElem?_toList]
     unfold putCells
     rw [Array.getElem?_mapIdx, Array.getElem?_eq_getElem (show t < cur.size by omega)]
     simp only [Option.map_some, Nat.zero_le, true_and, Nat.zero_add, size_flatK, hlt, if_true, Nat.sub_zero, id]
     exact (agetD_of _ _ (by rw [size_flatK]; exact hlt)).symm
    ·rw [List.getElem?_eq_none (by simp; omega), List.getElem?_eq_none (by simp [size_flatK]; omega)]
 ·refine ⟨by simp [size_flatK], fun j p hj => ?_⟩
  rw [List.getElem?_map, Array.getElem?_toList] at hj
  have hjs : j < d'.size := by
   rcases Nat.lt_or_ge j d'.size with h | h
   ·exact h
   ·rw [Array.getElem?_eq_none h] at hj
    cases hj
  rw [agetD_of _ _ hjs] at hj
  cases hj
  rw [hM, flat_seg hk j hjs]
end Go.Proofs.Ytonedijkgddepaa.SortRow
