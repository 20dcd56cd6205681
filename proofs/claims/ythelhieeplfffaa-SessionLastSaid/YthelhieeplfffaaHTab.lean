/- session.Table, by hand, for replies without rows: what a table knows is a list of clients with what each was answered. New, Note, Look. No conditions. -/
import Derived.Test.YthelhieeplfffaaGLay
import Derived.Test.YthelhieeplfffaaWMore
import Derived.Maps.OwnSet
import Derived.Lib.SlKeysI
import Derived.WalkSpells
import Derived.Deep.LoopGhost
namespace Go.Proofs.Ythelhieeplfffaa.P
open Go.RowKit Go.Maps Go.Proofs.YthelhieeplfffaaW.PrintWords Go.Proofs.YthelhieeplfffaaW.PrintLast Go.Proofs.YthelhieeplfffaaW.PrintMore
set_option linter.unusedVariables false
set_option linter.unusedSimpArgs false

/-- What a client was answered last: its number; the reply's three numbers (it has no rows). -/
structure La where
  num : Int
  e : Int
  s : Int
  n : Int
def laV (x : La) : Value := .agg #[.int .i64 x.num, .int .i64 x.e, .int .i64 x.s, .int .i64 x.n, .slice none 0 0, .slice none 0 0, .slice none 0 0]
def zeroV : Value := .agg #[.int .i64 0, .int .i64 0, .int .i64 0, .int .i64 0, .slice none 0 0, .slice none 0 0, .slice none 0 0]
def RH (v : Value) : Option (DataW Value × List MemPlace) := some (.held v, [])
theorem law3 : Keyed Try.prog 3 := int_keyed Try.underlying3
theorem zero59 (w : World) : (zeroValue 59).run Try.prog w = .ok zeroV w := by kernel_rfl

structure RelT (D : DataW Value) (M : List (Int × La)) : Prop where
  isMap : IsMap D
  keys : ∀ k : Int, Maps.has D (.int .i64 k) = true ↔ ∃ x ∈ M, x.1 = k
  vals : ∀ x ∈ M, D.atKey (.int .i64 x.1) (.held zeroV) = .held (laV x.2)
  size : Maps.size D = M.length
  apart : M.Pairwise (fun x y => x.1 ≠ y.1)
theorem lit_ne {a b : Int} (h : a ≠ b) : (Lit.int .i64 a) ≠ (Lit.int .i64 b) := fun e => h (by injection e)
theorem blk_at {W : World} {g : Nat} {o : Obj} (e : g = W.heap.size) : (W.alloc o).heap[g]? = some o := e ▸ heap_alloc_new W o
theorem RelT.start : RelT (.map []) [] := ⟨isMap_empty, fun k => by simp [Maps.has], fun x h => (by cases h), rfl, List.Pairwise.nil⟩
theorem RelT.no {D : DataW Value} {M : List (Int × La)} (h : RelT D M) {c : Int} (hno : ∀ x ∈ M, x.1 ≠ c) : Maps.has D (.int .i64 c) = false := by
  cases hh : Maps.has D (.int .i64 c)
  · rfl
  · obtain ⟨x, hx, e⟩ := (h.keys c).1 hh
    exact absurd e (hno x hx)
theorem RelT.new {D : DataW Value} {M : List (Int × La)} (h : RelT D M) (ht : Tidy D) {c : Int} (hno : ∀ x ∈ M, x.1 ≠ c) (y : La) : RelT (D.put (.int .i64 c) (.held (laV y))) (M ++ [(c, y)]) := by
  have hn := h.no hno
  refine ⟨h.isMap.put _ _, fun k => ?_, fun x hx => ?_, ?_, ?_⟩
  · by_cases e : k = c
    · subst e
      rw [has_put_same h.isMap (by trivial)]
      exact ⟨fun _ => ⟨(k, y), by simp, rfl⟩, fun _ => rfl⟩
    · rw [has_put_other (lit_ne e), h.keys]
      constructor
      · rintro ⟨x, hx, rfl⟩
        exact ⟨x, List.mem_append_left _ hx, rfl⟩
      · rintro ⟨x, hx, rfl⟩
        rcases List.mem_append.1 hx with hx | hx
        · exact ⟨x, hx, rfl⟩
        · rw [List.mem_singleton] at hx
          subst hx
          exact absurd rfl e
  · rcases List.mem_append.1 hx with hx | hx
    · rw [atKey_put_other (lit_ne (hno x hx))]
      exact h.vals x hx
    · rw [List.mem_singleton] at hx
      subst hx
      show DataW.atKey (DataW.put D (.int .i64 c) (.held (laV y))) (.int .i64 c) (.held zeroV) = .held (laV y)
      rw [atKey_put_same h.isMap (by trivial)]
  · rw [size_put ht, hn, h.size]; simp
  · refine List.pairwise_append.2 ⟨h.apart, List.pairwise_singleton _ _, fun x hx z hz => ?_⟩
    rw [List.mem_singleton] at hz
    subst hz
    exact hno x hx
def setT (c : Int) (y : La) (M : List (Int × La)) : List (Int × La) := M.map fun x => if x.1 = c then (c, y) else x
theorem RelT.old {D : DataW Value} {M : List (Int × La)} (h : RelT D M) (ht : Tidy D) {c : Int} {y0 : La} (hin : (c, y0) ∈ M) (y : La) : RelT (D.put (.int .i64 c) (.held (laV y))) (setT c y M) := by
  have hn : Maps.has D (.int .i64 c) = true := (h.keys c).2 ⟨_, hin, rfl⟩
  have hk : ∀ x : Int × La, (if x.1 = c then (c, y) else x).1 = x.1 := fun x => by
    split
    · rename_i e; exact e.symm
    · rfl
  refine ⟨h.isMap.put _ _, fun k => ?_, fun x hx => ?_, ?_, ?_⟩
  · have hm : (∃ x ∈ setT c y M, x.1 = k) ↔ ∃ x ∈ M, x.1 = k := by
      unfold setT
      constructor
      · rintro ⟨x, hx, rfl⟩
        obtain ⟨z, hz, rfl⟩ := List.mem_map.1 hx
        exact ⟨z, hz, (hk z).symm⟩
      · rintro ⟨x, hx, rfl⟩
        exact ⟨_, List.mem_map.2 ⟨x, hx, rfl⟩, hk x⟩
    rw [hm]
    by_cases e : k = c
    · subst e
      rw [has_put_same h.isMap (by trivial)]
      exact ⟨fun _ => ⟨_, hin, rfl⟩, fun _ => rfl⟩
    · rw [has_put_other (lit_ne e), h.keys]
  · obtain ⟨z, hz, rfl⟩ := List.mem_map.1 hx
    by_cases e : z.1 = c
    · rw [if_pos e]
      show DataW.atKey (DataW.put D (.int .i64 c) (.held (laV y))) (.int .i64 c) (.held zeroV) = .held (laV y)
      rw [atKey_put_same h.isMap (by trivial)]
    · rw [if_neg e, atKey_put_other (lit_ne e)]
      exact h.vals z hz
  · rw [size_put ht, hn, h.size]; simp [setT]
  · unfold setT
    refine List.pairwise_map.2 (h.apart.imp fun {a b} hab => ?_)
    rw [hk, hk]
    exact hab

/-- Block B is a table, b its map, of at most q entries; it knows M. -/
def TabAt (w : World) (B b q : Nat) (M : List (Int × La)) : Prop := w.heap[B]? = some (.cells #[.map (some b)] 48 (0, 0)) ∧ ∃ D : DataW Value, w.ownsMap Try.prog 3 RH b q D ∧ RelT D M
theorem TabAt.keep {w w' : World} {B b q : Nat} {M : List (Int × La)} (h : TabAt w B b q M) (h1 : w'.heap[B]? = w.heap[B]?) (h2 : w'.heap[b]? = w.heap[b]?) : TabAt w' B b q M := by
  obtain ⟨hb, D, ⟨es, clock, h3, h4⟩, hr⟩ := h
  exact ⟨h1.trans hb, D, ⟨es, clock, h2.trans h3, h4⟩, hr⟩
theorem TabAt.lt {w : World} {B b q : Nat} {M : List (Int × La)} (h : TabAt w B b q M) : B < w.heap.size ∧ b < w.heap.size ∧ B ≠ b := by
  obtain ⟨hb, D, ho, _⟩ := h
  refine ⟨blk_lt hb, ho.lt, fun e => ?_⟩
  obtain ⟨es, clock, h3, _⟩ := ho
  rw [← e, hb] at h3
  cases h3
theorem TabAt.below {w w' : World} {B b q : Nat} {M : List (Int × La)} (h : TabAt w B b q M) (hb : Below w.heap.size w w') : TabAt w' B b q M :=
  h.keep (hb.block B h.lt.1) (hb.block b h.lt.2.1)
theorem owns_below {P : Program} {k b n : Nat} {R : Value → Option (DataW Value × List MemPlace)} {w w' : World} {D : DataW Value} (h : w.ownsMap P k R b n D) (hb : Below w.heap.size w w') : w'.ownsMap P k R b n D := by
  have hlt := h.lt
  obtain ⟨es, clock, h1, h2⟩ := h
  exact ⟨es, clock, (hb.block b hlt).trans h1, h2⟩

set_option maxHeartbeats 1000000 in
theorem noneC (w : World) (B b : Nat) (hb : w.heap[B]? = some (.cells #[.map (some b)] 48 (0, 0))) : Calls Try.prog 18 #[.pointer (some ⟨B, 0, none⟩)] w fun e w' => e = .returned (.bool false) ∧ w' = w := by
  have hc : w.cell? ⟨B, 0, none⟩ = some (.map (some b)) := (blk_cell hb 0).trans rfl
  have hq := fun (W : World) (r : Option Nat) => run_eql_map_nil (P := Try.prog) W 46 3 59 r Try.underlying46
  clear hb
  go_enter Try.func18, Try.ntmps18
  go_wp2
  go_ret
  exact ⟨rfl, rfl⟩
set_option maxHeartbeats 1000000 in
theorem cloneNil30 (w : World) : Calls Try.prog 30 #[.slice none 0 0] w fun e w' => e = .returned (.slice none 0 0) ∧ w' = w := by
  have q : ∀ (w : World) (a : Option Addr) (n c n' c' : Nat), (binOp .eql 28 (.slice a n c) (.slice none n' c')).run Try.prog w = .ok (.bool a.isNone) w := fun w a n c n' c' => Lib.run_eql_slice_nil w _ _ a n c n' c' Try.underlying28
  go_enter Try.func30, Try.ntmps30
  go_wp2
  go_ret
  exact ⟨rfl, rfl⟩
set_option maxHeartbeats 1000000 in
theorem cloneNil31 (w : World) : Calls Try.prog 31 #[.slice none 0 0] w fun e w' => e = .returned (.slice none 0 0) ∧ w' = w := by
  have q : ∀ (w : World) (a : Option Addr) (n c n' c' : Nat), (binOp .eql 29 (.slice a n c) (.slice none n' c')).run Try.prog w = .ok (.bool a.isNone) w := fun w a n c n' c' => Lib.run_eql_slice_nil w _ _ a n c n' c' Try.underlying29
  go_enter Try.func31, Try.ntmps31
  go_wp2
  go_ret
  exact ⟨rfl, rfl⟩
set_option maxHeartbeats 1000000 in
theorem cloneNil32 (w : World) : Calls Try.prog 32 #[.slice none 0 0] w fun e w' => e = .returned (.slice none 0 0) ∧ w' = w := by
  have q : ∀ (w : World) (a : Option Addr) (n c n' c' : Nat), (binOp .eql 30 (.slice a n c) (.slice none n' c')).run Try.prog w = .ok (.bool a.isNone) w := fun w a n c n' c' => Lib.run_eql_slice_nil w _ _ a n c n' c' Try.underlying30
  go_enter Try.func32, Try.ntmps32
  go_wp2
  go_ret
  exact ⟨rfl, rfl⟩
theorem setCell_id {w : World} {p : Addr} {v : Value} (h : w.cell? p = some v) : w.setCell p v = w := by
  have hh : (w.setCell p v).heap = w.heap := by
    refine Array.ext_getElem? fun k => ?_
    by_cases hk : k = p.block
    · subst hk
      unfold World.cell? at h
      split at h
      · rename_i c e f hb
        have hs : p.spot.isSome = false := by
          cases hs : p.spot.isSome with
          | false => rfl
          | true => simp [hs] at h
        simp only [World.setCell, Array.getElem?_modify, ↓reduceIte, hb, Option.map_some, hs]
        simp [hs] at h
        obtain ⟨hlt, hv⟩ := Array.getElem?_eq_some_iff.1 h
        have : c.setIfInBounds p.off v = c := by
          refine Array.ext_getElem? fun j => ?_
          by_cases hj : p.off = j
          · subst hj; simp [hlt, hv]
          · simp [hj]
        simp [this]
      · simp at h
    · exact Below.heap_setCell w p v k hk
  show ({ w with heap := (w.setCell p v).heap } : World) = w
  rw [hh]
set_option maxHeartbeats 1000000 in
theorem ownC (e s n : Int) (w : World) : Calls Try.prog 20 #[.agg #[.int .i64 e, .int .i64 s, .int .i64 n, .slice none 0 0, .slice none 0 0, .slice none 0 0]] w fun e' w' => e' = .returned (.agg #[.int .i64 e, .int .i64 s, .int .i64 n, .slice none 0 0, .slice none 0 0, .slice none 0 0]) ∧ Below w.heap.size w w' := by
  obtain ⟨W, hW⟩ : ∃ W, W = (w.alloc (.cells #[.int .i64 e, .int .i64 s, .int .i64 n, .slice none 0 0, .slice none 0 0, .slice none 0 0] 32)).alloc (.cells #[.int .i64 0, .int .i64 0, .int .i64 0, .slice none 0 0, .slice none 0 0, .slice none 0 0] 32) := ⟨_, rfl⟩
  have HB0 := Aside0.mk (show Below w.heap.size w W by rw [hW]; exact below_alloc (below_alloc (Below.refl _ _) _) _)
  have hb1 : W.heap[w.heap.size]? = some (.cells #[.int .i64 e, .int .i64 s, .int .i64 n, .slice none 0 0, .slice none 0 0, .slice none 0 0] 32 (0, 0)) := by rw [hW]; exact blk_alloc (heap_alloc_new w _) _
  have hb2 : W.heap[w.heap.size + 1]? = some (.cells #[.int .i64 0, .int .i64 0, .int .i64 0, .slice none 0 0, .slice none 0 0, .slice none 0 0] 32 (0, 0)) := by
    rw [hW]
    have := heap_alloc_new (w.alloc (.cells #[.int .i64 e, .int .i64 s, .int .i64 n, .slice none 0 0, .slice none 0 0, .slice none 0 0] 32)) (.cells #[.int .i64 0, .int .i64 0, .int .i64 0, .slice none 0 0, .slice none 0 0, .slice none 0 0] 32)
    simpa using this
  have k0 : W.cell? ⟨w.heap.size, 0, none⟩ = some (.int .i64 e) := (blk_cell hb1 0).trans rfl
  have k1 : W.cell? ⟨w.heap.size, 1, none⟩ = some (.int .i64 s) := (blk_cell hb1 1).trans rfl
  have k2 : W.cell? ⟨w.heap.size, 2, none⟩ = some (.int .i64 n) := (blk_cell hb1 2).trans rfl
  have k3 : W.cell? ⟨w.heap.size, 3, none⟩ = some (.slice none 0 0) := (blk_cell hb1 3).trans rfl
  have k4 : W.cell? ⟨w.heap.size, 4, none⟩ = some (.slice none 0 0) := (blk_cell hb1 4).trans rfl
  have k5 : W.cell? ⟨w.heap.size, 5, none⟩ = some (.slice none 0 0) := (blk_cell hb1 5).trans rfl
  have f3 : W.frozen? ⟨w.heap.size, 3, none⟩ = false := blk_frozen hb1 3
  have f4 : W.frozen? ⟨w.heap.size, 4, none⟩ = false := blk_frozen hb1 4
  have f5 : W.frozen? ⟨w.heap.size, 5, none⟩ = false := blk_frozen hb1 5
  have g3 := fun m => setCell_id (w := W.drewN m) (p := ⟨w.heap.size, 3, none⟩) (v := .slice none 0 0) k3
  have g4 := fun m => setCell_id (w := W.drewN m) (p := ⟨w.heap.size, 4, none⟩) (v := .slice none 0 0) k4
  have g5 := fun m => setCell_id (w := W.drewN m) (p := ⟨w.heap.size, 5, none⟩) (v := .slice none 0 0) k5
  have HB2 := Aside0.mk hb2
  have r0 : W.cell? ⟨w.heap.size + 1, 0, none⟩ = some (.int .i64 0) := (blk_cell hb2 0).trans rfl
  have r1 : W.cell? ⟨w.heap.size + 1, 1, none⟩ = some (.int .i64 0) := (blk_cell hb2 1).trans rfl
  have r2 : W.cell? ⟨w.heap.size + 1, 2, none⟩ = some (.int .i64 0) := (blk_cell hb2 2).trans rfl
  have r3 : W.cell? ⟨w.heap.size + 1, 3, none⟩ = some (.slice none 0 0) := (blk_cell hb2 3).trans rfl
  have r4 : W.cell? ⟨w.heap.size + 1, 4, none⟩ = some (.slice none 0 0) := (blk_cell hb2 4).trans rfl
  have r5 : W.cell? ⟨w.heap.size + 1, 5, none⟩ = some (.slice none 0 0) := (blk_cell hb2 5).trans rfl
  have q0 : W.frozen? ⟨w.heap.size + 1, 0, none⟩ = false := blk_frozen hb2 0
  have q1 : W.frozen? ⟨w.heap.size + 1, 1, none⟩ = false := blk_frozen hb2 1
  have q2 : W.frozen? ⟨w.heap.size + 1, 2, none⟩ = false := blk_frozen hb2 2
  have q3 : W.frozen? ⟨w.heap.size + 1, 3, none⟩ = false := blk_frozen hb2 3
  have q4 : W.frozen? ⟨w.heap.size + 1, 4, none⟩ = false := blk_frozen hb2 4
  have q5 : W.frozen? ⟨w.heap.size + 1, 5, none⟩ = false := blk_frozen hb2 5
  go_enter Try.func20, Try.ntmps20
  go_wp2
  rw [← hW]
  clear hW hb1 hb2
  go_quiet (first
    | (go_at_call 30; exact Calls.quiet_of_same (cloneNil30 _))
    | (go_at_call 31; exact Calls.quiet_of_same (cloneNil31 _))
    | (go_at_call 32; exact Calls.quiet_of_same (cloneNil32 _)))
  go_wp2
  refine bodyPost_ret (results_cell_row rfl _ _ (w.heap.size + 1) 32 #[.int .i64 e, .int .i64 s, .int .i64 n, .slice none 0 0, .slice none 0 0, .slice none 0 0] (0, 0) _ rfl ?_ Try.underlying32 rfl (by kernel_rfl)) rfl ?_
  · refine blk_put (cs := #[.int .i64 e, .int .i64 s, .int .i64 n, .slice none 0 0, .slice none 0 0, .slice none 0 0]) ?_ 5 _ rfl
    refine blk_put (cs := #[.int .i64 e, .int .i64 s, .int .i64 n, .slice none 0 0, .slice none 0 0, .slice none 0 0]) ?_ 4 _ rfl
    refine blk_put (cs := #[.int .i64 e, .int .i64 s, .int .i64 n, .slice none 0 0, .slice none 0 0, .slice none 0 0]) ?_ 3 _ rfl
    refine blk_put (cs := #[.int .i64 e, .int .i64 s, .int .i64 0, .slice none 0 0, .slice none 0 0, .slice none 0 0]) ?_ 2 _ rfl
    refine blk_put (cs := #[.int .i64 e, .int .i64 0, .int .i64 0, .slice none 0 0, .slice none 0 0, .slice none 0 0]) ?_ 1 _ rfl
    refine blk_put (cs := #[.int .i64 0, .int .i64 0, .int .i64 0, .slice none 0 0, .slice none 0 0, .slice none 0 0]) ?_ 0 _ rfl
    exact HB2.out
  · refine ⟨rfl, ?_⟩
    repeat (with_reducible first | exact HB0.out | refine below_set ?_ (Nat.le_succ _) | refine pw_below_drewN ?_ _)
set_option maxHeartbeats 2000000 in
theorem numberC (w : World) (G : Nat) (x y : Int) (hG : w.heap[G]? = some (.cells #[.int .i64 x, .int .i64 y] 3 (0, 0))) (hx : 1 ≤ x ∧ x ≤ 1099511627776) (hy : 1 ≤ y ∧ y ≤ 1099511627776) :
    Calls Try.prog 19 #[.slice (some ⟨G, 0, none⟩) 2 2] w fun e w' => e = .returned (.bool true) ∧ w' = w := by
  have h0 : w.cell? ⟨G, 0, none⟩ = some (.int .i64 x) := (blk_cell hG 0).trans rfl
  have h1 : w.cell? ⟨G, 1, none⟩ = some (.int .i64 y) := (blk_cell hG 1).trans rfl
  have f1 : decide (x < 1) = false := decide_eq_false (by omega)
  have f3 : decide (y < 1) = false := decide_eq_false (by omega)
  have f5 : decide (1099511627776 < x) = false := decide_eq_false (by omega)
  have f6 : decide (1099511627776 < y) = false := decide_eq_false (by omega)
  clear hG hx hy
  go_enter Try.func19, Try.ntmps19
  go_wp2
  go_loopg [7] 2 (fun kq v7 w' => ∃ i : Nat, v7 = .int .i64 i ∧ i ≤ 2 ∧ 2 - i ≤ kq ∧ w' = w)
  case atStart => exact ⟨0, rfl, by omega, by omega, rfl⟩
  case round =>
    obtain ⟨i, rfl, hi, hg, rfl⟩ := hrel
    obtain rfl | rfl | rfl : i = 0 ∨ i = 1 ∨ i = 2 := by omega
    · go_wp2
      go_roundg 1
      case measure => omega
      case rel => exact ⟨1, rfl, by omega, by omega, rfl⟩
    · go_wp2
      go_roundg 0
      case measure => omega
      case rel => exact ⟨2, rfl, by omega, by omega, rfl⟩
    · go_wp2
      go_ret
      exact ⟨rfl, rfl⟩
set_option maxHeartbeats 2000000 in
theorem newC (w : World) : Calls Try.prog 6 #[] w fun e w' => ∃ B b, e = .returned (.pointer (some ⟨B, 0, none⟩)) ∧ w.heap.size ≤ B ∧ w.heap.size ≤ b ∧ TabAt w' B b 0 [] ∧ Below w.heap.size w w' := by
  have hmm := @run_makeMap Try.prog
  go_enter Try.func6, Try.ntmps6
  go_wp2
  go_ret
  have h1 := World.ownsMap_made w Try.prog 3 RH
  have h2 := heap_alloc_new (w.alloc (.map #[] 0)) (.cells #[.map (some w.heap.size)] 48)
  exact ⟨w.heap.size + 1, w.heap.size, rfl, Nat.le_succ _, Nat.le_refl _, ⟨by simpa using h2, .map [], owns_below h1 (below_alloc (Below.refl _ _) _), RelT.start⟩, below_alloc (below_alloc (Below.refl _ _) _) _⟩
theorem look_ok_held {P : Program} (w : World) {ops : Array Oper} {rest : List Oper} {o : Oper} {a : Act} {Q : Exit → Act → World → Prop}
    (hg : o.guard = none) (m x : Operand) (t : TypeId) (hop : o.op = Op.lookup t m x true) (k e : TypeId) (K : Keyed P k) (ht : P.underlying t = some (.map k e)) (z : Value) (hz : (zeroValue e).run P w = .ok z w) (b n : Nat) (D : DataW Value)
    (hm : a.eval m = .map (some b)) (hown : w.ownsMap P k RH b n D) (key : Value) (kl : Lit) (hx : a.eval x = key) (hkey : keyOf P k key = some kl) (V : Value) (hat : D.atKey kl (.held z) = .held V) (ok : Bool) (hok : Maps.has D kl = ok)
    (hK : wpList P ops Q rest (a.put o.dst (.tuple #[V, .bool ok])) w) : wpList P ops Q (o :: rest) a w :=
  wpList_lookup_own_ok w hg m x t hop k e K ht RH hz (.held z) [] rfl b n D hm hown key kl hx hkey (fun v ps hv => by
    rw [hat] at hv
    unfold RH at hv
    injection hv with hv
    injection hv with hv _
    injection hv with hv
    subst hv
    rw [hok]
    exact hK)
theorem look_held {P : Program} (w : World) {ops : Array Oper} {rest : List Oper} {o : Oper} {a : Act} {Q : Exit → Act → World → Prop}
    (hg : o.guard = none) (m x : Operand) (t : TypeId) (hop : o.op = Op.lookup t m x false) (k e : TypeId) (K : Keyed P k) (ht : P.underlying t = some (.map k e)) (z : Value) (hz : (zeroValue e).run P w = .ok z w) (b n : Nat) (D : DataW Value)
    (hm : a.eval m = .map (some b)) (hown : w.ownsMap P k RH b n D) (key : Value) (kl : Lit) (hx : a.eval x = key) (hkey : keyOf P k key = some kl) (V : Value) (hat : D.atKey kl (.held z) = .held V)
    (hK : wpList P ops Q rest (a.put o.dst V) w) : wpList P ops Q (o :: rest) a w := by
  refine wpList_plain hg fun K' hK' => ?_
  obtain ⟨v, ps, hrun, hv⟩ := hown.lookup K ht hz (zd := .held z) (zp := []) rfl hkey
  rw [hat] at hv
  unfold RH at hv
  injection hv with hv
  injection hv with hv _
  injection hv with hv
  subst hv
  unfold Oper.wp
  simp [execOp, hop, hm, hx, hrun, Result.andThen]
  exact hK' _ _ hK
set_option maxHeartbeats 4000000 in
set_option maxRecDepth 100000 in
theorem noteNew (w : World) (B b q : Nat) (M : List (Int × La)) (h : TabAt w B b q M) (c num e s n : Int) (hc : 1 ≤ c ∧ c ≤ 1099511627776) (hn : 1 ≤ num ∧ num ≤ 1099511627776) (hno : ∀ x ∈ M, x.1 ≠ c) (hl : M.length < 64) (hq : q < 1000) :
    Calls Try.prog 8 #[.pointer (some ⟨B, 0, none⟩), .int .i64 c, .int .i64 num, .agg #[.int .i64 e, .int .i64 s, .int .i64 n, .slice none 0 0, .slice none 0 0, .slice none 0 0]] w fun e' w' =>
      e' = .returned (.int .i64 0) ∧ TabAt w' B b (q + 1) (M ++ [(c, ⟨num, e, s, n⟩)]) ∧ w.grownBy w' (some b) := by
  have HT := Aside0.mk h
  obtain ⟨hb, D, hown, hrel⟩ := h
  have HO := Aside0.mk hown
  have HB := Aside0.mk hb
  have HNO := Aside0.mk (hrel.no hno)
  have HAT := Aside0.mk (show D.atKey (.int .i64 c) (.held zeroV) = .held zeroV from atKey_of_not_has (hrel.no hno) _)
  have HSZ := Aside0.mk hrel.size
  have HNEW := Aside0.mk (hrel.new (hown.tidy law3) hno ⟨num, e, s, n⟩)
  have HK := Aside0.mk (keyOf_int_mk (P := Try.prog) (k := 3) Try.underlying3 (show (Lit.int .i64 c).wf = true by simp [Lit.wf]; simp [IntKind.min, IntKind.bits]; omega))
  have HC := Aside0.mk hc
  have HN := Aside0.mk hn
  have HQ := Aside0.mk (show q < maxLen by unfold maxLen; omega)
  have hcell : w.cell? ⟨B, 0, none⟩ = some (.map (some b)) := (blk_cell hb 0).trans rfl
  have hlt := blk_lt hb
  have hne := Nat.ne_of_lt hlt
  have hne1 : B ≠ w.heap.size + 1 := by omega
  have hne2 : B ≠ w.heap.size + 1 + 1 := by omega
  have hlt1 : B < w.heap.size + 1 := by omega
  have hlt2 : B < w.heap.size + 1 + 1 := by omega
  have hc3 := fun (o1 o2 o3 : Obj) => (show (((w.alloc o1).alloc o2).alloc o3).cell? ⟨B, 0, none⟩ = some (.map (some b)) from (blk_cell (blk_alloc (blk_alloc (blk_alloc HB.out o1) o2) o3) 0).trans rfl)
  have hlen := fun (o1 o2 o3 : Obj) => (((HO.out.alloc o1).alloc o2).alloc o3).len Try.underlying46 3
  simp only [HSZ.out] at hlen
  have f1 : decide (num ≤ 0) = false := decide_eq_false (by omega)
  have f2 : ((M.length : Int) == 64) = false := beq_eq_false_iff_ne.2 (by omega)
  clear hb hown hrel hno hc hn hl hq
  go_enter Try.func8, Try.ntmps8
  go_wp2_with (first
    | (go_at_call 18; (with_reducible refine (noneC _ B b (by repeat (first | exact HB.out | refine blk_alloc ?_ _))).mono ?_); rintro e1 w1 ⟨rfl, rfl⟩)
    | (go_at_call 19; (with_reducible refine (numberC _ _ c num (by refine blk_at ?_; simp) HC.out HN.out).mono ?_); rintro e1 w1 ⟨rfl, rfl⟩)
    | (at_lookup; refine look_ok_held _ rfl _ _ 46 rfl 3 59 law3 Try.underlying46 zeroV (zero59 _) b q D rfl (by repeat (first | exact HO.out | refine World.ownsMap.alloc ?_ _)) _ (.int .i64 c) rfl HK.out zeroV HAT.out false HNO.out ?_; unfold zeroV)
    | (at_len; refine wpList_len_own _ rfl _ 46 rfl 3 59 Try.underlying46 _ b _ D rfl (by repeat (first | exact HO.out | refine World.ownsMap.alloc ?_ _)) ?_; rw [HSZ.out]))
  obtain ⟨W, hW⟩ : ∃ W, W = ((w.alloc (.cells #[.int .i64 e, .int .i64 s, .int .i64 n, .slice none 0 0, .slice none 0 0, .slice none 0 0] 32)).alloc (.cells #[.int .i64 c, .int .i64 num] 3)).alloc (.cells #[.int .i64 0, .int .i64 0, .int .i64 0, .int .i64 0, .slice none 0 0, .slice none 0 0, .slice none 0 0] 59) := ⟨_, rfl⟩
  rw [← hW]
  have KB := Aside0.mk (show W.heap[B]? = some (.cells #[.map (some b)] 48 (0, 0)) by rw [hW]; exact blk_alloc (blk_alloc (blk_alloc HB.out _) _) _)
  have KR := Aside0.mk (show W.heap[w.heap.size]? = some (.cells #[.int .i64 e, .int .i64 s, .int .i64 n, .slice none 0 0, .slice none 0 0, .slice none 0 0] 32 (0, 0)) by rw [hW]; exact blk_alloc (blk_alloc (heap_alloc_new w _) _) _)
  have KO := Aside0.mk (show W.ownsMap Try.prog 3 RH b q D by rw [hW]; exact ((HO.out.alloc _).alloc _).alloc _)
  have KW := Aside0.mk (show w.grownBy W (some b) by rw [hW]; exact ((World.grownBy_alloc w _ _).trans (World.grownBy_alloc _ _ _)).trans (World.grownBy_alloc _ _ _))
  clear hW hlen hc3 hcell hlt hne hne1 hne2 hlt1 hlt2
  refine start_ (n := 10) (S := fun w' => w'.cell? ⟨B, 0, none⟩ = some (.map (some b)) ∧ w'.cell? ⟨w.heap.size, 0, none⟩ = some (.int .i64 e) ∧ w'.cell? ⟨w.heap.size, 1, none⟩ = some (.int .i64 s) ∧ w'.cell? ⟨w.heap.size, 2, none⟩ = some (.int .i64 n) ∧ w'.cell? ⟨w.heap.size, 3, none⟩ = some (.slice none 0 0) ∧ w'.cell? ⟨w.heap.size, 4, none⟩ = some (.slice none 0 0) ∧ w'.cell? ⟨w.heap.size, 5, none⟩ = some (.slice none 0 0)) (ds := [9]) #[false, false, false, false, false, false, false, false, false, false] (by kernel_rfl) rfl rfl ⟨(blk_cell KB.out 0).trans rfl, (blk_cell KR.out 0).trans rfl, (blk_cell KR.out 1).trans rfl, (blk_cell KR.out 2).trans rfl, (blk_cell KR.out 3).trans rfl, (blk_cell KR.out 4).trans rfl, (blk_cell KR.out 5).trans rfl⟩ (fun hHeld => ?_)
  refine take_ (i := 0) (N := some 45) (v := ?_) (a' := ?_) #[true, false, false, false, false, false, false, false, false, false] rfl rfl (by kernel_rfl) (fun _ _ _ h => h) (Or.inl ⟨by rfl, ?_⟩) hHeld ?_ ?_
  rotate_left
  · rintro w' ⟨s0, s1, s2, s3, s4, s5, s6⟩
    go_simp
    with_reducible rfl
  rotate_left
  · simp only [Act.put, List.setIfInBounds_toArray, List.set_cons_zero, List.set_cons_succ, i64_w, i32_w]
    rfl
  refine take_ (i := 1) (N := some 46) (v := ?_) (a' := ?_) #[true, true, false, false, false, false, false, false, false, false] rfl rfl (by kernel_rfl) (fun _ _ _ h => h) (Or.inl ⟨by rfl, ?_⟩) hHeld ?_ ?_
  rotate_left
  · rintro w' ⟨s0, s1, s2, s3, s4, s5, s6⟩
    go_simp
    with_reducible rfl
  rotate_left
  · simp only [Act.put, List.setIfInBounds_toArray, List.set_cons_zero, List.set_cons_succ, i64_w, i32_w]
    rfl
  refine take_ (i := 2) (N := some 47) (v := ?_) (a' := ?_) #[true, true, true, false, false, false, false, false, false, false] rfl rfl (by kernel_rfl) (fun _ _ _ h => h) (Or.inl ⟨by rfl, ?_⟩) hHeld ?_ ?_
  rotate_left
  · rintro w' ⟨s0, s1, s2, s3, s4, s5, s6⟩
    go_simp
    with_reducible rfl
  rotate_left
  · simp only [Act.put, List.setIfInBounds_toArray, List.set_cons_zero, List.set_cons_succ, i64_w, i32_w]
    rfl
  refine take_ (i := 3) (N := some 48) (v := ?_) (a' := ?_) #[true, true, true, true, false, false, false, false, false, false] rfl rfl (by kernel_rfl) (fun _ _ _ h => h) (Or.inl ⟨by rfl, ?_⟩) hHeld ?_ ?_
  rotate_left
  · rintro w' ⟨s0, s1, s2, s3, s4, s5, s6⟩
    go_simp
    with_reducible rfl
  rotate_left
  · simp only [Act.put, List.setIfInBounds_toArray, List.set_cons_zero, List.set_cons_succ, i64_w, i32_w]
    rfl
  refine take_ (i := 4) (N := some 49) (v := ?_) (a' := ?_) #[true, true, true, true, true, false, false, false, false, false] rfl rfl (by kernel_rfl) (fun _ _ _ h => h) (Or.inl ⟨by rfl, ?_⟩) hHeld ?_ ?_
  rotate_left
  · rintro w' ⟨s0, s1, s2, s3, s4, s5, s6⟩
    go_simp
    with_reducible rfl
  rotate_left
  · simp only [Act.put, List.setIfInBounds_toArray, List.set_cons_zero, List.set_cons_succ, i64_w, i32_w]
    rfl
  refine take_ (i := 5) (N := some 50) (v := ?_) (a' := ?_) #[true, true, true, true, true, true, false, false, false, false] rfl rfl (by kernel_rfl) (fun _ _ _ h => h) (Or.inl ⟨by rfl, ?_⟩) hHeld ?_ ?_
  rotate_left
  · rintro w' ⟨s0, s1, s2, s3, s4, s5, s6⟩
    go_simp
    with_reducible rfl
  rotate_left
  · simp only [Act.put, List.setIfInBounds_toArray, List.set_cons_zero, List.set_cons_succ, i64_w, i32_w]
    rfl
  refine take_ (i := 6) (N := some 51) (v := ?_) (a' := ?_) #[true, true, true, true, true, true, true, false, false, false] rfl rfl (by kernel_rfl) (fun _ _ _ h => h) (Or.inl ⟨by rfl, ?_⟩) hHeld ?_ ?_
  rotate_left
  · rintro w' ⟨s0, s1, s2, s3, s4, s5, s6⟩
    go_simp
    with_reducible rfl
  rotate_left
  · simp only [Act.put, List.setIfInBounds_toArray, List.set_cons_zero, List.set_cons_succ, i64_w, i32_w]
    rfl
  refine one_ (i := 7) (N := some 52) #[true, true, true, true, true, true, true, true, false, false] rfl rfl (by kernel_rfl) (by decide) (fun K hK => ?_)
  refine goes_ Try.func20 (by kernel_rfl) rfl #[.agg #[.int .i64 e, .int .i64 s, .int .i64 n, .slice none 0 0, .slice none 0 0, .slice none 0 0]] (by rfl) rfl rfl (by (try simp only [List.map_toArray, List.map_cons, List.map_nil]); first | done | rfl) ?_
  with_reducible refine (ownC e s n _).mono ?_
  rintro e1 w5 ⟨rfl, hb5_⟩
  have hb5 : Below W.heap.size W w5 := ⟨hb5_.os, hb5_.tape, hb5_.output, hb5_.size, hb5_.block⟩
  clear hb5_
  refine ⟨_, rfl, ?_⟩
  have KB5 := Aside0.mk (blk_below KB.out hb5)
  have KR5 := Aside0.mk (blk_below KR.out hb5)
  have KO5 := Aside0.mk (owns_below KO.out hb5)
  have HB5 := Aside0.mk hb5
  refine hK.out _ _ ⟨(blk_cell KB5.out 0).trans rfl, (blk_cell KR5.out 0).trans rfl, (blk_cell KR5.out 1).trans rfl, (blk_cell KR5.out 2).trans rfl, (blk_cell KR5.out 3).trans rfl, (blk_cell KR5.out 4).trans rfl, (blk_cell KR5.out 5).trans rfl⟩ ?_
  intro hHeld
  clear hK K hb5
  refine norm_ (a' := ?_) ?_ ?_
  rotate_left
  · show Act.put _ (some 52) _ = _
    simp only [Act.put, List.setIfInBounds_toArray, List.set_cons_zero, List.set_cons_succ, i64_w, i32_w]
    rfl
  refine take_ (i := 8) (N := some 53) (v := ?_) (a' := ?_) #[true, true, true, true, true, true, true, true, true, false] rfl rfl (by kernel_rfl) (fun _ _ _ h => h) (Or.inl ⟨by rfl, ?_⟩) hHeld ?_ ?_
  rotate_left
  · rintro w' ⟨s0, s1, s2, s3, s4, s5, s6⟩
    go_simp
    with_reducible rfl
  rotate_left
  · simp only [Act.put, List.setIfInBounds_toArray, List.set_cons_zero, List.set_cons_succ, i64_w, i32_w]
    rfl
  refine last_ (i := 9) (N := none) #[true, true, true, true, true, true, true, true, true, true] rfl rfl (by kernel_rfl) (by decide) (fun K hK => ?_)
  obtain ⟨w6, hrun, hown6, hgrow6⟩ := KO5.out.update law3 Try.underlying46 HQ.out HK.out (show RH (laV ⟨num, e, s, n⟩) = some (.held (laV ⟨num, e, s, n⟩), []) from rfl)
  refine skip_ (w1 := w6) (by rfl) rfl ?_ ?_
  · unfold laV at hrun
    simp only [execOp, Act.eval, Act.put, List.setIfInBounds_toArray, List.set_cons_zero, List.set_cons_succ]
    go_simp
  · refine hK.out _ _ ?_
    refine done_ (by kernel_rfl) ?_
    go_wp2
    go_ret
    have hlt5 := KB5.out
    have hT := HT.out.lt
    have hg : w.grownBy w6 (some b) := (KW.out.trans (show W.grownBy w5 (some b) from ⟨HB5.out.os, HB5.out.tape, HB5.out.output, HB5.out.size, fun k hk _ => HB5.out.block k hk⟩)).trans hgrow6
    refine ⟨rfl, ⟨?_, _, hown6, HNEW.out⟩, hg⟩
    exact (hg.block B hT.1 (fun e => hT.2.2 (Option.some.inj e))).trans HB.out
end Go.Proofs.Ythelhieeplfffaa.P
