-- Cut down and merged by the session's own program (wip/tools/prune.py): WTab, WApart, WFoot, WKept, WShare, WN, WAt, WEqStruct, WRepsOne, WGuard, WMore, P0, HMap, P23, FA, FW, SepA, SepB, FB, FC, FD, FE, FClone, FF, P5, GA, GB.
import Derived.Test.YtonedijkgddepaaSq
import Derived.Test.YtonedijkgddepaaWLast
import Derived.Test.YtonedijkgddepaaWWords
import Derived.Laws.StructEq
import Derived.Test.YtonedijkgddepaaProg
import Derived.Below
import Derived.Deep.Draws
import Derived.Deep.AppendLies
import Derived.Maps.AppendAt
import Derived.OwnWalk
import Derived.Laws.BytesArg
import Derived.Laws.MakeOwn
import Derived.Laws.OwnMore
import Derived.Deep.OwnRows
import Derived.Tactics
import Derived.Lib.ConvBytes
import Derived.Laws.Slices
import Derived.WalkKit
import Derived.KernelRfl
import Derived.RowKit3
import Derived.Deep.LoopGhost
import Derived.Deep.QuietTactic
import Derived.BigQuiet
import Derived.WideLaws
import Derived.Deep.DeepCutAuto
import Derived.Deep.CutBlock
import Derived.Deep.RegionHeld3
import Derived.Laws.Rows
import Derived.Lib.AppendStr
import Derived.ArgAppend
import Derived.Laws.IdiomCopy
import Derived.OrdersHeld
import Derived.Laws.BitsLemmas
import Derived.RowKit
import Derived.Maps.OwnSet
import Derived.Maps.OwnOps
import Derived.WalkSpells
import Derived.StillTailTactics
import Derived.Deep.MidRow
namespace Go.Proofs.YtonedijkgddepaaW.PrintLast
open Go.Sq
open Go.Proofs.YtonedijkgddepaaW.PrintWords (Aside0)
def needsOf (md : Region.Mode) (o : Oper) : List Nat := (o.after.toList.filter (fun e => Region.binds md e)).map (fun e => e.on)
def clashOf (md : Region.Mode) (ops : Array Oper) (i : Nat) (oi : Oper) : List Nat := (List.range ops.size).filter fun j => !(j == i) && match ops[j]? with
 | some oj => !(oj.after.any (fun e => Region.binds md e && e.on == i) || oi.apart ops oj)
 | none => false
/-- No select in it; for each operation: what must have come up before it, and what may not come up behind it if it is taken first. -/
def rtab (md : Region.Mode) (ops : Array Oper) : Bool × List (List Nat × List Nat) := (Region.noSelect ops, (List.range ops.size).map fun i => match ops[i]? with
 | some o => (needsOf md o, clashOf md ops i o)
 | none => ([], []))
def readyAt (T : List (List Nat × List Nat)) (l : List Bool) (i : Nat) : Bool := !l.getD i true && match T[i]? with
 | some r => r.1.all (fun j => l.getD j false)
 | none => false
def readyT (T : List (List Nat × List Nat)) (l : List Bool) : List Nat := (List.range T.length).filter (readyAt T l)
def freeT (T : List (List Nat × List Nat)) (l : List Bool) (i : Nat) : Bool := match T[i]? with
 | some r => r.2.all (fun j => l.getD j true)
 | none => false
def closedT (T : List (List Nat × List Nat)) (l : List Bool) : Bool := (List.range T.length).all fun j => !l.getD j false || match T[j]? with
 | some r => r.1.all (fun k => l.getD k false)
 | none => true
def reachT (T : List (List Nat × List Nat)) (i : Nat) : Nat → Nat → Bool
 | 0, _ => false
 | fuel + 1, d => match T[d]? with
  | some r => r.1.any fun j => j == i || reachT T i fuel j
  | none => false
def lastT (T : List (List Nat × List Nat)) (l : List Bool) (ds : List Nat) (i : Nat) : Bool := ds.all fun d => l.getD d true || reachT T i T.length d
section
variable {md : Region.Mode} {ops : Array Oper} {T : Bool × List (List Nat × List Nat)} {l l' li lj lk : Array Bool} {ds : List Nat} {i j k : Nat}
theorem gd (l : Array Bool) (j : Nat) (b : Bool) : l.getD j b = l.toList.getD j b := by simp [Array.getD_eq_getD_getElem?, List.getD_eq_getElem?_getD]
theorem needs_all (o : Oper) (p : Nat → Bool) : o.after.all (fun e => !Region.binds md e || p e.on) = (needsOf md o).all p := by
 unfold needsOf
 rw [← Array.all_toList]
 induction o.after.toList with
 | nil => rfl
 | cons e r ih =>
  rw [List.all_cons, ih, List.filter_cons]
  cases h : Region.binds md e <;> simp
theorem needs_any (o : Oper) (p : Nat → Bool) : o.after.any (fun e => Region.binds md e && p e.on) = (needsOf md o).any p := by
 unfold needsOf
 rw [← Array.any_toList]
 induction o.after.toList with
 | nil => rfl
 | cons e r ih =>
  rw [List.any_cons, ih, List.filter_cons]
  cases h : Region.binds md e <;> simp
theorem rtab_length : (rtab md ops).2.length = ops.size := by simp [rtab]
theorem rtab_some {o : Oper} (h : ops[i]? = some o) : (rtab md ops).2[i]? = some (needsOf md o, clashOf md ops i o) := by
 have hi := (Array.getElem?_eq_some_iff.1 h).1
 unfold rtab
 rw [List.getElem?_map, List.getElem?_range hi, Option.map_some, h]
theorem rtab_none (h : ops[i]? = none) : (rtab md ops).2[i]? = none := by
 have hi : ops.size ≤ i := Array.getElem?_eq_none_iff.1 h
 exact List.getElem?_eq_none (by rw [rtab_length]; exact hi)
theorem readyAt_eq : readyAt (rtab md ops).2 l.toList i = (!l.getD i true && ((ops[i]?).map (·.after.all fun e => !Region.binds md e || l.getD e.on false)).getD false) := by
 unfold readyAt
 rw [gd]
 cases h : ops[i]? with
 | none => rw [rtab_none h]; rfl
 | some o =>
  rw [rtab_some h]
  simp only [Option.map_some, Option.getD_some]
  rw [← needs_all]
  simp only [gd]
theorem ready_eq : Region.ready md ops l = readyT (rtab md ops).2 l.toList := by
 unfold Region.ready readyT
 rw [rtab_length]
 refine List.filter_congr (fun i _ => ?_)
 rw [readyAt_eq]
theorem free_eq : Region.free md ops l i = freeT (rtab md ops).2 l.toList i := by
 unfold Region.free freeT
 cases h : ops[i]? with
 | none => rw [rtab_none h]
 | some oi =>
  rw [rtab_some h]
  simp only [clashOf]
  rw [List.all_filter]
  congr 1
  funext j
  rw [gd]
  cases hj : ops[j]? with
  | none => cases (j == i) <;> cases (l.toList.getD j true) <;> simp
  | some oj =>
   cases (j == i) <;> cases (l.toList.getD j true) <;> cases (oj.after.any (fun e => Region.binds md e && e.on == i) || oi.apart ops oj) <;> simp_all
theorem closed_eq : Region.closedB md ops l = closedT (rtab md ops).2 l.toList := by
 unfold Region.closedB closedT
 rw [rtab_length]
 congr 1
 funext j
 rw [gd]
 cases h : ops[j]? with
 | none => rw [rtab_none h]
 | some o =>
  rw [rtab_some h]
  simp only
  rw [← needs_all]
  simp only [gd]
theorem reach_eq : ∀ (fuel d : Nat), Region.reachB md ops i fuel d = reachT (rtab md ops).2 i fuel d
 | 0, _ => rfl
 | fuel + 1, d => by
  unfold Region.reachB reachT
  cases h : ops[d]? with
  | none => rw [rtab_none h]
  | some o =>
   rw [rtab_some h]
   simp only
   rw [← needs_any]
   congr 1
   funext e
   rw [reach_eq fuel]
theorem last_eq : Region.lastB md ops l ds i = lastT (rtab md ops).2 l.toList ds i := by
 unfold Region.lastB lastT
 rw [rtab_length]
 congr 1
 funext d
 rw [gd, reach_eq]
theorem readyAt_mem (h : readyAt T.2 l.toList i = true) (hT : rtab md ops = T) : (Region.ready md ops l).contains i = true := by
 subst hT
 rw [ready_eq]
 unfold readyT
 rw [List.contains_iff_mem, List.mem_filter, List.mem_range]
 refine ⟨?_, h⟩
 unfold readyAt at h
 rw [Bool.and_eq_true] at h
 cases hq : (rtab md ops).2[i]? with
 | none => rw [hq] at h; simp at h
 | some r => exact (List.getElem?_eq_some_iff.1 hq).1
theorem set_of (h : (l.toList.set i true == l'.toList) = true) : (l.setIfInBounds i true == l') = true := by
 rw [beq_iff_eq] at h ⊢
 apply Array.ext'
 rw [Array.toList_setIfInBounds]
 exact h
def anyT (T : Bool × List (List Nat × List Nat)) (l l' : List Bool) (i : Nat) : Bool := T.1 && freeT T.2 l i && readyAt T.2 l i && (l.set i true == l')
/-- pure_'s condition out of the table. -/
theorem any_of (hT : rtab md ops = T) (h : anyT T l.toList l'.toList i = true) : anyB md ops l l' i = true := by
 simp only [anyT, Bool.and_eq_true] at h
 obtain ⟨⟨⟨h1, h2⟩, h3⟩, h4⟩ := h
 have h5 := readyAt_mem h3 hT
 have h6 := set_of h4
 subst hT
 simp only [anyB, Bool.and_eq_true]
 exact ⟨⟨⟨h1, by rw [free_eq]; exact h2⟩, h5⟩, h6⟩
def takeT (T : Bool × List (List Nat × List Nat)) (ds : List Nat) (l l' : List Bool) (i : Nat) : Bool := T.1 && freeT T.2 l i && readyAt T.2 l i && closedT T.2 l && lastT T.2 l ds i && (l.set i true == l')
/-- take_'s. -/
theorem take_of (hT : rtab md ops = T) (h : takeT T ds l.toList l'.toList i = true) : takeB md ops ds l l' i = true := by
 simp only [takeT, Bool.and_eq_true] at h
 obtain ⟨⟨⟨⟨⟨h1, h2⟩, h3⟩, h4⟩, h5⟩, h6⟩ := h
 have h7 := readyAt_mem h3 hT
 have h8 := set_of h6
 subst hT
 simp only [takeB, Bool.and_eq_true]
 exact ⟨⟨⟨⟨⟨h1, by rw [free_eq]; exact h2⟩, h7⟩, by rw [closed_eq]; exact h4⟩, by rw [last_eq]; exact h5⟩, h8⟩
/-- one_'s and last_'s. -/
theorem one_of (hT : rtab md ops = T) (h : (readyT T.2 l.toList == [i] && l.toList.set i true == l'.toList) = true) : readyB md ops l l' i = true := by
 simp only [Bool.and_eq_true] at h
 obtain ⟨h1, h2⟩ := h
 subst hT
 simp only [readyB, Bool.and_eq_true]
 exact ⟨by rw [ready_eq]; exact h1, set_of h2⟩
/-- done_'s. -/
theorem done_of (hT : rtab md ops = T) (h : (readyT T.2 l.toList == []) = true) : (Region.ready md ops l == []) = true := by
 subst hT
 rw [ready_eq]
 exact h
/-- What d waits for, as_ bits: told in the table (B), checked in one pass: each bit is a need of d, or a bit of an earlier need's. -/
def upM (B : List Nat) (d : Nat) : List Nat → Nat
 | [] => 0
 | n :: r => (2 ^ n ||| (if n < d then B.getD n 0 else 0)) ||| upM B d r
def waitsOk (T : List (List Nat × List Nat)) (B : List Nat) : Bool := (List.range T.length).all fun d => match T[d]? with
 | some r => (B.getD d 0 ||| upM B d r.1) == upM B d r.1
 | none => false
theorem upM_bit {B : List Nat} {d i : Nat} : ∀ {ns : List Nat}, (upM B d ns).testBit i = true → ∃ n ∈ ns, n = i ∨ (n < d ∧ (B.getD n 0).testBit i = true)
 | [], h => by simp [upM] at h
 | n :: r, h => by
  unfold upM at h
  rw [Nat.testBit_or, Nat.testBit_or, Bool.or_eq_true, Bool.or_eq_true] at h
  rcases h with (h | h) | h
  ·rw [Nat.testBit_two_pow] at h
   exact ⟨n, List.mem_cons_self, .inl (by simpa using h)⟩
  ·by_cases hn : n < d
   ·rw [if_pos hn] at h
    exact ⟨n, List.mem_cons_self, .inr ⟨hn, h⟩⟩
   ·rw [if_neg hn] at h
    simp at h
  ·obtain ⟨m, hm, h2⟩ := upM_bit h
   exact ⟨m, List.mem_cons_of_mem _ hm, h2⟩
theorem reach_bit {T : List (List Nat × List Nat)} {B : List Nat} (hB : waitsOk T B = true) : ∀ (fuel d : Nat), d < fuel → d < T.length → (B.getD d 0).testBit i = true → reachT T i fuel d = true
 | 0, d, h, _, _ => by omega
 | fuel + 1, d, h, hd, hb => by
  have h1 := List.all_eq_true.1 hB d (List.mem_range.2 hd)
  cases hr : T[d]? with
  | none => rw [hr] at h1; simp at h1
  | some r =>
   rw [hr] at h1
   simp only [beq_iff_eq] at h1
   have h2 : (upM B d r.1).testBit i = true := by rw [← h1, Nat.testBit_or, hb, Bool.true_or]
   obtain ⟨n, hn, h3⟩ := upM_bit h2
   unfold reachT
   rw [hr]
   simp only
   rw [List.any_eq_true]
   refine ⟨n, hn, ?_⟩
   rcases h3 with rfl | ⟨h4, h5⟩
   ·simp
   ·rw [reach_bit hB fuel n (by omega) (by omega) h5, Bool.or_true]
def lastW (T : List (List Nat × List Nat)) (B : List Nat) (l : List Bool) (ds : List Nat) (i : Nat) : Bool := ds.all fun d => l.getD d true || (decide (d < T.length) && (B.getD d 0).testBit i)
def takeW (T : Bool × List (List Nat × List Nat)) (B : List Nat) (ds : List Nat) (l l' : List Bool) (i : Nat) : Bool := T.1 && freeT T.2 l i && readyAt T.2 l i && closedT T.2 l && lastW T.2 B l ds i && (l.set i true == l')
/-- take_'s, by the bits. -/
theorem take_ofW {B : List Nat} (hT : rtab md ops = T) (hB : waitsOk T.2 B = true) (h : takeW T B ds l.toList l'.toList i = true) : takeB md ops ds l l' i = true := by
 refine take_of hT ?_
 simp only [takeW, takeT, Bool.and_eq_true] at h ⊢
 obtain ⟨⟨⟨⟨⟨h1, h2⟩, h3⟩, h4⟩, h5⟩, h6⟩ := h
 refine ⟨⟨⟨⟨⟨h1, h2⟩, h3⟩, h4⟩, ?_⟩, h6⟩
 unfold lastW at h5
 unfold lastT
 rw [List.all_eq_true] at h5 ⊢
 intro d hd
 have h7 := h5 d hd
 rw [Bool.or_eq_true, Bool.and_eq_true, decide_eq_true_eq] at h7
 rcases h7 with h7 | ⟨h8, h9⟩
 ·rw [h7, Bool.true_or]
 ·rw [reach_bit hB _ d h8 h8 h9, Bool.or_true]
theorem with_tabW {P : Program} {Q : Exit → Act → World → Prop} {S : World → Prop} {n : Nat} {a : Act} {w : World} {B : List Nat} (hT : rtab md ops = T) (hB : waitsOk T.2 B = true) (h : Aside0 (rtab md ops = T) → Aside0 (waitsOk T.2 B = true) → wpAnyLast P md ops Q S ds n l a w) : wpAnyLast P md ops Q S ds n l a w := h ⟨hT⟩ ⟨hB⟩
end
/-- The operations of a region, by its number. -/
def opsIn : Code → Nat → Option (Array Oper)
 | .region id ops _, k => if id == k then some ops else none
 | .seq a b, k => match opsIn a k with
  | some o => some o
  | none => opsIn b k
 | .cond _ a b, k => match opsIn a k with
  | some o => some o
  | none => opsIn b k
 | .block _ c, k => opsIn c k
 | .loop c, k => opsIn c k
 | .scope c, k => opsIn c k
 | .rangeFunc _ _ a b, k => match opsIn a k with
  | some o => some o
  | none => opsIn b k
 | _, _ => none
def opsOf (f : Func) (k : Nat) : Array Oper := ((f.body.bind fun c => opsIn c k)).getD #[]
end Go.Proofs.YtonedijkgddepaaW.PrintLast
namespace Go.Proofs.YtonedijkgddepaaW.PrintWords
open Go.Sq
open Go.RowKit
namespace Kd
/-- An element with its index: its blocks are those that f gives to it. -/
def tag {α : Type} (f : Nat → Nat) (d : Kd α) : Kd (α × Nat) where
 sz := d.sz
 E := d.E
 K := fun w x cs => d.K w x.1 cs
 M := fun w base ok x cs => d.M w base (fun k => ok k ∧ f k = x.2) x.1 cs
 K_len := fun h => d.K_len h
 K_one := fun h => d.K_one h
 K_below := fun hb h => d.K_below hb h
 K_of_M := fun h => d.K_of_M h
 M_mono := fun hok h => d.M_mono (fun k hk => ⟨hok k hk.1, hk.2⟩) h
 M_bound := fun h => d.M_mono (fun _ hk => ⟨⟨hk.1.1, hk.2⟩, hk.1.2⟩) (d.M_bound h)
 M_move := fun hm h => d.M_move (fun k hk => hm k hk.1) h
 M_lower := fun hb h => d.M_lower hb h
/-- The cells themselves. -/
def raw (sz : Nat) : Kd (List Value) where
 sz := sz
 E := []
 K := fun _ x cs => cs = x ∧ cs.length = sz ∧ ∀ u ∈ cs, u.oneCell' = true
 M := fun _ _ _ x cs => cs = x ∧ cs.length = sz ∧ ∀ u ∈ cs, u.oneCell' = true
 K_len := fun h => h.2.1
 K_one := fun h => h.2.2
 K_below := fun _ h => h
 K_of_M := fun h => h
 M_mono := fun _ h => h
 M_bound := fun h => h
 M_move := fun _ h => h
 M_lower := fun _ h => h
/-- A row of elements (type e) of the call's own, no two of which lead to one block. -/
def S {α : Type} (d : Kd α) (e : Nat) (w : World) (base : Nat) (ok : Nat → Prop) (v : Value) (xs : List α) : Prop := ∃ f, (tag f d).R e w base ok v xs.zipIdx
section
variable {α β : Type} {d : Kd α} {d' : Kd β} {e e' : Nat} {w w1 W : World} {base b : Nat} {ok ok' okv oku : Nat → Prop} {u v : Value} {xs : List α} {ys : List β}
/-- A row whose elements lead to nothing: its blocks are its own one. -/
theorem R_tight (hE : d.E = []) (h : d.R e w base ok v xs) : d.R e w base (fun k => some k = v.ownBlock) v xs := by
 obtain ⟨h0, inner, ho, hr⟩ := h
 refine ⟨fun k hk => hk.symm, inner, ho, hr.imp_ (fun p c hp => d.M_mono (fun k hk => ?_) (d.M_bound hp))⟩
 obtain ⟨_, _, _, q, hq, _⟩ := hk
 rw [hE] at hq
 cases hq
theorem S_nil (d : Kd α) (e : Nat) (w : World) (base : Nat) (ok : Nat → Prop) : S d e w base ok (.slice none 0 0) [] := ⟨fun _ => 0, R_nil _ _ _ _ _⟩
end
section
variable {α β : Type} {d : Kd α} {d' : Kd β} {e e' g : Nat} {w w1 W : World} {base b : Nat} {ok ok' okv oku : Nat → Prop} {u v : Value} {xs : List α} {ys : List β}
end
section
variable {P : Program} {ops : Array Oper} {rest : List Oper} {o : Oper} {a : Act} {Q : Exit → Act → World → Prop} {Kc : Act → World → Prop} {α : Type}
end
/-- Element i is these cells; the others are d's. -/
def gap {α : Type} (f : Nat → Nat) (d : Kd α) (i : Nat) (c : List Value) : Kd (α × Nat) where
 sz := d.sz
 E := d.E
 K := fun w x cs => (x.2 = i → cs = c ∧ cs.length = d.sz ∧ ∀ u ∈ cs, u.oneCell' = true) ∧ (x.2 ≠ i → d.K w x.1 cs)
 M := fun w base ok x cs => (x.2 = i → cs = c ∧ cs.length = d.sz ∧ ∀ u ∈ cs, u.oneCell' = true) ∧ (x.2 ≠ i → d.M w base (fun k => ok k ∧ f k = x.2) x.1 cs)
 K_len := fun {w x cs} h => by
  by_cases hx : x.2 = i
  ·exact (h.1 hx).2.1
  ·exact d.K_len (h.2 hx)
 K_one := fun {w x cs} h => by
  by_cases hx : x.2 = i
  ·exact (h.1 hx).2.2
  ·exact d.K_one (h.2 hx)
 K_below := fun hb h => ⟨h.1, fun hx => d.K_below hb (h.2 hx)⟩
 K_of_M := fun h => ⟨h.1, fun hx => d.K_of_M (h.2 hx)⟩
 M_mono := fun hok h => ⟨h.1, fun hx => d.M_mono (fun k hk => ⟨hok k hk.1, hk.2⟩) (h.2 hx)⟩
 M_bound := fun h => ⟨h.1, fun hx => d.M_mono (fun _ hk => ⟨⟨hk.1.1, hk.2⟩, hk.1.2⟩) (d.M_bound (h.2 hx))⟩
 M_move := fun hm h => ⟨h.1, fun hx => d.M_move (fun k hk => hm k hk.1) (h.2 hx)⟩
 M_lower := fun hb h => ⟨h.1, fun hx => d.M_lower hb (h.2 hx)⟩
def H {α : Type} (d : Kd α) (e : Nat) (w : World) (base : Nat) (ok : Nat → Prop) (v : Value) (xs : List α) (i : Int) (oki : Nat → Prop) (c : List Value) : Prop :=
 (∀ k, oki k → ok k) ∧ ∃ f, (gap f d i.toNat c).R e w base (fun k => ok k ∧ ¬ oki k) v xs.zipIdx
section
variable {α β : Type} {d : Kd α} {e e' g n cap : Nat} {w w1 W : World} {base : Nat} {ok ok' oki okp : Nat → Prop} {u v : Value} {xs : List α} {i : Int} {c : List Value}
end
section
variable {P : Program} {ops : Array Oper} {rest : List Oper} {o : Oper} {a : Act} {Q : Exit → Act → World → Prop} {α : Type}
end
end Kd
end Go.Proofs.YtonedijkgddepaaW.PrintWords
namespace Go.Proofs.YtonedijkgddepaaW.PrintWords
open Go.Sq
open Go.RowKit
namespace Kd
/-- What a kind reads lies in the blocks: nothing else of the world is looked at. -/
structure Heap {α : Type} (d : Kd α) : Prop where
 K : ∀ {w w1 : World} {x : α} {cs : List Value}, (∀ k, k < w.heap.size → w1.heap[k]? = w.heap[k]?) → d.K w x cs → d.K w1 x cs
theorem cell_heap {w w1 : World} (hb : ∀ k, k < w.heap.size → w1.heap[k]? = w.heap[k]?) {a : Addr} {v : Value} (h : w.cell? a = some v) : w1.cell? a = some v := by
 have := hb a.block (World.block_lt_of_cell? w a h)
 simpa [World.cell?, this] using h
theorem Heap.C {α : Type} {d : Kd α} (hd : Heap d) {w w1 : World} {A : Option Addr} {n : Nat} {xs : List α} (hb : ∀ k, k < w.heap.size → w1.heap[k]? = w.heap[k]?) (h : d.C w A n xs) : d.C w1 A n xs :=
 ⟨h.1, h.2.1, fun hn => by
  obtain ⟨ad, e, hc⟩ := h.2.2 hn
  refine ⟨ad, e, fun j p hj => ?_⟩
  obtain ⟨c, hs, hr, hcell⟩ := hc j p hj
  exact ⟨c, hs, hd.K hb hr, fun i u hu => cell_heap hb (hcell i u hu)⟩⟩
theorem heap_int (k : IntKind) : Heap (Kd.int k) := ⟨fun _ h => h⟩
theorem heap_string : Heap Kd.string := ⟨fun _ h => h⟩
theorem heap_pair {α β : Type} {a : Kd α} {b : Kd β} (ha : Heap a) (hb' : Heap b) : Heap (pair a b) := ⟨by
 rintro w w1 x cs hb ⟨c0, c1, rfl, h0, h1⟩
 exact ⟨c0, c1, rfl, ha.K hb h0, hb'.K hb h1⟩⟩
theorem heap_iso {α β : Type} {d : Kd α} (f : β → α) (hd : Heap d) : Heap (iso d f) := ⟨fun hb h => hd.K hb h⟩
section
variable {α : Type} {d : Kd α} {e base g n c : Nat} {ok : Nat → Prop} {w w0 W : World} {A : Option Addr} {xs : List α}
end
end Kd
end Go.Proofs.YtonedijkgddepaaW.PrintWords
namespace Go.Proofs.YtonedijkgddepaaW.PrintWords
open Go.Sq
open Go.RowKit
def Kept (w W : World) (S : Nat → Prop) : Prop := w.heap.size ≤ W.heap.size ∧ ∀ i, i < w.heap.size → ¬ S i → W.heap[i]? = w.heap[i]?
section
variable {w W W2 : World} {S S2 S' : Nat → Prop}
theorem Kept.refl (w : World) (S : Nat → Prop) : Kept w w S := ⟨Nat.le_refl _, fun _ _ _ => rfl⟩
theorem Kept.of_below (h : Below w.heap.size w W) (S : Nat → Prop) : Kept w W S := ⟨h.size, fun i hi _ => h.block i hi⟩
theorem Kept.mono (h : Kept w W S) (hs : ∀ k, S k → S' k) : Kept w W S' := ⟨h.1, fun i hi hn => h.2 i hi (fun hk => hn (hs i hk))⟩
theorem Kept.then_ (h : Kept w W S) (k : Kept W W2 S2) (hs : ∀ k, S2 k → S k ∨ w.heap.size ≤ k) : Kept w W2 S :=
 ⟨Nat.le_trans h.1 k.1, fun i hi hn => (k.2 i (Nat.lt_of_lt_of_le hi h.1) (fun h2 => (hs i h2).elim hn (fun h3 => by omega))).trans (h.2 i hi hn)⟩
theorem Kept.of_grown {row : Option Nat} (hg : W.grownBy W2 row) (h : Kept w W S) (hr : ∀ k, row = some k → S k ∨ w.heap.size ≤ k) : Kept w W2 S :=
 h.then_ (S2 := fun k => row = some k) ⟨hg.size, fun i hi hn => hg.block i hi (fun he => hn he.symm)⟩ hr
theorem Kept.below (h : Kept w W S) (hb : Below W.heap.size W W2) : Kept w W2 S := h.then_ (Kept.of_below hb (fun _ => False)) (fun _ hk => hk.elim)
theorem Kept.alloc (h : Kept w W S) (o : Obj) : Kept w (W.alloc o) S := h.below (below_alloc (Below.refl _ _) o)
theorem Kept.drew (h : Kept w W S) : Kept w W.drew S := h
theorem Kept.drewN (h : Kept w W S) (m : Nat) : Kept w (W.drewN m) S := h
theorem Kept.setCell (h : Kept w W S) {p : Addr} (hp : S p.block ∨ w.heap.size ≤ p.block) (u : Value) : Kept w (W.setCell p u) S :=
 h.then_ (S2 := fun k => k = p.block) ⟨by simp [World.setCell], fun i _ hn => Below.heap_setCell W p u i hn⟩ (fun k hk => by rw [hk]; exact hp)
/-- Beside a state: what was written is new since. -/
theorem Kept.keep {g : Nat} (h : KeepBut w W g none) (k : Kept W W2 S2) (hs : ∀ k, S2 k → w.heap.size ≤ k) : KeepBut w W2 g none :=
 ⟨Nat.le_trans h.1 k.1, fun i hi hg hr => (k.2 i (Nat.lt_of_lt_of_le hi h.1) (fun h2 => by have := hs i h2; omega)).trans (h.2 i hi hg hr)⟩
theorem blk_kept {g : Nat} {o : Obj} (hb : W.heap[g]? = some o) (hk : Kept W W2 S) (hne : ¬ S g) : W2.heap[g]? = some o := (hk.2 g (blk_lt hb) hne).trans hb
end
namespace Kd
section
variable {α : Type} {d : Kd α} {e base n c : Nat} {ok oki S S2 : Nat → Prop} {w w0 W W1 W2 : World} {v : Value} {A : Option Addr} {xs : List α} {i : Int} {cs : List Value}
theorem R_kept (h : d.R e W base ok v xs) (hk : Kept W W2 S) (hne : ∀ k, ok k → ¬ S k) : d.R e W2 base ok v xs := R_step h (fun k ho hlt => hk.2 k hlt (hne k ho))
/-- A row of the call's own, apart from what is written. -/
theorem C_kept_own (h : d.R e W base ok (.slice A n c) xs) (hok : ∀ k, ok k → ¬ S k) : ∀ W', Kept W W' S → d.C W' A n xs := fun W' hk => by
 have h2 := R_reads' (R_kept h hk hok)
 rw [h2.1]
 exact h2.2.2
theorem C_kept_now (h : ∀ W', Kept w W' S → d.C W' A n xs) (hk : Kept w W S) : d.C W A n xs := h W hk
end
end Kd
end Go.Proofs.YtonedijkgddepaaW.PrintWords
namespace Go.Proofs.YtonedijkgddepaaW.PrintWords
open Go.Sq
open Go.RowKit
/-- P holds in W and in every world that has W's blocks of ok. -/
def Foot (P : World → Prop) (W : World) (ok : Nat → Prop) : Prop := ∀ W' : World, (∀ k, ok k → k < W.heap.size → W'.heap[k]? = W.heap[k]?) → P W'
theorem heap_lt {W W1 : World} {k : Nat} (h : W1.heap[k]? = W.heap[k]?) (hlt : k < W.heap.size) : k < W1.heap.size := by
 rw [Array.getElem?_eq_getElem hlt] at h
 exact (Array.getElem?_eq_some_iff.1 h).1
namespace Foot
variable {P Q : World → Prop} {W W1 : World} {ok ok' : Nat → Prop}
theorem mono (h : Foot P W ok) (hok : ∀ k, ok k → ok' k) : Foot P W ok' := fun W' hW => h W' (fun k hk hlt => hW k (hok k hk) hlt)
theorem bound (h : Foot P W ok) : Foot P W (fun k => ok k ∧ k < W.heap.size) := fun W' hW => h W' (fun k hk hlt => hW k ⟨hk, hlt⟩ hlt)
theorem step (h : Foot P W ok) (hm : ∀ k, ok k → k < W.heap.size → W1.heap[k]? = W.heap[k]?) : Foot P W1 ok := fun W' hW => h W' (fun k hk hlt => (hW k hk (heap_lt (hm k hk hlt) hlt)).trans (hm k hk hlt))
theorem imp (h : Foot P W ok) (hi : ∀ W', P W' → Q W') : Foot Q W ok := fun W' hW => hi W' (h W' hW)
/-- Moved, and still elder than what is new since W. -/
theorem old (h : Foot P W ok) (hb : Below W.heap.size W W1) : Foot P W1 (fun k => ok k ∧ k < W.heap.size) := (h.bound).step (fun k _ hlt => hb.block k hlt)
end Foot
namespace Kd
/-- A row that is only read: what it leads to lies in ok. -/
def F {α : Type} (d : Kd α) (W : World) (ok : Nat → Prop) (A : Option Addr) (n : Nat) (xs : List α) : Prop := Foot (fun W => d.C W A n xs) W ok
/-- An element's cells: what they lead to lies in ok. -/
def FK {α : Type} (d : Kd α) (W : World) (ok : Nat → Prop) (x : α) (c : List Value) : Prop := Foot (fun W => d.K W x c) W ok
section
variable {α β : Type} {d : Kd α} {e base n n' cc g N : Nat} {ok ok' okp S : Nat → Prop} {w w0 w1 W W1 : World} {A A' : Option Addr} {u v v1 : Value} {xs : List α} {xs' : List β} {d' : Kd β} {x : α} {c : List Value}
theorem F_nil (d : Kd α) (W : World) (ok : Nat → Prop) : F d W ok none ([] : List α).length [] := fun W' _ => C_nil d W'
theorem FK_of_M (h : d.M W base ok x c) : FK d W ok x c := fun _ hW => d.K_of_M (M_step h hW)
end
end Kd
end Go.Proofs.YtonedijkgddepaaW.PrintWords
namespace Go.Proofs.YtonedijkgddepaaW.PrintWords
open Go.Sq
open Go.RowKit
namespace Kd
/-- The cells one behind the other, element by element. -/
def chunks (sz : Nat) (n : Nat) (inner : List Value) : List (List Value) := (List.range n).map fun j => (inner.drop (j * sz)).take sz
theorem chunks_length (sz n : Nat) (inner : List Value) : (chunks sz n inner).length = n := by simp [chunks]
theorem chunks_at {sz n : Nat} {inner : List Value} {j : Nat} (hj : j < n) : (chunks sz n inner)[j]? = some ((inner.drop (j * sz)).take sz) := by simp [chunks, hj]
theorem chunks_get {sz n : Nat} {inner : List Value} {j : Nat} {c : List Value} (h : (chunks sz n inner)[j]? = some c) : c = (inner.drop (j * sz)).take sz := by
 have hj : j < n := by have := (List.getElem?_eq_some_iff.1 h).1; rwa [chunks_length] at this
 rw [chunks_at hj] at h
 injection h with h
 exact h.symm
theorem reps_raw {α : Type} {Rr : α → List Value → Prop} {sz : Nat} {xs : List α} {inner : List Value} (h : Reps Rr sz xs inner) (hR : ∀ x c, Rr x c → c.length = sz ∧ ∀ u ∈ c, u.oneCell' = true) : Reps (fun x cs => cs = x ∧ cs.length = sz ∧ ∀ u ∈ cs, u.oneCell' = true) sz (chunks sz xs.length inner) inner := by
 refine ⟨by rw [chunks_length]; exact h.1, fun j p hj => ?_⟩
 have hjl : j < xs.length := by have := (List.getElem?_eq_some_iff.1 hj).1; rwa [chunks_length] at this
 have hp := chunks_get hj
 exact ⟨hp.symm, hR _ _ (h.2 j _ (List.getElem?_eq_getElem hjl))⟩
section
variable {α : Type} {d : Kd α} {e base n cc g : Nat} {ok ok' okp S : Nat → Prop} {w w1 W W1 : World} {A : Option Addr} {u v v1 : Value} {xs : List α} {x : α} {c : List Value}
/-- A row of elements (type e) of the call's own; what the elements lead to is only read, and is not this row. -/
def N {α : Type} (d : Kd α) (e : Nat) (w : World) (base : Nat) (ok : Nat → Prop) (v : Value) (xs : List α) : Prop :=
 (∀ k, v.ownBlock = some k → ok k) ∧ ∃ rows : List (List Value), rows.length = xs.length ∧ (raw d.sz).R e w base (fun k => some k = v.ownBlock) v rows ∧ ∀ (j : Nat) (x : α) (c : List Value), xs[j]? = some x → rows[j]? = some c → FK d w (fun k => ok k ∧ some k ≠ v.ownBlock) x c
theorem R_N (h : d.R e w base ok v xs) : N d e w base ok v xs := by
 obtain ⟨h0, inner, ho, hr⟩ := h
 refine ⟨h0, chunks d.sz xs.length inner, chunks_length _ _ _, ⟨fun k hk => hk.symm, inner, by rw [chunks_length]; exact ho, reps_raw hr (fun x c hp => ⟨d.K_len (d.K_of_M hp), d.K_one (d.K_of_M hp)⟩)⟩, fun j x c hx hc => ?_⟩
 rw [chunks_get hc]
 exact FK_of_M (hr.2 j x hx)
theorem N_nil (d : Kd α) (e : Nat) (w : World) (base : Nat) (ok : Nat → Prop) : N d e w base ok (.slice none 0 0) [] := R_N (R_nil _ _ _ _ _)
end
end Kd
end Go.Proofs.YtonedijkgddepaaW.PrintWords
namespace Go.Proofs.YtonedijkgddepaaW.PrintWords
open Go.Sq
open Go.RowKit
section
variable {w w' u : World} {m B g : Nat} {o : Obj} {row : Option Nat} {S : Nat → Prop} {a : Addr} {v : Value}
theorem blk_at (hq : w.drewN m = w') (h : w.heap[g]? = some o) : w'.heap[g]? = some o := by subst hq; exact h
end
namespace Kd
section
variable {α : Type} {d : Kd α} {e base n m : Nat} {ok : Nat → Prop} {w w' : World} {v : Value} {A : Option Addr} {xs : List α}
end
end Kd
end Go.Proofs.YtonedijkgddepaaW.PrintWords
namespace Go.Proofs.YtonedijkgddepaaW.PrintWords
open Go.Sq
open Go.RowKit
section
variable {P : Program} {d : Nat} {xs ys : Array Value} {f : Field} {fs : List Field} {a b : Value} {r s : Bool} {w : World}
/-- The last field that counts. -/
theorem eqf_last (hn : (f.name == "_") = false) (ha : (part f.type xs f.offset).run P w = .ok a w) (hb : (part f.type ys f.offset).run P w = .ok b w) (he : (Op.equalIn d f.type a b).run P w = .ok r w) : (Op.eqFields d xs ys [f]).run P w = .ok r w := by
 have hn' : f.name ≠ "_" := by simpa using hn
 simp only [Op.eqFields, if_pos hn', Sem.run_bind, ha, hb, he, Result.andThen_ok]
 cases r <;> simp
theorem eqf_cons (hn : (f.name == "_") = false) (ha : (part f.type xs f.offset).run P w = .ok a w) (hb : (part f.type ys f.offset).run P w = .ok b w) (he : (Op.equalIn d f.type a b).run P w = .ok r w) (hr : (Op.eqFields d xs ys fs).run P w = .ok s w) : (Op.eqFields d xs ys (f :: fs)).run P w = .ok (r && s) w := by
 have hn' : f.name ≠ "_" := by simpa using hn
 rw [Op.eqFields]
 simp only [if_pos hn', Sem.run_bind, ha, hb, he, Result.andThen_ok]
 cases r
 ·simp
 ·simpa using hr
theorem eqA_of {t : TypeId} {fs : Array Field} (hu : P.underlying t = some (.struct fs)) (hp : P.stoodInHeld t = false) (h : (Op.eqFields d xs ys fs.toList).run P w = .ok r w) : (Op.equalIn (d + 1) t (.agg xs) (.agg ys)).run P w = .ok r w := by
 have hf : P.fieldsOf t = fs := by simp [Program.fieldsOf, hu]
 rw [run_equalIn_struct (P := P) w d t xs ys (by rw [hf]; exact hu) hp, hf]
 exact h
end
end Go.Proofs.YtonedijkgddepaaW.PrintWords
/-! ### 55. Reps told from the front, no append: for rows of one-cell elements and of wider ones -/
namespace Go.Proofs.YtonedijkgddepaaW.PrintWords
open Go.Sq
/-- One cell an element. -/
theorem Reps.one {α : Type} {R : α → List Value → Prop} {ps : List α} {cs : List Value} {p : α} {v : Value} (hp : R p [v]) (h : Reps R 1 ps cs) : Reps R 1 (p :: ps) (v :: cs) := by
 refine ⟨by simp [h.1], fun j q hq => ?_⟩
 cases j with
 | zero =>
  simp only [List.getElem?_cons_zero, Option.some.injEq] at hq
  subst hq
  simpa using hp
 | succ j =>
  simp only [List.getElem?_cons_succ] at hq
  have h1 := h.2 j q hq
  simpa [Nat.mul_one] using h1
/-- More cells an element: told apart by the cells' list. -/
theorem Reps.front {α : Type} {R : α → List Value → Prop} {size : Nat} {ps : List α} {cs c all : List Value} {p : α} (hp : R p c) (hc : c.length = size) (h : Reps R size ps cs) (ha : c ++ cs = all) : Reps R size (p :: ps) all := by
 subst ha
 refine ⟨by rw [List.length_append, hc, h.1, List.length_cons, Nat.succ_mul, Nat.add_comm], fun j q hq => ?_⟩
 cases j with
 | zero =>
  simp only [List.getElem?_cons_zero, Option.some.injEq] at hq
  subst hq
  rw [Nat.zero_mul, List.drop_zero, List.take_append_of_le_length (by omega), List.take_of_length_le (by omega)]
  exact hp
 | succ j =>
  simp only [List.getElem?_cons_succ] at hq
  have h1 := h.2 j q hq
  rw [Nat.succ_mul, List.drop_append, List.drop_of_length_le (by rw [hc]; exact Nat.le_add_left _ _), List.nil_append, hc, Nat.add_sub_cancel]
  exact h1
theorem Reps.c2 {α : Type} {R : α → List Value → Prop} {ps : List α} {cs : List Value} {p : α} {va vb : Value} (hp : R p [va, vb]) (h : Reps R 2 ps cs) : Reps R 2 (p :: ps) (va :: vb :: cs) := Reps.front hp rfl h rfl
theorem Reps.c3 {α : Type} {R : α → List Value → Prop} {ps : List α} {cs : List Value} {p : α} {va vb vc : Value} (hp : R p [va, vb, vc]) (h : Reps R 3 ps cs) : Reps R 3 (p :: ps) (va :: vb :: vc :: cs) := Reps.front hp rfl h rfl
theorem Reps.c4 {α : Type} {R : α → List Value → Prop} {ps : List α} {cs : List Value} {p : α} {va vb vc vd : Value} (hp : R p [va, vb, vc, vd]) (h : Reps R 4 ps cs) : Reps R 4 (p :: ps) (va :: vb :: vc :: vd :: cs) := Reps.front hp rfl h rfl
theorem Reps.c5 {α : Type} {R : α → List Value → Prop} {ps : List α} {cs : List Value} {p : α} {va vb vc vd ve : Value} (hp : R p [va, vb, vc, vd, ve]) (h : Reps R 5 ps cs) : Reps R 5 (p :: ps) (va :: vb :: vc :: vd :: ve :: cs) := Reps.front hp rfl h rfl
theorem Reps.c6 {α : Type} {R : α → List Value → Prop} {ps : List α} {cs : List Value} {p : α} {va vb vc vd ve vf : Value} (hp : R p [va, vb, vc, vd, ve, vf]) (h : Reps R 6 ps cs) : Reps R 6 (p :: ps) (va :: vb :: vc :: vd :: ve :: vf :: cs) := Reps.front hp rfl h rfl
theorem Reps.c7 {α : Type} {R : α → List Value → Prop} {ps : List α} {cs : List Value} {p : α} {va vb vc vd ve vf vg : Value} (hp : R p [va, vb, vc, vd, ve, vf, vg]) (h : Reps R 7 ps cs) : Reps R 7 (p :: ps) (va :: vb :: vc :: vd :: ve :: vf :: vg :: cs) := Reps.front hp rfl h rfl
theorem Reps.c8 {α : Type} {R : α → List Value → Prop} {ps : List α} {cs : List Value} {p : α} {va vb vc vd ve vf vg vh : Value} (hp : R p [va, vb, vc, vd, ve, vf, vg, vh]) (h : Reps R 8 ps cs) : Reps R 8 (p :: ps) (va :: vb :: vc :: vd :: ve :: vf :: vg :: vh :: cs) := Reps.front hp rfl h rfl
theorem Reps.c9 {α : Type} {R : α → List Value → Prop} {ps : List α} {cs : List Value} {p : α} {va vb vc vd ve vf vg vh vi : Value} (hp : R p [va, vb, vc, vd, ve, vf, vg, vh, vi]) (h : Reps R 9 ps cs) : Reps R 9 (p :: ps) (va :: vb :: vc :: vd :: ve :: vf :: vg :: vh :: vi :: cs) := Reps.front hp rfl h rfl
theorem Reps.c10 {α : Type} {R : α → List Value → Prop} {ps : List α} {cs : List Value} {p : α} {va vb vc vd ve vf vg vh vi vj : Value} (hp : R p [va, vb, vc, vd, ve, vf, vg, vh, vi, vj]) (h : Reps R 10 ps cs) : Reps R 10 (p :: ps) (va :: vb :: vc :: vd :: ve :: vf :: vg :: vh :: vi :: vj :: cs) := Reps.front hp rfl h rfl
end Go.Proofs.YtonedijkgddepaaW.PrintWords
namespace Go.Proofs.YtonedijkgddepaaW.PrintWords
open Go.Sq
open Go.RowKit
section
variable {P : Program} {ops : Array Oper} {rest : List Oper} {o : Oper} {a : Act} {Q : Exit → Act → World → Prop} {W : World}
/-- The gate takes the guard off (hw: 'by rfl', 'by kernel_rfl': the guard's slot holds what is wanted). -/
theorem gate_guard (hw : Region.wanted o (yielded ops a.tmps) = true) (h : wpList P ops Q ({ o with guard := none } :: rest) a W) : wpList P ops Q (o :: rest) a W := by
 have h1 : Region.wanted { o with guard := none } (yielded ops a.tmps) = true := rfl
 unfold wpList at h ⊢
 rw [if_pos h1] at h
 rw [if_pos hw]
 exact h
end
end Go.Proofs.YtonedijkgddepaaW.PrintWords
namespace Go.Proofs.YtonedijkgddepaaW.PrintMore
open Go.Sq
open Go.RowKit Go.Proofs.YtonedijkgddepaaW.PrintWords
namespace Kd
open Go.Proofs.YtonedijkgddepaaW.PrintWords.Kd
end Kd
namespace Kd
open Go.Proofs.YtonedijkgddepaaW.PrintWords.Kd
section
variable {α : Type} {d : Kd α} {e base g N : Nat} {ok : Nat → Prop} {W w1 : World} {u v : Value} {xs : List α}
end
end Kd
/-- 'max' and 'min' of two whole numbers. -/
theorem max2_int (k k' : IntKind) (x y : Int) : Builtin.max2 (.int k x) (.int k' y) = pure (.int k (if x < y then y else x)) := by simp only [Builtin.max2, gt_iff_lt]
theorem min2_int (k k' : IntKind) (x y : Int) : Builtin.min2 (.int k x) (.int k' y) = pure (.int k (if y < x then y else x)) := by simp only [Builtin.min2]
theorem max_two (ats : Array TypeId) (ty : TypeId) (a b : Value) : Builtin.max_ ats ty #[a, b] = (Builtin.max2 a b >>= fun s => pure s) := by simp only [Builtin.max_, List.foldlM_cons, List.foldlM_nil]
theorem min_two (ats : Array TypeId) (ty : TypeId) (a b : Value) : Builtin.min_ ats ty #[a, b] = (Builtin.min2 a b >>= fun s => pure s) := by simp only [Builtin.min_, List.foldlM_cons, List.foldlM_nil]
theorem max_three (ats : Array TypeId) (ty : TypeId) (a b c : Value) : Builtin.max_ ats ty #[a, b, c] = (Builtin.max2 a b >>= fun s => Builtin.max2 s c >>= fun s => pure s) := by simp only [Builtin.max_, List.foldlM_cons, List.foldlM_nil]
theorem min_three (ats : Array TypeId) (ty : TypeId) (a b c : Value) : Builtin.min_ ats ty #[a, b, c] = (Builtin.min2 a b >>= fun s => Builtin.min2 s c >>= fun s => pure s) := by simp only [Builtin.min_, List.foldlM_cons, List.foldlM_nil]
theorem max_four (ats : Array TypeId) (ty : TypeId) (a b c d : Value) : Builtin.max_ ats ty #[a, b, c, d] = (Builtin.max2 a b >>= fun s => Builtin.max2 s c >>= fun s => Builtin.max2 s d >>= fun s => pure s) := by simp only [Builtin.max_, List.foldlM_cons, List.foldlM_nil]
theorem min_four (ats : Array TypeId) (ty : TypeId) (a b c d : Value) : Builtin.min_ ats ty #[a, b, c, d] = (Builtin.min2 a b >>= fun s => Builtin.min2 s c >>= fun s => Builtin.min2 s d >>= fun s => pure s) := by simp only [Builtin.min_, List.foldlM_cons, List.foldlM_nil]
end Go.Proofs.YtonedijkgddepaaW.PrintMore
namespace Go.Proofs.YtonedijkgddepaaW.PrintWords
open Go.Sq
open Go.RowKit
section
variable {P : Program} {ops : Array Oper} {rest : List Oper} {o : Oper} {a : Act} {Q : Exit → Act → World → Prop} {W : World}
/-- The operation is a call of this function (a cheap look ahead of a dear step). -/
theorem gate_callee {f : FuncId} {as_ : Array Operand} {ts : Array TypeId} (_ho : o.op = .call { callee := .value (.func f), args := as_, argTypes := ts }) (h : wpList P ops Q (o :: rest) a W) : wpList P ops Q (o :: rest) a W := h
/-- The operation is a builtin over these places. -/
theorem gate_builtin {b : Builtin} {xs : Array Operand} {ts : Array TypeId} (_ho : o.op = .call { callee := .builtin b, args := xs, argTypes := ts }) (h : wpList P ops Q (o :: rest) a W) : wpList P ops Q (o :: rest) a W := h
end
/-- The smaller of two whole numbers, as_ Go's min tells it. -/
def mn (a b : Int) : Int := if b < a then b else a
namespace Kd
section
variable {α : Type} {d : Kd α} {e base : Nat} {ok : Nat → Prop} {W w1 : World} {v : Value} {xs : List α}
end
section
variable {α : Type} {d : Kd α} {e base g n cap : Nat} {ok oki okp : Nat → Prop} {W : World} {xs : List α} {i : Int} {c : List Value}
end
section
variable {α : Type} {d : Kd α} {e base b b' g N : Nat} {ok ok1 : Nat → Prop} {W W2 w1 : World} {u v : Value} {xs ys : List α} {S : Nat → Prop}
theorem R_reok (hE : d.E = []) (h : d.R e W base ok1 v xs) (hok : ∀ k, v.ownBlock = some k → ok k) : d.R e W base ok v xs := R_mono (R_tight hE h) (fun k hk => hok k hk.symm)
theorem R_keptB (h : d.R e W base ok v xs) (hk : Kept W W2 S) (hne : ∀ k, ok k → ¬ S k) : d.R e W2 base (fun k => ok k ∧ (¬ S k ∧ k < W.heap.size)) v xs :=
 R_kept (R_mono (R_bound h) (fun k hk => ⟨hk.1, hne k hk.1, hk.2.2.1⟩)) hk (fun _ hk => hk.2.1)
end
end Kd
end Go.Proofs.YtonedijkgddepaaW.PrintWords
namespace Go.Proofs.YtonedijkgddepaaW.PrintWords
open Go.Sq
open Go.RowKit
namespace Kd
/-- A row that is only read, told by its value: its form, its length, what it leads to (in ok). e and base say nothing; they make it as_ the others are. -/
def V {α : Type} (d : Kd α) (_e : Nat) (W : World) (_base : Nat) (ok : Nat → Prop) (v : Value) (xs : List α) : Prop := ∃ A c, v = .slice A xs.length c ∧ xs.length ≤ c ∧ F d W ok A xs.length xs
section
variable {α β : Type} {d : Kd α} {e base base' n m c g N' lo hi : Nat} {ok ok' S : Nat → Prop} {w W w1 : World} {A : Option Addr} {ad : Addr} {u v v1 : Value} {xs : List α}
theorem V_nil (d : Kd α) (e : Nat) (W : World) (base : Nat) (ok : Nat → Prop) : V d e W base ok (.slice none 0 0) [] := ⟨none, 0, rfl, Nat.le_refl _, F_nil d W ok⟩
end
end Kd
end Go.Proofs.YtonedijkgddepaaW.PrintWords
namespace Go.Proofs.Ytonedijkgddepaa.P
open Go.Sq
open Go.RowKit Go.Proofs.YtonedijkgddepaaW.PrintWords Go.Proofs.YtonedijkgddepaaW.PrintLast Go.Proofs.YtonedijkgddepaaW.PrintMore
attribute [local go_sem] max2_int min2_int max_two min_two max_three min_three max_four min_four   -- for this text's walks alone
set_option linter.unusedVariables false
set_option linter.unusedSimpArgs false
def errW : Option Int → Value
 | none => .nilIface
 | some c => .iface 0 (.int .i64 c)
theorem errW_none : errW none = .nilIface := rfl
theorem errW_some (c : Int) : errW (some c) = .iface 0 (.int .i64 c) := rfl
theorem info35 : (Try.prog.info? 35).map (fun i => (i.zero, i.size, i.bytes)) = some (some (.agg #[(.int .i64 0), (.int .i64 0)]), 2, 16) := by kernel_rfl
theorem info106 : (Try.prog.info? 106).map (fun i => (i.zero, i.size, i.bytes)) = some (some (.agg #[(.string ⟨#[]⟩), (.string ⟨#[]⟩), (.string ⟨#[]⟩), (.int .i64 0), (.string ⟨#[]⟩), (.int .i64 0), (.int .i64 0)]), 7, 88) := by kernel_rfl
theorem info108 : (Try.prog.info? 108).map (fun i => (i.zero, i.size, i.bytes)) = some (some (.agg #[(.int .i64 0), (.int .i64 0), (.int .i64 0)]), 3, 24) := by kernel_rfl
theorem info115 : (Try.prog.info? 115).map (fun i => (i.zero, i.size, i.bytes)) = some (some (.agg #[(.int .i64 0), (.string ⟨#[]⟩), (.int .i64 0), (.int .i64 0), (.string ⟨#[]⟩), (.int .i64 0)]), 6, 64) := by kernel_rfl
structure S35 where
 f0 : Int
 f1 : Int
def z35 : S35 := ⟨(0 : Int), (0 : Int)⟩
def k35 : Kd S35 := Kd.iso (Kd.pair (Kd.int .i64) (Kd.int .i64)) (fun x : S35 => (x.f0, x.f1))
theorem k35_open {w : World} {x : S35} {cs : List Value} (h : k35.K w x cs) : cs = [.int .i64 x.f0, .int .i64 x.f1] := by
 obtain ⟨_, _, rfl, rfl, rfl⟩ := h
 exact rfl
theorem k35_openM {w : World} {base : Nat} {ok : Nat → Prop} {x : S35} {cs : List Value} (h : k35.M w base ok x cs) : cs = [.int .i64 x.f0, .int .i64 x.f1] := by
 obtain ⟨_, _, rfl, rfl, rfl⟩ := h
 exact rfl
theorem k35_mkM (w : World) (base : Nat) (ok : Nat → Prop) (x : S35)  : k35.M w base ok x [.int .i64 x.f0, .int .i64 x.f1] := ⟨[.int .i64 x.f0], [.int .i64 x.f1], rfl, rfl, rfl⟩
def rd_T35 (xs : List S35) (i : Int) : S35 := xs.getD i.toNat z35
theorem at_T35 {w : World} {A : Option Addr} {n : Nat} {xs : List S35} (h : Kd.C k35 w A n xs) (i : Int) (h0 : 0 ≤ i) (h1 : i < n) : ∃ ad , A = some ad ∧ w.cell? (ad.add (i.toNat * 2)) = some (.int .i64 (rd_T35 xs i).f0) ∧ w.cell? ⟨(ad.add (i.toNat * 2)).block, (ad.add (i.toNat * 2)).off + 1, none⟩ = some (.int .i64 (rd_T35 xs i).f1) := by
 obtain ⟨ad, c, e, _, hK, hc0⟩ := Kd.C_get h z35 i h0 h1
 have hc : ∀ j u, c[j]? = some u → w.cell? (ad.add (i.toNat * 2 + j)) = some u := hc0
 obtain rfl := k35_open hK
 exact ⟨ad, e, hc 0 _ rfl, by rw [← add_field _ _ 1 (by omega)]; exact hc 1 _ rfl⟩
structure S108 where
 f0 : S35
 f1 : Int
def z108 : S108 := ⟨z35, (0 : Int)⟩
def k108 : Kd S108 := Kd.iso (Kd.pair k35 (Kd.int .i64)) (fun x : S108 => (x.f0, x.f1))
theorem k108_open {w : World} {x : S108} {cs : List Value} (h : k108.K w x cs) : cs = [.int .i64 x.f0.f0, .int .i64 x.f0.f1, .int .i64 x.f1] := by
 obtain ⟨_, _, rfl, s0, rfl⟩ := h
 obtain rfl := k35_open s0
 exact rfl
theorem k108_mkM (w : World) (base : Nat) (ok : Nat → Prop) (x : S108)  : k108.M w base ok x [.int .i64 x.f0.f0, .int .i64 x.f0.f1, .int .i64 x.f1] := ⟨[.int .i64 x.f0.f0, .int .i64 x.f0.f1], [.int .i64 x.f1], rfl, (k35_mkM w base ok x.f0 ), rfl⟩
def rd_T108 (xs : List S108) (i : Int) : S108 := xs.getD i.toNat z108
theorem at_T108 {w : World} {A : Option Addr} {n : Nat} {xs : List S108} (h : Kd.C k108 w A n xs) (i : Int) (h0 : 0 ≤ i) (h1 : i < n) : ∃ ad , A = some ad ∧ w.cell? (ad.add (i.toNat * 3)) = some (.int .i64 (rd_T108 xs i).f0.f0) ∧ w.cell? ⟨(ad.add (i.toNat * 3)).block, (ad.add (i.toNat * 3)).off + 1, none⟩ = some (.int .i64 (rd_T108 xs i).f0.f1) ∧ w.cell? ⟨(ad.add (i.toNat * 3)).block, (ad.add (i.toNat * 3)).off + 2, none⟩ = some (.int .i64 (rd_T108 xs i).f1) := by
 obtain ⟨ad, c, e, _, hK, hc0⟩ := Kd.C_get h z108 i h0 h1
 have hc : ∀ j u, c[j]? = some u → w.cell? (ad.add (i.toNat * 3 + j)) = some u := hc0
 obtain rfl := k108_open hK
 exact ⟨ad, e, hc 0 _ rfl, by rw [← add_field _ _ 1 (by omega)]; exact hc 1 _ rfl, by rw [← add_field _ _ 2 (by omega)]; exact hc 2 _ rfl⟩
structure S129 where
 f0 : Int
 f1 : Int
 f2 : (List Int)
def z129 : S129 := ⟨(0 : Int), (0 : Int), ([] : List Int)⟩
def k129 : Kd S129 := Kd.iso (Kd.pair (Kd.int .i64) (Kd.pair (Kd.int .i64) (Kd.slice 5 (Kd.int .u8)))) (fun x : S129 => (x.f0, x.f1, x.f2))
theorem k129_open {w : World} {x : S129} {cs : List Value} (h : k129.K w x cs) : ∃ A2 c2, cs = [.int .i64 x.f0, .int .i64 x.f1, .slice A2 x.f2.length c2] ∧ x.f2.length ≤ c2 ∧ (Kd.int .u8).C w A2 x.f2.length x.f2 := by
 obtain ⟨_, _, rfl, rfl, ⟨_, _, rfl, rfl, ⟨A2, c2, rfl, l2, g2⟩⟩⟩ := h
 exact ⟨A2, c2, rfl, l2, g2⟩
def rd_T129 (xs : List S129) (i : Int) : S129 := xs.getD i.toNat z129
theorem at_T129 {w : World} {A : Option Addr} {n : Nat} {xs : List S129} (h : Kd.C k129 w A n xs) (i : Int) (h0 : 0 ≤ i) (h1 : i < n) : ∃ ad A2 c2, A = some ad ∧ w.cell? (ad.add (i.toNat * 3)) = some (.int .i64 (rd_T129 xs i).f0) ∧ w.cell? ⟨(ad.add (i.toNat * 3)).block, (ad.add (i.toNat * 3)).off + 1, none⟩ = some (.int .i64 (rd_T129 xs i).f1) ∧ w.cell? ⟨(ad.add (i.toNat * 3)).block, (ad.add (i.toNat * 3)).off + 2, none⟩ = some (.slice A2 (rd_T129 xs i).f2.length c2) ∧ (rd_T129 xs i).f2.length ≤ c2 ∧ (Kd.int .u8).C w A2 (rd_T129 xs i).f2.length (rd_T129 xs i).f2 := by
 obtain ⟨ad, c, e, _, hK, hc0⟩ := Kd.C_get h z129 i h0 h1
 have hc : ∀ j u, c[j]? = some u → w.cell? (ad.add (i.toNat * 3 + j)) = some u := hc0
 obtain ⟨A2, c2, rfl, l2, g2⟩ := k129_open hK
 exact ⟨ad, A2, c2, e, hc 0 _ rfl, by rw [← add_field _ _ 1 (by omega)]; exact hc 1 _ rfl, by rw [← add_field _ _ 2 (by omega)]; exact hc 2 _ rfl, l2, g2⟩
structure S33 where
 f0 : Int
 f1 : ByteArray
 f2 : Int
 f3 : Int
def z33 : S33 := ⟨(0 : Int), (⟨#[]⟩ : ByteArray), (0 : Int), (0 : Int)⟩
def k33 : Kd S33 := Kd.iso (Kd.pair (Kd.int .i64) (Kd.pair Kd.string (Kd.pair (Kd.int .i64) (Kd.int .i64)))) (fun x : S33 => (x.f0, x.f1, x.f2, x.f3))
theorem k33_open {w : World} {x : S33} {cs : List Value} (h : k33.K w x cs) : cs = [.int .i64 x.f0, .string x.f1, .int .i64 x.f2, .int .i64 x.f3] := by
 obtain ⟨_, _, rfl, rfl, ⟨_, _, rfl, rfl, ⟨_, _, rfl, rfl, rfl⟩⟩⟩ := h
 exact rfl
theorem k33_mkM (w : World) (base : Nat) (ok : Nat → Prop) (x : S33)  : k33.M w base ok x [.int .i64 x.f0, .string x.f1, .int .i64 x.f2, .int .i64 x.f3] := ⟨[.int .i64 x.f0], [.string x.f1, .int .i64 x.f2, .int .i64 x.f3], rfl, rfl, ⟨[.string x.f1], [.int .i64 x.f2, .int .i64 x.f3], rfl, rfl, ⟨[.int .i64 x.f2], [.int .i64 x.f3], rfl, rfl, rfl⟩⟩⟩
structure S115 where
 f0 : S33
 f1 : ByteArray
 f2 : Int
def z115 : S115 := ⟨z33, (⟨#[]⟩ : ByteArray), (0 : Int)⟩
def k115 : Kd S115 := Kd.iso (Kd.pair k33 (Kd.pair Kd.string (Kd.int .i64))) (fun x : S115 => (x.f0, x.f1, x.f2))
theorem k115_open {w : World} {x : S115} {cs : List Value} (h : k115.K w x cs) : cs = [.int .i64 x.f0.f0, .string x.f0.f1, .int .i64 x.f0.f2, .int .i64 x.f0.f3, .string x.f1, .int .i64 x.f2] := by
 obtain ⟨_, _, rfl, s0, ⟨_, _, rfl, rfl, rfl⟩⟩ := h
 obtain rfl := k33_open s0
 exact rfl
def rd_T115 (xs : List S115) (i : Int) : S115 := xs.getD i.toNat z115
theorem at_T115 {w : World} {A : Option Addr} {n : Nat} {xs : List S115} (h : Kd.C k115 w A n xs) (i : Int) (h0 : 0 ≤ i) (h1 : i < n) : ∃ ad , A = some ad ∧ w.cell? (ad.add (i.toNat * 6)) = some (.int .i64 (rd_T115 xs i).f0.f0) ∧ w.cell? ⟨(ad.add (i.toNat * 6)).block, (ad.add (i.toNat * 6)).off + 1, none⟩ = some (.string (rd_T115 xs i).f0.f1) ∧ w.cell? ⟨(ad.add (i.toNat * 6)).block, (ad.add (i.toNat * 6)).off + 2, none⟩ = some (.int .i64 (rd_T115 xs i).f0.f2) ∧ w.cell? ⟨(ad.add (i.toNat * 6)).block, (ad.add (i.toNat * 6)).off + 3, none⟩ = some (.int .i64 (rd_T115 xs i).f0.f3) ∧ w.cell? ⟨(ad.add (i.toNat * 6)).block, (ad.add (i.toNat * 6)).off + 4, none⟩ = some (.string (rd_T115 xs i).f1) ∧ w.cell? ⟨(ad.add (i.toNat * 6)).block, (ad.add (i.toNat * 6)).off + 5, none⟩ = some (.int .i64 (rd_T115 xs i).f2) := by
 obtain ⟨ad, c, e, _, hK, hc0⟩ := Kd.C_get h z115 i h0 h1
 have hc : ∀ j u, c[j]? = some u → w.cell? (ad.add (i.toNat * 6 + j)) = some u := hc0
 obtain rfl := k115_open hK
 exact ⟨ad, e, hc 0 _ rfl, by rw [← add_field _ _ 1 (by omega)]; exact hc 1 _ rfl, by rw [← add_field _ _ 2 (by omega)]; exact hc 2 _ rfl, by rw [← add_field _ _ 3 (by omega)]; exact hc 3 _ rfl, by rw [← add_field _ _ 4 (by omega)]; exact hc 4 _ rfl, by rw [← add_field _ _ 5 (by omega)]; exact hc 5 _ rfl⟩
structure S106 where
 f0 : ByteArray
 f1 : ByteArray
 f2 : ByteArray
 f3 : S33
def z106 : S106 := ⟨(⟨#[]⟩ : ByteArray), (⟨#[]⟩ : ByteArray), (⟨#[]⟩ : ByteArray), z33⟩
def k106 : Kd S106 := Kd.iso (Kd.pair Kd.string (Kd.pair Kd.string (Kd.pair Kd.string k33))) (fun x : S106 => (x.f0, x.f1, x.f2, x.f3))
theorem k106_open {w : World} {x : S106} {cs : List Value} (h : k106.K w x cs) : cs = [.string x.f0, .string x.f1, .string x.f2, .int .i64 x.f3.f0, .string x.f3.f1, .int .i64 x.f3.f2, .int .i64 x.f3.f3] := by
 obtain ⟨_, _, rfl, rfl, ⟨_, _, rfl, rfl, ⟨_, _, rfl, rfl, s3⟩⟩⟩ := h
 obtain rfl := k33_open s3
 exact rfl
theorem k106_mkM (w : World) (base : Nat) (ok : Nat → Prop) (x : S106)  : k106.M w base ok x [.string x.f0, .string x.f1, .string x.f2, .int .i64 x.f3.f0, .string x.f3.f1, .int .i64 x.f3.f2, .int .i64 x.f3.f3] := ⟨[.string x.f0], [.string x.f1, .string x.f2, .int .i64 x.f3.f0, .string x.f3.f1, .int .i64 x.f3.f2, .int .i64 x.f3.f3], rfl, rfl, ⟨[.string x.f1], [.string x.f2, .int .i64 x.f3.f0, .string x.f3.f1, .int .i64 x.f3.f2, .int .i64 x.f3.f3], rfl, rfl, ⟨[.string x.f2], [.int .i64 x.f3.f0, .string x.f3.f1, .int .i64 x.f3.f2, .int .i64 x.f3.f3], rfl, rfl, (k33_mkM w base ok x.f3 )⟩⟩⟩
def rd_T106 (xs : List S106) (i : Int) : S106 := xs.getD i.toNat z106
theorem at_T106 {w : World} {A : Option Addr} {n : Nat} {xs : List S106} (h : Kd.C k106 w A n xs) (i : Int) (h0 : 0 ≤ i) (h1 : i < n) : ∃ ad , A = some ad ∧ w.cell? (ad.add (i.toNat * 7)) = some (.string (rd_T106 xs i).f0) ∧ w.cell? ⟨(ad.add (i.toNat * 7)).block, (ad.add (i.toNat * 7)).off + 1, none⟩ = some (.string (rd_T106 xs i).f1) ∧ w.cell? ⟨(ad.add (i.toNat * 7)).block, (ad.add (i.toNat * 7)).off + 2, none⟩ = some (.string (rd_T106 xs i).f2) ∧ w.cell? ⟨(ad.add (i.toNat * 7)).block, (ad.add (i.toNat * 7)).off + 3, none⟩ = some (.int .i64 (rd_T106 xs i).f3.f0) ∧ w.cell? ⟨(ad.add (i.toNat * 7)).block, (ad.add (i.toNat * 7)).off + 4, none⟩ = some (.string (rd_T106 xs i).f3.f1) ∧ w.cell? ⟨(ad.add (i.toNat * 7)).block, (ad.add (i.toNat * 7)).off + 5, none⟩ = some (.int .i64 (rd_T106 xs i).f3.f2) ∧ w.cell? ⟨(ad.add (i.toNat * 7)).block, (ad.add (i.toNat * 7)).off + 6, none⟩ = some (.int .i64 (rd_T106 xs i).f3.f3) := by
 obtain ⟨ad, c, e, _, hK, hc0⟩ := Kd.C_get h z106 i h0 h1
 have hc : ∀ j u, c[j]? = some u → w.cell? (ad.add (i.toNat * 7 + j)) = some u := hc0
 obtain rfl := k106_open hK
 exact ⟨ad, e, hc 0 _ rfl, by rw [← add_field _ _ 1 (by omega)]; exact hc 1 _ rfl, by rw [← add_field _ _ 2 (by omega)]; exact hc 2 _ rfl, by rw [← add_field _ _ 3 (by omega)]; exact hc 3 _ rfl, by rw [← add_field _ _ 4 (by omega)]; exact hc 4 _ rfl, by rw [← add_field _ _ 5 (by omega)]; exact hc 5 _ rfl, by rw [← add_field _ _ 6 (by omega)]; exact hc 6 _ rfl⟩
structure S31 where
 f0 : Int
 f1 : Int
 f2 : Int
 f3 : Int
 f4 : Int
 f5 : Int
 f6 : (List Int)
 f7 : (List S129)
def z31 : S31 := ⟨(0 : Int), (0 : Int), (0 : Int), (0 : Int), (0 : Int), (0 : Int), ([] : List Int), ([] : List S129)⟩
def k31 : Kd S31 := Kd.iso (Kd.pair (Kd.int .i64) (Kd.pair (Kd.int .i64) (Kd.pair (Kd.int .i64) (Kd.pair (Kd.int .i64) (Kd.pair (Kd.int .i64) (Kd.pair (Kd.int .i64) (Kd.pair (Kd.slice 5 (Kd.int .u8)) (Kd.slice 129 k129)))))))) (fun x : S31 => (x.f0, x.f1, x.f2, x.f3, x.f4, x.f5, x.f6, x.f7))
theorem k31_open {w : World} {x : S31} {cs : List Value} (h : k31.K w x cs) : ∃ A6 c6 A7 c7, cs = [.int .i64 x.f0, .int .i64 x.f1, .int .i64 x.f2, .int .i64 x.f3, .int .i64 x.f4, .int .i64 x.f5, .slice A6 x.f6.length c6, .slice A7 x.f7.length c7] ∧ x.f6.length ≤ c6 ∧ (Kd.int .u8).C w A6 x.f6.length x.f6 ∧ x.f7.length ≤ c7 ∧ k129.C w A7 x.f7.length x.f7 := by
 obtain ⟨_, _, rfl, rfl, ⟨_, _, rfl, rfl, ⟨_, _, rfl, rfl, ⟨_, _, rfl, rfl, ⟨_, _, rfl, rfl, ⟨_, _, rfl, rfl, ⟨_, _, rfl, ⟨A6, c6, rfl, l6, g6⟩, ⟨A7, c7, rfl, l7, g7⟩⟩⟩⟩⟩⟩⟩⟩ := h
 exact ⟨A6, c6, A7, c7, rfl, l6, g6, l7, g7⟩
theorem k31_mkM (w : World) (base : Nat) (ok : Nat → Prop) (x : S31) {v6 : Value} (g6 : (Kd.int .u8).R 5 w base ok v6 x.f6) {v7 : Value} (g7 : k129.R 129 w base ok v7 x.f7) : k31.M w base ok x [.int .i64 x.f0, .int .i64 x.f1, .int .i64 x.f2, .int .i64 x.f3, .int .i64 x.f4, .int .i64 x.f5, v6, v7] := ⟨[.int .i64 x.f0], [.int .i64 x.f1, .int .i64 x.f2, .int .i64 x.f3, .int .i64 x.f4, .int .i64 x.f5, v6, v7], rfl, rfl, ⟨[.int .i64 x.f1], [.int .i64 x.f2, .int .i64 x.f3, .int .i64 x.f4, .int .i64 x.f5, v6, v7], rfl, rfl, ⟨[.int .i64 x.f2], [.int .i64 x.f3, .int .i64 x.f4, .int .i64 x.f5, v6, v7], rfl, rfl, ⟨[.int .i64 x.f3], [.int .i64 x.f4, .int .i64 x.f5, v6, v7], rfl, rfl, ⟨[.int .i64 x.f4], [.int .i64 x.f5, v6, v7], rfl, rfl, ⟨[.int .i64 x.f5], [v6, v7], rfl, rfl, ⟨[v6], [v7], rfl, ⟨v6, rfl, g6⟩, ⟨v7, rfl, g7⟩⟩⟩⟩⟩⟩⟩⟩
structure S38 where
 f0 : Int
 f1 : Int
 f2 : Int
 f3 : Int
 f4 : Int
 f5 : ByteArray
 f6 : ByteArray
 f7 : ByteArray
 f8 : ByteArray
 f9 : Int
 f10 : Int
 f11 : S33
 f12 : S35
 f13 : Int
 f14 : (List ByteArray)
def z38 : S38 := ⟨(0 : Int), (0 : Int), (0 : Int), (0 : Int), (0 : Int), (⟨#[]⟩ : ByteArray), (⟨#[]⟩ : ByteArray), (⟨#[]⟩ : ByteArray), (⟨#[]⟩ : ByteArray), (0 : Int), (0 : Int), z33, z35, (0 : Int), ([] : List ByteArray)⟩
def k38 : Kd S38 := Kd.iso (Kd.pair (Kd.int .i64) (Kd.pair (Kd.int .i64) (Kd.pair (Kd.int .i64) (Kd.pair (Kd.int .i64) (Kd.pair (Kd.int .i64) (Kd.pair Kd.string (Kd.pair Kd.string (Kd.pair Kd.string (Kd.pair Kd.string (Kd.pair (Kd.int .i64) (Kd.pair (Kd.int .i64) (Kd.pair k33 (Kd.pair k35 (Kd.pair (Kd.int .i64) (Kd.slice 9 Kd.string))))))))))))))) (fun x : S38 => (x.f0, x.f1, x.f2, x.f3, x.f4, x.f5, x.f6, x.f7, x.f8, x.f9, x.f10, x.f11, x.f12, x.f13, x.f14))
theorem k38_open {w : World} {x : S38} {cs : List Value} (h : k38.K w x cs) : ∃ A18 c18, cs = [.int .i64 x.f0, .int .i64 x.f1, .int .i64 x.f2, .int .i64 x.f3, .int .i64 x.f4, .string x.f5, .string x.f6, .string x.f7, .string x.f8, .int .i64 x.f9, .int .i64 x.f10, .int .i64 x.f11.f0, .string x.f11.f1, .int .i64 x.f11.f2, .int .i64 x.f11.f3, .int .i64 x.f12.f0, .int .i64 x.f12.f1, .int .i64 x.f13, .slice A18 x.f14.length c18] ∧ x.f14.length ≤ c18 ∧ Kd.string.C w A18 x.f14.length x.f14 := by
 obtain ⟨_, _, rfl, rfl, ⟨_, _, rfl, rfl, ⟨_, _, rfl, rfl, ⟨_, _, rfl, rfl, ⟨_, _, rfl, rfl, ⟨_, _, rfl, rfl, ⟨_, _, rfl, rfl, ⟨_, _, rfl, rfl, ⟨_, _, rfl, rfl, ⟨_, _, rfl, rfl, ⟨_, _, rfl, rfl, ⟨_, _, rfl, s11, ⟨_, _, rfl, s15, ⟨_, _, rfl, rfl, ⟨A18, c18, rfl, l18, g18⟩⟩⟩⟩⟩⟩⟩⟩⟩⟩⟩⟩⟩⟩⟩ := h
 obtain rfl := k33_open s11
 obtain rfl := k35_open s15
 exact ⟨A18, c18, rfl, l18, g18⟩
theorem k38_mkM (w : World) (base : Nat) (ok : Nat → Prop) (x : S38) {v18 : Value} (g18 : Kd.string.R 9 w base ok v18 x.f14) : k38.M w base ok x [.int .i64 x.f0, .int .i64 x.f1, .int .i64 x.f2, .int .i64 x.f3, .int .i64 x.f4, .string x.f5, .string x.f6, .string x.f7, .string x.f8, .int .i64 x.f9, .int .i64 x.f10, .int .i64 x.f11.f0, .string x.f11.f1, .int .i64 x.f11.f2, .int .i64 x.f11.f3, .int .i64 x.f12.f0, .int .i64 x.f12.f1, .int .i64 x.f13, v18] := ⟨[.int .i64 x.f0], [.int .i64 x.f1, .int .i64 x.f2, .int .i64 x.f3, .int .i64 x.f4, .string x.f5, .string x.f6, .string x.f7, .string x.f8, .int .i64 x.f9, .int .i64 x.f10, .int .i64 x.f11.f0, .string x.f11.f1, .int .i64 x.f11.f2, .int .i64 x.f11.f3, .int .i64 x.f12.f0, .int .i64 x.f12.f1, .int .i64 x.f13, v18], rfl, rfl, ⟨[.int .i64 x.f1], [.int .i64 x.f2, .int .i64 x.f3, .int .i64 x.f4, .string x.f5, .string x.f6, .string x.f7, .string x.f8, .int .i64 x.f9, .int .i64 x.f10, .int .i64 x.f11.f0, .string x.f11.f1, .int .i64 x.f11.f2, .int .i64 x.f11.f3, .int .i64 x.f12.f0, .int .i64 x.f12.f1, .int .i64 x.f13, v18], rfl, rfl, ⟨[.int .i64 x.f2], [.int .i64 x.f3, .int .i64 x.f4, .string x.f5, .string x.f6, .string x.f7, .string x.f8, .int .i64 x.f9, .int .i64 x.f10, .int .i64 x.f11.f0, .string x.f11.f1, .int .i64 x.f11.f2, .int .i64 x.f11.f3, .int .i64 x.f12.f0, .int .i64 x.f12.f1, .int .i64 x.f13, v18], rfl, rfl, ⟨[.int .i64 x.f3], [.int .i64 x.f4, .string x.f5, .string x.f6, .string x.f7, .string x.f8, .int .i64 x.f9, .int .i64 x.f10, .int .i64 x.f11.f0, .string x.f11.f1, .int .i64 x.f11.f2, .int .i64 x.f11.f3, .int .i64 x.f12.f0, .int .i64 x.f12.f1, .int .i64 x.f13, v18], rfl, rfl, ⟨[.int .i64 x.f4], [.string x.f5, .string x.f6, .string x.f7, .string x.f8, .int .i64 x.f9, .int .i64 x.f10, .int .i64 x.f11.f0, .string x.f11.f1, .int .i64 x.f11.f2, .int .i64 x.f11.f3, .int .i64 x.f12.f0, .int .i64 x.f12.f1, .int .i64 x.f13, v18], rfl, rfl, ⟨[.string x.f5], [.string x.f6, .string x.f7, .string x.f8, .int .i64 x.f9, .int .i64 x.f10, .int .i64 x.f11.f0, .string x.f11.f1, .int .i64 x.f11.f2, .int .i64 x.f11.f3, .int .i64 x.f12.f0, .int .i64 x.f12.f1, .int .i64 x.f13, v18], rfl, rfl, ⟨[.string x.f6], [.string x.f7, .string x.f8, .int .i64 x.f9, .int .i64 x.f10, .int .i64 x.f11.f0, .string x.f11.f1, .int .i64 x.f11.f2, .int .i64 x.f11.f3, .int .i64 x.f12.f0, .int .i64 x.f12.f1, .int .i64 x.f13, v18], rfl, rfl, ⟨[.string x.f7], [.string x.f8, .int .i64 x.f9, .int .i64 x.f10, .int .i64 x.f11.f0, .string x.f11.f1, .int .i64 x.f11.f2, .int .i64 x.f11.f3, .int .i64 x.f12.f0, .int .i64 x.f12.f1, .int .i64 x.f13, v18], rfl, rfl, ⟨[.string x.f8], [.int .i64 x.f9, .int .i64 x.f10, .int .i64 x.f11.f0, .string x.f11.f1, .int .i64 x.f11.f2, .int .i64 x.f11.f3, .int .i64 x.f12.f0, .int .i64 x.f12.f1, .int .i64 x.f13, v18], rfl, rfl, ⟨[.int .i64 x.f9], [.int .i64 x.f10, .int .i64 x.f11.f0, .string x.f11.f1, .int .i64 x.f11.f2, .int .i64 x.f11.f3, .int .i64 x.f12.f0, .int .i64 x.f12.f1, .int .i64 x.f13, v18], rfl, rfl, ⟨[.int .i64 x.f10], [.int .i64 x.f11.f0, .string x.f11.f1, .int .i64 x.f11.f2, .int .i64 x.f11.f3, .int .i64 x.f12.f0, .int .i64 x.f12.f1, .int .i64 x.f13, v18], rfl, rfl, ⟨[.int .i64 x.f11.f0, .string x.f11.f1, .int .i64 x.f11.f2, .int .i64 x.f11.f3], [.int .i64 x.f12.f0, .int .i64 x.f12.f1, .int .i64 x.f13, v18], rfl, (k33_mkM w base ok x.f11 ), ⟨[.int .i64 x.f12.f0, .int .i64 x.f12.f1], [.int .i64 x.f13, v18], rfl, (k35_mkM w base ok x.f12 ), ⟨[.int .i64 x.f13], [v18], rfl, rfl, ⟨v18, rfl, g18⟩⟩⟩⟩⟩⟩⟩⟩⟩⟩⟩⟩⟩⟩⟩
structure S42 where
 f0 : Int
 f1 : Int
 f2 : Int
 f3 : (List S115)
 f4 : (List ByteArray)
 f5 : (List S35)
def z42 : S42 := ⟨(0 : Int), (0 : Int), (0 : Int), ([] : List S115), ([] : List ByteArray), ([] : List S35)⟩
def k42 : Kd S42 := Kd.iso (Kd.pair (Kd.int .i64) (Kd.pair (Kd.int .i64) (Kd.pair (Kd.int .i64) (Kd.pair (Kd.slice 115 k115) (Kd.pair (Kd.slice 9 Kd.string) (Kd.slice 35 k35)))))) (fun x : S42 => (x.f0, x.f1, x.f2, x.f3, x.f4, x.f5))
theorem k42_open {w : World} {x : S42} {cs : List Value} (h : k42.K w x cs) : ∃ A3 c3 A4 c4 A5 c5, cs = [.int .i64 x.f0, .int .i64 x.f1, .int .i64 x.f2, .slice A3 x.f3.length c3, .slice A4 x.f4.length c4, .slice A5 x.f5.length c5] ∧ x.f3.length ≤ c3 ∧ k115.C w A3 x.f3.length x.f3 ∧ x.f4.length ≤ c4 ∧ Kd.string.C w A4 x.f4.length x.f4 ∧ x.f5.length ≤ c5 ∧ k35.C w A5 x.f5.length x.f5 := by
 obtain ⟨_, _, rfl, rfl, ⟨_, _, rfl, rfl, ⟨_, _, rfl, rfl, ⟨_, _, rfl, ⟨A3, c3, rfl, l3, g3⟩, ⟨_, _, rfl, ⟨A4, c4, rfl, l4, g4⟩, ⟨A5, c5, rfl, l5, g5⟩⟩⟩⟩⟩⟩ := h
 exact ⟨A3, c3, A4, c4, A5, c5, rfl, l3, g3, l4, g4, l5, g5⟩
theorem k42_mkM (w : World) (base : Nat) (ok : Nat → Prop) (x : S42) {v3 : Value} (g3 : k115.R 115 w base ok v3 x.f3) {v4 : Value} (g4 : Kd.string.R 9 w base ok v4 x.f4) {v5 : Value} (g5 : k35.R 35 w base ok v5 x.f5) : k42.M w base ok x [.int .i64 x.f0, .int .i64 x.f1, .int .i64 x.f2, v3, v4, v5] := ⟨[.int .i64 x.f0], [.int .i64 x.f1, .int .i64 x.f2, v3, v4, v5], rfl, rfl, ⟨[.int .i64 x.f1], [.int .i64 x.f2, v3, v4, v5], rfl, rfl, ⟨[.int .i64 x.f2], [v3, v4, v5], rfl, rfl, ⟨[v3], [v4, v5], rfl, ⟨v3, rfl, g3⟩, ⟨[v4], [v5], rfl, ⟨v4, rfl, g4⟩, ⟨v5, rfl, g5⟩⟩⟩⟩⟩⟩
structure S45 where
 f0 : Int
 f1 : (List S108)
def z45 : S45 := ⟨(0 : Int), ([] : List S108)⟩
def k45 : Kd S45 := Kd.iso (Kd.pair (Kd.int .i64) (Kd.slice 108 k108)) (fun x : S45 => (x.f0, x.f1))
theorem k45_open {w : World} {x : S45} {cs : List Value} (h : k45.K w x cs) : ∃ A1 c1, cs = [.int .i64 x.f0, .slice A1 x.f1.length c1] ∧ x.f1.length ≤ c1 ∧ k108.C w A1 x.f1.length x.f1 := by
 obtain ⟨_, _, rfl, rfl, ⟨A1, c1, rfl, l1, g1⟩⟩ := h
 exact ⟨A1, c1, rfl, l1, g1⟩
theorem k45_mkM (w : World) (base : Nat) (ok : Nat → Prop) (x : S45) {v1 : Value} (g1 : k108.R 108 w base ok v1 x.f1) : k45.M w base ok x [.int .i64 x.f0, v1] := ⟨[.int .i64 x.f0], [v1], rfl, rfl, ⟨v1, rfl, g1⟩⟩
structure S47 where
 f0 : Int
 f1 : Int
 f2 : Int
 f3 : Int
 f4 : S31
 f5 : S38
 f6 : S42
 f7 : S45
 f8 : (List ByteArray)
def z47 : S47 := ⟨(0 : Int), (0 : Int), (0 : Int), (0 : Int), z31, z38, z42, z45, ([] : List ByteArray)⟩
def k47 : Kd S47 := Kd.iso (Kd.pair (Kd.int .i64) (Kd.pair (Kd.int .i64) (Kd.pair (Kd.int .i64) (Kd.pair (Kd.int .i64) (Kd.pair k31 (Kd.pair k38 (Kd.pair k42 (Kd.pair k45 (Kd.slice 9 Kd.string))))))))) (fun x : S47 => (x.f0, x.f1, x.f2, x.f3, x.f4, x.f5, x.f6, x.f7, x.f8))
theorem k47_open {w : World} {x : S47} {cs : List Value} (h : k47.K w x cs) : ∃ A10 c10 A11 c11 A30 c30 A34 c34 A35 c35 A36 c36 A38 c38 A39 c39, cs = [.int .i64 x.f0, .int .i64 x.f1, .int .i64 x.f2, .int .i64 x.f3, .int .i64 x.f4.f0, .int .i64 x.f4.f1, .int .i64 x.f4.f2, .int .i64 x.f4.f3, .int .i64 x.f4.f4, .int .i64 x.f4.f5, .slice A10 x.f4.f6.length c10, .slice A11 x.f4.f7.length c11, .int .i64 x.f5.f0, .int .i64 x.f5.f1, .int .i64 x.f5.f2, .int .i64 x.f5.f3, .int .i64 x.f5.f4, .string x.f5.f5, .string x.f5.f6, .string x.f5.f7, .string x.f5.f8, .int .i64 x.f5.f9, .int .i64 x.f5.f10, .int .i64 x.f5.f11.f0, .string x.f5.f11.f1, .int .i64 x.f5.f11.f2, .int .i64 x.f5.f11.f3, .int .i64 x.f5.f12.f0, .int .i64 x.f5.f12.f1, .int .i64 x.f5.f13, .slice A30 x.f5.f14.length c30, .int .i64 x.f6.f0, .int .i64 x.f6.f1, .int .i64 x.f6.f2, .slice A34 x.f6.f3.length c34, .slice A35 x.f6.f4.length c35, .slice A36 x.f6.f5.length c36, .int .i64 x.f7.f0, .slice A38 x.f7.f1.length c38, .slice A39 x.f8.length c39] ∧ x.f4.f6.length ≤ c10 ∧ (Kd.int .u8).C w A10 x.f4.f6.length x.f4.f6 ∧ x.f4.f7.length ≤ c11 ∧ k129.C w A11 x.f4.f7.length x.f4.f7 ∧ x.f5.f14.length ≤ c30 ∧ Kd.string.C w A30 x.f5.f14.length x.f5.f14 ∧ x.f6.f3.length ≤ c34 ∧ k115.C w A34 x.f6.f3.length x.f6.f3 ∧ x.f6.f4.length ≤ c35 ∧ Kd.string.C w A35 x.f6.f4.length x.f6.f4 ∧ x.f6.f5.length ≤ c36 ∧ k35.C w A36 x.f6.f5.length x.f6.f5 ∧ x.f7.f1.length ≤ c38 ∧ k108.C w A38 x.f7.f1.length x.f7.f1 ∧ x.f8.length ≤ c39 ∧ Kd.string.C w A39 x.f8.length x.f8 := by
 obtain ⟨_, _, rfl, rfl, ⟨_, _, rfl, rfl, ⟨_, _, rfl, rfl, ⟨_, _, rfl, rfl, ⟨_, _, rfl, s4, ⟨_, _, rfl, s12, ⟨_, _, rfl, s31, ⟨_, _, rfl, s37, ⟨A39, c39, rfl, l39, g39⟩⟩⟩⟩⟩⟩⟩⟩⟩ := h
 obtain ⟨A10, c10, A11, c11, rfl, l10, g10, l11, g11⟩ := k31_open s4
 obtain ⟨A30, c30, rfl, l30, g30⟩ := k38_open s12
 obtain ⟨A34, c34, A35, c35, A36, c36, rfl, l34, g34, l35, g35, l36, g36⟩ := k42_open s31
 obtain ⟨A38, c38, rfl, l38, g38⟩ := k45_open s37
 exact ⟨A10, c10, A11, c11, A30, c30, A34, c34, A35, c35, A36, c36, A38, c38, A39, c39, rfl, l10, g10, l11, g11, l30, g30, l34, g34, l35, g35, l36, g36, l38, g38, l39, g39⟩
theorem k47_mkM (w : World) (base : Nat) (ok : Nat → Prop) (x : S47) {v10 : Value} (g10 : (Kd.int .u8).R 5 w base ok v10 x.f4.f6) {v11 : Value} (g11 : k129.R 129 w base ok v11 x.f4.f7) {v30 : Value} (g30 : Kd.string.R 9 w base ok v30 x.f5.f14) {v34 : Value} (g34 : k115.R 115 w base ok v34 x.f6.f3) {v35 : Value} (g35 : Kd.string.R 9 w base ok v35 x.f6.f4) {v36 : Value} (g36 : k35.R 35 w base ok v36 x.f6.f5) {v38 : Value} (g38 : k108.R 108 w base ok v38 x.f7.f1) {v39 : Value} (g39 : Kd.string.R 9 w base ok v39 x.f8) : k47.M w base ok x [.int .i64 x.f0, .int .i64 x.f1, .int .i64 x.f2, .int .i64 x.f3, .int .i64 x.f4.f0, .int .i64 x.f4.f1, .int .i64 x.f4.f2, .int .i64 x.f4.f3, .int .i64 x.f4.f4, .int .i64 x.f4.f5, v10, v11, .int .i64 x.f5.f0, .int .i64 x.f5.f1, .int .i64 x.f5.f2, .int .i64 x.f5.f3, .int .i64 x.f5.f4, .string x.f5.f5, .string x.f5.f6, .string x.f5.f7, .string x.f5.f8, .int .i64 x.f5.f9, .int .i64 x.f5.f10, .int .i64 x.f5.f11.f0, .string x.f5.f11.f1, .int .i64 x.f5.f11.f2, .int .i64 x.f5.f11.f3, .int .i64 x.f5.f12.f0, .int .i64 x.f5.f12.f1, .int .i64 x.f5.f13, v30, .int .i64 x.f6.f0, .int .i64 x.f6.f1, .int .i64 x.f6.f2, v34, v35, v36, .int .i64 x.f7.f0, v38, v39] := ⟨[.int .i64 x.f0], [.int .i64 x.f1, .int .i64 x.f2, .int .i64 x.f3, .int .i64 x.f4.f0, .int .i64 x.f4.f1, .int .i64 x.f4.f2, .int .i64 x.f4.f3, .int .i64 x.f4.f4, .int .i64 x.f4.f5, v10, v11, .int .i64 x.f5.f0, .int .i64 x.f5.f1, .int .i64 x.f5.f2, .int .i64 x.f5.f3, .int .i64 x.f5.f4, .string x.f5.f5, .string x.f5.f6, .string x.f5.f7, .string x.f5.f8, .int .i64 x.f5.f9, .int .i64 x.f5.f10, .int .i64 x.f5.f11.f0, .string x.f5.f11.f1, .int .i64 x.f5.f11.f2, .int .i64 x.f5.f11.f3, .int .i64 x.f5.f12.f0, .int .i64 x.f5.f12.f1, .int .i64 x.f5.f13, v30, .int .i64 x.f6.f0, .int .i64 x.f6.f1, .int .i64 x.f6.f2, v34, v35, v36, .int .i64 x.f7.f0, v38, v39], rfl, rfl, ⟨[.int .i64 x.f1], [.int .i64 x.f2, .int .i64 x.f3, .int .i64 x.f4.f0, .int .i64 x.f4.f1, .int .i64 x.f4.f2, .int .i64 x.f4.f3, .int .i64 x.f4.f4, .int .i64 x.f4.f5, v10, v11, .int .i64 x.f5.f0, .int .i64 x.f5.f1, .int .i64 x.f5.f2, .int .i64 x.f5.f3, .int .i64 x.f5.f4, .string x.f5.f5, .string x.f5.f6, .string x.f5.f7, .string x.f5.f8, .int .i64 x.f5.f9, .int .i64 x.f5.f10, .int .i64 x.f5.f11.f0, .string x.f5.f11.f1, .int .i64 x.f5.f11.f2, .int .i64 x.f5.f11.f3, .int .i64 x.f5.f12.f0, .int .i64 x.f5.f12.f1, .int .i64 x.f5.f13, v30, .int .i64 x.f6.f0, .int .i64 x.f6.f1, .int .i64 x.f6.f2, v34, v35, v36, .int .i64 x.f7.f0, v38, v39], rfl, rfl, ⟨[.int .i64 x.f2], [.int .i64 x.f3, .int .i64 x.f4.f0, .int .i64 x.f4.f1, .int .i64 x.f4.f2, .int .i64 x.f4.f3, .int .i64 x.f4.f4, .int .i64 x.f4.f5, v10, v11, .int .i64 x.f5.f0, .int .i64 x.f5.f1, .int .i64 x.f5.f2, .int .i64 x.f5.f3, .int .i64 x.f5.f4, .string x.f5.f5, .string x.f5.f6, .string x.f5.f7, .string x.f5.f8, .int .i64 x.f5.f9, .int .i64 x.f5.f10, .int .i64 x.f5.f11.f0, .string x.f5.f11.f1, .int .i64 x.f5.f11.f2, .int .i64 x.f5.f11.f3, .int .i64 x.f5.f12.f0, .int .i64 x.f5.f12.f1, .int .i64 x.f5.f13, v30, .int .i64 x.f6.f0, .int .i64 x.f6.f1, .int .i64 x.f6.f2, v34, v35, v36, .int .i64 x.f7.f0, v38, v39], rfl, rfl, ⟨[.int .i64 x.f3], [.int .i64 x.f4.f0, .int .i64 x.f4.f1, .int .i64 x.f4.f2, .int .i64 x.f4.f3, .int .i64 x.f4.f4, .int .i64 x.f4.f5, v10, v11, .int .i64 x.f5.f0, .int .i64 x.f5.f1, .int .i64 x.f5.f2, .int .i64 x.f5.f3, .int .i64 x.f5.f4, .string x.f5.f5, .string x.f5.f6, .string x.f5.f7, .string x.f5.f8, .int .i64 x.f5.f9, .int .i64 x.f5.f10, .int .i64 x.f5.f11.f0, .string x.f5.f11.f1, .int .i64 x.f5.f11.f2, .int .i64 x.f5.f11.f3, .int .i64 x.f5.f12.f0, .int .i64 x.f5.f12.f1, .int .i64 x.f5.f13, v30, .int .i64 x.f6.f0, .int .i64 x.f6.f1, .int .i64 x.f6.f2, v34, v35, v36, .int .i64 x.f7.f0, v38, v39], rfl, rfl, ⟨[.int .i64 x.f4.f0, .int .i64 x.f4.f1, .int .i64 x.f4.f2, .int .i64 x.f4.f3, .int .i64 x.f4.f4, .int .i64 x.f4.f5, v10, v11], [.int .i64 x.f5.f0, .int .i64 x.f5.f1, .int .i64 x.f5.f2, .int .i64 x.f5.f3, .int .i64 x.f5.f4, .string x.f5.f5, .string x.f5.f6, .string x.f5.f7, .string x.f5.f8, .int .i64 x.f5.f9, .int .i64 x.f5.f10, .int .i64 x.f5.f11.f0, .string x.f5.f11.f1, .int .i64 x.f5.f11.f2, .int .i64 x.f5.f11.f3, .int .i64 x.f5.f12.f0, .int .i64 x.f5.f12.f1, .int .i64 x.f5.f13, v30, .int .i64 x.f6.f0, .int .i64 x.f6.f1, .int .i64 x.f6.f2, v34, v35, v36, .int .i64 x.f7.f0, v38, v39], rfl, (k31_mkM w base ok x.f4 g10 g11), ⟨[.int .i64 x.f5.f0, .int .i64 x.f5.f1, .int .i64 x.f5.f2, .int .i64 x.f5.f3, .int .i64 x.f5.f4, .string x.f5.f5, .string x.f5.f6, .string x.f5.f7, .string x.f5.f8, .int .i64 x.f5.f9, .int .i64 x.f5.f10, .int .i64 x.f5.f11.f0, .string x.f5.f11.f1, .int .i64 x.f5.f11.f2, .int .i64 x.f5.f11.f3, .int .i64 x.f5.f12.f0, .int .i64 x.f5.f12.f1, .int .i64 x.f5.f13, v30], [.int .i64 x.f6.f0, .int .i64 x.f6.f1, .int .i64 x.f6.f2, v34, v35, v36, .int .i64 x.f7.f0, v38, v39], rfl, (k38_mkM w base ok x.f5 g30), ⟨[.int .i64 x.f6.f0, .int .i64 x.f6.f1, .int .i64 x.f6.f2, v34, v35, v36], [.int .i64 x.f7.f0, v38, v39], rfl, (k42_mkM w base ok x.f6 g34 g35 g36), ⟨[.int .i64 x.f7.f0, v38], [v39], rfl, (k45_mkM w base ok x.f7 g38), ⟨v39, rfl, g39⟩⟩⟩⟩⟩⟩⟩⟩⟩
end Go.Proofs.Ytonedijkgddepaa.P
namespace Go.Proofs.Ytonedijkgddepaa.P
open Go.Sq
open Go.RowKit Go.Maps Go.Proofs.YtonedijkgddepaaW.PrintWords Go.Proofs.YtonedijkgddepaaW.PrintLast Go.Proofs.YtonedijkgddepaaW.PrintMore
set_option linter.unusedVariables false
set_option linter.unusedSimpArgs false
def RH (v : Value) : Option (DataW Value × List MemPlace) := some (.held v, [])
theorem law3 : Keyed Try.prog 3 := int_keyed Try.underlying3
theorem lit_ne {a b : Int} (h : a ≠ b) : (Lit.int .i64 a) ≠ (Lit.int .i64 b) := fun e => h (by injection e)
theorem blk_at {W : World} {g : Nat} {o : Obj} (e : g = W.heap.size) : (W.alloc o).heap[g]? = some o := e ▸ heap_alloc_new W o
theorem owns_below {P : Program} {k b n : Nat} {R : Value → Option (DataW Value × List MemPlace)} {w w' : World} {D : DataW Value} (h : w.ownsMap P k R b n D) (hb : Below w.heap.size w w') : w'.ownsMap P k R b n D := by
 have hlt := h.lt
 obtain ⟨es, clock, h1, h2⟩ := h
 exact ⟨es, clock, (hb.block b hlt).trans h1, h2⟩
structure RelG {β : Type} (P : β → Value → Prop) (z : Value) (D : DataW Value) (M : List (Int × β)) : Prop where
 isMap : IsMap D
 keys : ∀ k : Int, Maps.has D (.int .i64 k) = true ↔ ∃ x ∈ M, x.1 = k
 vals : ∀ x ∈ M, ∃ v, D.atKey (.int .i64 x.1) (.held z) = .held v ∧ P x.2 v
 size : Maps.size D = M.length
 apart : M.Pairwise (fun x y => x.1 ≠ y.1)
section
variable {β : Type} {P P' : β → Value → Prop} {z : Value} {D : DataW Value} {M : List (Int × β)}
theorem RelG.start : RelG P z (.map []) [] := ⟨isMap_empty, fun k => by simp [Maps.has], fun x h => (by cases h), rfl, List.Pairwise.nil⟩
theorem RelG.imp (h : RelG P z D M) (hp : ∀ x v, P x v → P' x v) : RelG P' z D M := ⟨h.isMap, h.keys, fun x hx => by obtain ⟨v, h1, h2⟩ := h.vals x hx; exact ⟨v, h1, hp _ _ h2⟩, h.size, h.apart⟩
theorem RelG.no (h : RelG P z D M) {c : Int} (hno : ∀ x ∈ M, x.1 ≠ c) : Maps.has D (.int .i64 c) = false := by
 cases hh : Maps.has D (.int .i64 c)
 ·rfl
 ·obtain ⟨x, hx, e⟩ := (h.keys c).1 hh
  exact absurd e (hno x hx)
theorem RelG.new (h : RelG P z D M) (ht : Tidy D) {c : Int} (hno : ∀ x ∈ M, x.1 ≠ c) (y : β) (v : Value) (hv : P y v) : RelG P z (D.put (.int .i64 c) (.held v)) (M ++ [(c, y)]) := by
 have hn := h.no hno
 refine ⟨h.isMap.put _ _, fun k => ?_, fun x hx => ?_, ?_, ?_⟩
 ·by_cases e : k = c
  ·subst e
   rw [has_put_same h.isMap (by trivial)]
   exact ⟨fun _ => ⟨(k, y), by simp, rfl⟩, fun _ => rfl⟩
  ·rw [has_put_other (lit_ne e), h.keys]
   constructor
   ·rintro ⟨x, hx, rfl⟩
    exact ⟨x, List.mem_append_left _ hx, rfl⟩
   ·rintro ⟨x, hx, rfl⟩
    rcases List.mem_append.1 hx with hx | hx
    ·exact ⟨x, hx, rfl⟩
    ·rw [List.mem_singleton] at hx
     subst hx
     exact absurd rfl e
 ·rcases List.mem_append.1 hx with hx | hx
  ·rw [atKey_put_other (lit_ne (hno x hx))]
   exact h.vals x hx
  ·rw [List.mem_singleton] at hx
   subst hx
   refine ⟨v, ?_, hv⟩
   show DataW.atKey (DataW.put D (.int .i64 c) (.held v)) (.int .i64 c) (.held z) = .held v
   rw [atKey_put_same h.isMap (by trivial)]
 ·rw [size_put ht, hn, h.size]; simp
 ·refine List.pairwise_append.2 ⟨h.apart, List.pairwise_singleton _ _, fun x hx y hy => ?_⟩
  rw [List.mem_singleton] at hy
  subst hy
  exact hno x hx
def setG (c : Int) (y : β) (M : List (Int × β)) : List (Int × β) := M.map fun x => if x.1 = c then (c, y) else x
theorem setG_key (c : Int) (y : β) (x : Int × β) : (if x.1 = c then (c, y) else x).1 = x.1 := by
 split
 ·rename_i e; exact e.symm
 ·rfl
theorem RelG.old (h : RelG P z D M) (ht : Tidy D) {c : Int} {y0 : β} (hin : (c, y0) ∈ M) (y : β) (v : Value) (hv : P y v) : RelG P z (D.put (.int .i64 c) (.held v)) (setG c y M) := by
 have hn : Maps.has D (.int .i64 c) = true := (h.keys c).2 ⟨_, hin, rfl⟩
 refine ⟨h.isMap.put _ _, fun k => ?_, fun x hx => ?_, ?_, ?_⟩
 ·have hm : (∃ x ∈ setG c y M, x.1 = k) ↔ ∃ x ∈ M, x.1 = k := by
   unfold setG
   constructor
   ·rintro ⟨x, hx, rfl⟩
    obtain ⟨t, ht, rfl⟩ := List.mem_map.1 hx
    exact ⟨t, ht, (setG_key c y t).symm⟩
   ·rintro ⟨x, hx, rfl⟩
    exact ⟨_, List.mem_map.2 ⟨x, hx, rfl⟩, setG_key c y x⟩
  rw [hm]
  by_cases e : k = c
  ·subst e
   rw [has_put_same h.isMap (by trivial)]
   exact ⟨fun _ => ⟨_, hin, rfl⟩, fun _ => rfl⟩
  ·rw [has_put_other (lit_ne e), h.keys]
 ·obtain ⟨t, ht, rfl⟩ := List.mem_map.1 hx
  by_cases e : t.1 = c
  ·rw [if_pos e]
   refine ⟨v, ?_, hv⟩
   show DataW.atKey (DataW.put D (.int .i64 c) (.held v)) (.int .i64 c) (.held z) = .held v
   rw [atKey_put_same h.isMap (by trivial)]
  ·rw [if_neg e, atKey_put_other (lit_ne e)]
   exact h.vals t ht
 ·rw [size_put ht, hn, h.size]; simp [setG]
 ·unfold setG
  refine List.pairwise_map.2 (h.apart.imp fun {a b} hab => ?_)
  rw [setG_key, setG_key]
  exact hab
end
/-- Block b is a map of at most q entries that holds M. -/
def MapAt {β : Type} (P : β → Value → Prop) (z : Value) (w : World) (b q : Nat) (M : List (Int × β)) : Prop := ∃ D : DataW Value, w.ownsMap Try.prog 3 RH b q D ∧ RelG P z D M
theorem MapAt.lt {β : Type} {P : β → Value → Prop} {z : Value} {w : World} {b q : Nat} {M : List (Int × β)} (h : MapAt P z w b q M) : b < w.heap.size := by obtain ⟨D, ho, _⟩ := h; exact ho.lt
theorem MapAt.keep {β : Type} {P P' : β → Value → Prop} {z : Value} {w w' : World} {b q : Nat} {M : List (Int × β)} (h : MapAt P z w b q M) (hb : w'.heap[b]? = w.heap[b]?) (hp : ∀ x v, P x v → P' x v) : MapAt P' z w' b q M := by
 obtain ⟨D, ⟨es, clock, h3, h4⟩, hr⟩ := h
 exact ⟨D, ⟨es, clock, hb.trans h3, h4⟩, hr.imp hp⟩
def NumP (n : Int) (v : Value) : Prop := v = .int .i64 n
/-- What the list says of a key. -/
def getG {β : Type} (z : β) (c : Int) (M : List (Int × β)) : β := ((M.find? (fun x => x.1 == c)).map (·.2)).getD z
theorem getG_no {β : Type} (z : β) (c : Int) (M : List (Int × β)) (h : ∀ x ∈ M, x.1 ≠ c) : getG z c M = z := by
 unfold getG
 rw [List.find?_eq_none.2 (fun x hx => by simpa using h x hx)]
 rfl
theorem getG_in {β : Type} (z : β) (c : Int) (y : β) : ∀ (M : List (Int × β)), M.Pairwise (fun x y => x.1 ≠ y.1) → (c, y) ∈ M → getG z c M = y := by
 intro M
 induction M with
 | nil => intro _ h; cases h
 | cons x M ih =>
  intro hp h
  unfold getG at ih ⊢
  rw [List.find?_cons]
  by_cases e : x.1 = c
  ·rw [beq_iff_eq.2 e]
   rcases List.mem_cons.1 h with rfl | h
   ·rfl
   ·exact absurd e ((List.pairwise_cons.1 hp).1 _ h)
  ·rw [beq_eq_false_iff_ne.2 e]
   rcases List.mem_cons.1 h with rfl | h
   ·exact absurd rfl e
   ·exact ih (List.pairwise_cons.1 hp).2 h
def inM {β : Type} (c : Int) (M : List (Int × β)) : Bool := M.any (fun x => x.1 == c)
theorem inM_iff {β : Type} (c : Int) (M : List (Int × β)) : inM c M = true ↔ ∃ y, (c, y) ∈ M := by
 unfold inM
 rw [List.any_eq_true]
 constructor
 ·rintro ⟨x, hx, he⟩
  have : x.1 = c := by simpa using he
  exact ⟨x.2, by rw [← this]; exact hx⟩
 ·rintro ⟨y, hy⟩
  exact ⟨_, hy, by simp⟩
def putM {β : Type} (c : Int) (y : β) (M : List (Int × β)) : List (Int × β) := if inM c M = true then setG c y M else M ++ [(c, y)]
theorem putM_mem {β : Type} (c : Int) (y : β) (M : List (Int × β)) (x : Int × β) (h : x ∈ putM c y M) : x = (c, y) ∨ x ∈ M := by
 unfold putM at h
 split at h
 ·unfold setG at h
  obtain ⟨t, ht, rfl⟩ := List.mem_map.1 h
  split
  ·exact Or.inl rfl
  ·exact Or.inr ht
 ·rcases List.mem_append.1 h with h | h
  ·exact Or.inr h
  ·exact Or.inl (List.mem_singleton.1 h)
theorem RelG.put {β : Type} {P : β → Value → Prop} {z : Value} {D : DataW Value} {M : List (Int × β)} (h : RelG P z D M) (ht : Tidy D) (c : Int) (y : β) (v : Value) (hv : P y v) : RelG P z (D.put (.int .i64 c) (.held v)) (putM c y M) := by
 unfold putM
 by_cases hin : inM c M = true
 ·rw [if_pos hin]
  obtain ⟨y0, h0⟩ := (inM_iff c M).1 hin
  exact h.old ht h0 y v hv
 ·rw [if_neg hin]
  exact h.new ht (fun x hx he => hin ((inM_iff c M).2 ⟨x.2, by rw [← he]; exact hx⟩)) y v hv
theorem MapAt.mono {β : Type} {P : β → Value → Prop} {z : Value} {w : World} {b q q' : Nat} {M : List (Int × β)} (h : MapAt P z w b q M) (hq : q ≤ q') : MapAt P z w b q' M := by
 obtain ⟨D, h2, h3⟩ := h
 exact ⟨D, h2.mono hq, h3⟩
theorem zero3 (w : World) : (zeroValue 3).run Try.prog w = .ok (.int .i64 0) w := by kernel_rfl
theorem look_run {P : Program} {w : World} {k e t b n : Nat} {D : DataW Value} (hown : w.ownsMap P k RH b n D) (K : Keyed P k) (ht : P.underlying t = some (.map k e)) {z : Value} (hz : (zeroValue e).run P w = .ok z w) {key : Value} {kl : Lit} (hkey : keyOf P k key = some kl) {V : Value} (hat : D.atKey kl (.held z) = .held V) : (Instr.lookup t (.map (some b)) key false).run P w = .ok V w := by
 obtain ⟨v, ps, hrun, hv⟩ := hown.lookup K ht hz (zd := .held z) (zp := []) rfl hkey
 rw [hat] at hv
 unfold RH at hv
 injection hv with hv
 injection hv with hv _
 injection hv with hv
 subst hv
 exact hrun
theorem MapAt.look {w : World} {b q : Nat} {M : List (Int × Int)} {t : TypeId} (h : MapAt NumP (.int .i64 0) w b q M) (ht : Try.prog.underlying t = some (.map 3 3)) (c : Int) (hc : 0 ≤ c ∧ c ≤ 1099511627776) :
  (Instr.lookup t (.map (some b)) (.int .i64 c) false).run Try.prog w = .ok (.int .i64 (getG 0 c M)) w := by
 have hk : keyOf Try.prog 3 (.int .i64 c) = some (.int .i64 c) := keyOf_int_mk (P := Try.prog) (k := 3) Try.underlying3 (show (Lit.int .i64 c).wf = true by simp [Lit.wf]; simp [IntKind.min, IntKind.bits]; omega)
 obtain ⟨D, ho, hr⟩ := h
 refine look_run ho law3 ht (zero3 _) hk ?_
 by_cases hin : ∃ y, (c, y) ∈ M
 ·obtain ⟨y, hy⟩ := hin
  obtain ⟨v, h1, h2⟩ := hr.vals (c, y) hy
  rw [getG_in 0 c y M hr.apart hy]
  unfold NumP at h2
  rw [← h2]
  exact h1
 ·rw [getG_no 0 c M (fun x hx he => hin ⟨x.2, by rw [← he]; exact hx⟩)]
  refine atKey_of_not_has (hr.no (fun x hx he => hin ⟨x.2, by rw [← he]; exact hx⟩)) _
theorem MapAt.put {w : World} {b q : Nat} {M : List (Int × Int)} {t : TypeId} (h : MapAt NumP (.int .i64 0) w b q M) (ht : Try.prog.underlying t = some (.map 3 3)) (hq : q < 100000) (c v : Int) (hc : 0 ≤ c ∧ c ≤ 1099511627776) :
  ∃ w', (Instr.mapUpdate t (.map (some b)) (.int .i64 c) (.int .i64 v)).run Try.prog w = .ok () w' ∧ MapAt NumP (.int .i64 0) w' b (q + 1) (putM c v M) ∧ w.grownBy w' (some b) := by
 have hk : keyOf Try.prog 3 (.int .i64 c) = some (.int .i64 c) := keyOf_int_mk (P := Try.prog) (k := 3) Try.underlying3 (show (Lit.int .i64 c).wf = true by simp [Lit.wf]; simp [IntKind.min, IntKind.bits]; omega)
 obtain ⟨D, ho, hr⟩ := h
 obtain ⟨w', hrun, hown, hgrow⟩ := ho.update law3 ht (show q < maxLen by unfold maxLen; omega) hk (show RH (.int .i64 v) = some (.held (.int .i64 v), []) from rfl)
 exact ⟨w', hrun, ⟨_, hown, hr.put (ho.tidy law3) c v _ rfl⟩, hgrow⟩
theorem getG_put {β : Type} (z : β) (c d : Int) (y : β) (M : List (Int × β)) : getG z d (putM c y M) = if d = c then y else getG z d M := by
 unfold putM
 by_cases hin : inM c M = true
 ·rw [if_pos hin]
  have key : ∀ M : List (Int × β), inM c M = true → getG z d (setG c y M) = if d = c then y else getG z d M := by
   intro M
   induction M with
   | nil => intro h; simp [inM] at h
   | cons x M ih =>
    intro h
    unfold getG setG at ih ⊢
    simp only [List.map_cons, List.find?_cons]
    by_cases e : x.1 = c
    ·simp only [if_pos e]
     by_cases hd : d = c
     ·subst hd
      simp
     ·have h1 : ((c, y).1 == d) = false := by simpa using fun h => hd h.symm
      have h2 : (x.1 == d) = false := by rw [e]; simpa using fun h => hd h.symm
      simp only [h1, h2, if_neg hd]
      by_cases hM : inM c M = true
      ·have := ih hM
       rw [if_neg hd] at this
       exact this
      ·have hno : ∀ x ∈ M, x.1 ≠ c := fun x hx he => hM ((inM_iff c M).2 ⟨x.2, by rw [← he]; exact hx⟩)
       have : M.map (fun x => if x.1 = c then (c, y) else x) = M := by
        refine (List.map_congr_left (fun x hx => ?_)).trans (List.map_id _)
        rw [if_neg (hno x hx)]; rfl
       rw [this]
    ·simp only [if_neg e]
     by_cases hx : (x.1 == d) = true
     ·have hd : d ≠ c := by
       rintro rfl
       exact e (by simpa using hx)
      simp only [hx, if_neg hd]
     ·have hx' : (x.1 == d) = false := by simpa using hx
      simp only [hx']
      have hM : inM c M = true := by
       unfold inM at h ⊢
       simpa [e] using h
      exact ih hM
  exact key M hin
 ·rw [if_neg hin]
  have hno : ∀ x ∈ M, x.1 ≠ c := fun x hx he => hin ((inM_iff c M).2 ⟨x.2, by rw [← he]; exact hx⟩)
  unfold getG
  rw [List.find?_append]
  by_cases hd : d = c
  ·subst hd
   rw [List.find?_eq_none.2 (fun x hx => by simpa using hno x hx)]
   simp
  ·have h1 : ((c, y).1 == d) = false := by simpa using fun h => hd h.symm
   simp [h1, hd]
end Go.Proofs.Ytonedijkgddepaa.P
namespace Go.Proofs.Ytonedijkgddepaa.P
open Go.Sq
open Go.RowKit Go.Proofs.YtonedijkgddepaaW.PrintWords Go.Proofs.YtonedijkgddepaaW.PrintLast Go.Proofs.YtonedijkgddepaaW.PrintMore
attribute [local go_sem] max2_int min2_int max_two min_two max_three min_three max_four min_four   -- for this text's walks alone
set_option linter.unusedVariables false
set_option linter.unusedSimpArgs false
def front_is.f (a0 : Int) : Option (Bool) := if a0 ≥ 0 then (some (decide (a0 ≤ 6))) else (some false)
end Go.Proofs.Ytonedijkgddepaa.P
namespace Go.Proofs.Ytonedijkgddepaa.P
open Go.Sq
open Go.RowKit Go.Maps Go.Proofs.YtonedijkgddepaaW.PrintWords Go.Proofs.YtonedijkgddepaaW.PrintLast Go.Proofs.YtonedijkgddepaaW.PrintMore
set_option linter.unusedVariables false
set_option linter.unusedSimpArgs false
/-- An asker. -/
structure As where
 id : Int
 nodes : Int
 retry : Int
 num : Int
 group : Int
 cmd : S38
 busy : Bool
 sent : Bool
 waited : Int
 lead : List (Int × Int)
def askA (s : As) (bl : Nat) : Array Value := #[(.int .i64 s.id), (.int .i64 s.nodes), (.int .i64 s.retry), (.int .i64 s.num), (.int .i64 s.group), (.int .i64 s.cmd.f0), (.int .i64 s.cmd.f1), (.int .i64 s.cmd.f2), (.int .i64 s.cmd.f3), (.int .i64 s.cmd.f4), (.string s.cmd.f5), (.string s.cmd.f6), (.string s.cmd.f7), (.string s.cmd.f8), (.int .i64 s.cmd.f9), (.int .i64 s.cmd.f10), (.int .i64 s.cmd.f11.f0), (.string s.cmd.f11.f1), (.int .i64 s.cmd.f11.f2), (.int .i64 s.cmd.f11.f3), (.int .i64 s.cmd.f12.f0), (.int .i64 s.cmd.f12.f1), (.int .i64 s.cmd.f13), (.slice none 0 0), (.bool s.busy), (.bool s.sent), (.int .i64 s.waited), (.map (some bl))]
/-- Block B is an asker, bl its map. -/
structure AskAt (w : World) (B bl q : Nat) (s : As) : Prop where
 blk : w.heap[B]? = some (.cells (askA s bl) 97 (0, 0))
 map : MapAt NumP (.int .i64 0) w bl q s.lead
/-- An asker that NewAsker made, some calls on. -/
structure As.ok (s : As) (q : Nat) : Prop where
 id1 : 1 ≤ s.id ∧ s.id ≤ 1099511627776
 nodes1 : 1 ≤ s.nodes ∧ s.nodes ≤ 5
 retry1 : 1 ≤ s.retry ∧ s.retry ≤ 1000
 num1 : 0 ≤ s.num ∧ s.num ≤ q
 group1 : 0 ≤ s.group ∧ s.group ≤ 6
 waited1 : 0 ≤ s.waited ∧ s.waited ≤ 1000
 lead1 : ∀ x ∈ s.lead, 0 ≤ x.2 ∧ x.2 < s.nodes
 q1 : q < 100000
 data0 : s.cmd.f14 = []
theorem AskAt.lt {w : World} {B bl q : Nat} {s : As} (h : AskAt w B bl q s) : B < w.heap.size ∧ bl < w.heap.size ∧ B ≠ bl := by
 refine ⟨blk_lt h.blk, h.map.lt, fun e => ?_⟩
 obtain ⟨D, ⟨es, clock, h3, _⟩, _⟩ := h.map
 rw [← e, h.blk] at h3
 cases h3
theorem AskAt.keep {w w' : World} {B bl q : Nat} {s : As} (h : AskAt w B bl q s) (h1 : w'.heap[B]? = w.heap[B]?) (h2 : w'.heap[bl]? = w.heap[bl]?) : AskAt w' B bl q s := ⟨h1.trans h.blk, h.map.keep h2 (fun _ _ h => h)⟩
theorem AskAt.below {w w' : World} {B bl q : Nat} {s : As} (h : AskAt w B bl q s) (hb : Below w.heap.size w w') : AskAt w' B bl q s := h.keep (hb.block B h.lt.1) (hb.block bl h.lt.2.1)
theorem AskAt.mono {w : World} {B bl q q' : Nat} {s : As} (h : AskAt w B bl q s) (hq : q ≤ q') : AskAt w B bl q' s := ⟨h.blk, h.map.mono hq⟩
theorem As.ok.mono {s : As} {q q' : Nat} (h : s.ok q) (hq : q ≤ q') (h2 : q' < 100000) : s.ok q' := ⟨h.id1, h.nodes1, h.retry1, ⟨h.num1.1, by have := h.num1.2; omega⟩, h.group1, h.waited1, h.lead1, h2, h.data0⟩
/-- What was written: blocks of S, and new ones. -/
structure Upd (w w' : World) (S : Nat → Prop) : Prop where
 os : w'.os = w.os
 tape : w'.tape = w.tape
 output : w'.output = w.output
 kept : Kept w w' S
theorem Upd.refl (w : World) (S : Nat → Prop) : Upd w w S := ⟨rfl, rfl, rfl, Kept.refl _ _⟩
theorem Upd.of_below {w w' : World} (h : Below w.heap.size w w') (S : Nat → Prop) : Upd w w' S := ⟨h.os, h.tape, h.output, Kept.of_below h S⟩
theorem Upd.trans {w w1 w2 : World} {S S2 : Nat → Prop} (h : Upd w w1 S) (k : Upd w1 w2 S2) (hs : ∀ k, S2 k → S k ∨ w.heap.size ≤ k) : Upd w w2 S := ⟨k.os.trans h.os, k.tape.trans h.tape, k.output.trans h.output, h.kept.then_ k.kept hs⟩
theorem Upd.and {w w1 w2 : World} {S : Nat → Prop} (h : Upd w w1 S) (k : Upd w1 w2 S) : Upd w w2 S := h.trans k (fun _ h => .inl h)
theorem Upd.mono {w w1 : World} {S S' : Nat → Prop} (h : Upd w w1 S) (hs : ∀ k, S k → S' k) : Upd w w1 S' := ⟨h.os, h.tape, h.output, h.kept.mono hs⟩
theorem Upd.grown {w w1 : World} {b : Nat} (h : w.grownBy w1 (some b)) : Upd w w1 (fun k => k = b) := ⟨h.os, h.tape, h.output, h.size, fun i hi hn => h.block i hi (fun e => hn (Option.some.inj e))⟩
theorem Upd.set (w : World) (p : Addr) (u : Value) : Upd w (w.setCell p u) (fun k => k = p.block) := ⟨rfl, rfl, rfl, Kept.setCell (S := fun k => k = p.block) (Kept.refl _ _) (.inl rfl) u⟩
theorem Upd.drew (w : World) (n : Nat) (S : Nat → Prop) : Upd w (w.drewN n) S := Upd.of_below (pw_below_drewN (Below.refl _ _) n) S
theorem Upd.toBelow {w0 w w' : World} {S : Nat → Prop} {B : Nat} (h : Below B w0 w) (k : Upd w w' S) (hB : B ≤ w.heap.size) (hs : ∀ k, S k → B ≤ k) : Below B w0 w' :=
 ⟨k.os.trans h.os, k.tape.trans h.tape, k.output.trans h.output, Nat.le_trans h.size k.kept.1, fun i hi => (k.kept.2 i (Nat.lt_of_lt_of_le hi hB) (fun hk => by have := hs i hk; omega)).trans (h.block i hi)⟩
theorem Upd.block {w w' : World} {S : Nat → Prop} (k : Upd w w' S) {g : Nat} {o : Obj} (h : w.heap[g]? = some o) (hn : ¬ S g) : w'.heap[g]? = some o := (k.kept.2 g (blk_lt h) hn).trans h
theorem Upd.row {α : Type} {d : Kd α} {e base : Nat} {ok : Nat → Prop} {v : Value} {xs : List α} {w w' : World} {S : Nat → Prop} (k : Upd w w' S) (h : d.R e w base ok v xs) (hn : ∀ i, ok i → ¬ S i) : d.R e w' base ok v xs := Kd.R_step h (fun i hi hl => k.kept.2 i hl (hn i hi))
/-- An asker's blocks. -/
def SA (B bl : Nat) : Nat → Prop := fun k => k = B ∨ k = bl
theorem askSet {w : World} {B bl : Nat} {s s' : As} (h : w.heap[B]? = some (.cells (askA s bl) 97 (0, 0))) (i : Nat) (u : Value) (he : (askA s bl).setIfInBounds i u = askA s' bl) : (w.setCell ⟨B, i, none⟩ u).heap[B]? = some (.cells (askA s' bl) 97 (0, 0)) := by
 rw [← he]
 exact blk_set h i u
set_option maxHeartbeats 4000000 in
set_option maxRecDepth 100000 in
theorem askNoneOk (w : World) (B bl q : Nat) (s : As) (h : AskAt w B bl q s) (hi : s.id ≠ 0) :
  Calls Try.prog 50 #[.pointer (some ⟨B, 0, none⟩)] w fun e' w' => e' = .returned (.bool false) ∧ w' = w := by
 have HB := Aside0.mk h.blk
 clear h
 have a0 : w.cell? ⟨B, 0, none⟩ = some (.int .i64 s.id) := (blk_cell HB.out 0).trans rfl
 have f0 : (s.id == 0) = false := beq_eq_false_iff_ne.2 hi
 clear hi
 go_enter Try.func50, Try.ntmps50
 go_wp2
 go_ret
 exact ⟨rfl, rfl⟩
set_option maxHeartbeats 4000000 in
set_option maxRecDepth 100000 in
theorem askBusyOk (w : World) (B bl q : Nat) (s : As) (h : AskAt w B bl q s) (hi : s.id ≠ 0) :
  Calls Try.prog 31 #[.pointer (some ⟨B, 0, none⟩)] w fun e' w' => e' = .returned (.bool s.busy) ∧ w' = w := by
 have H := Aside0.mk h
 have HI := Aside0.mk hi
 clear hi
 have HB := Aside0.mk h.blk
 clear h
 have a24 : w.cell? ⟨B, 24, none⟩ = some (.bool s.busy) := (blk_cell HB.out 24).trans rfl
 go_enter Try.func31, Try.ntmps31
 go_wp2_with (go_at_call 50; (with_reducible refine (askNoneOk _ B bl q s H.out HI.out).mono ?_); rintro e1 w1 ⟨rfl, rfl⟩)
 go_ret
 exact ⟨rfl, rfl⟩
set_option maxHeartbeats 4000000 in
set_option maxRecDepth 100000 in
theorem askNumOk (w : World) (B bl q : Nat) (s : As) (h : AskAt w B bl q s) (hi : s.id ≠ 0) :
  Calls Try.prog 32 #[.pointer (some ⟨B, 0, none⟩)] w fun e' w' => e' = .returned (.int .i64 s.num) ∧ w' = w := by
 have H := Aside0.mk h
 have HI := Aside0.mk hi
 clear hi
 have HB := Aside0.mk h.blk
 clear h
 have a3 : w.cell? ⟨B, 3, none⟩ = some (.int .i64 s.num) := (blk_cell HB.out 3).trans rfl
 go_enter Try.func32, Try.ntmps32
 go_wp2_with (go_at_call 50; (with_reducible refine (askNoneOk _ B bl q s H.out HI.out).mono ?_); rintro e1 w1 ⟨rfl, rfl⟩)
 go_ret
 exact ⟨rfl, rfl⟩
def nextV (s : As) : As := { s with lead := putM s.group ((getG 0 s.group s.lead + 1).tmod s.nodes) s.lead }
theorem lead_bound {s : As} {q : Nat} (hk : s.ok q) : 0 ≤ getG 0 s.group s.lead ∧ getG 0 s.group s.lead < 5 := by
 have h1 := hk.nodes1
 unfold getG
 cases hf : s.lead.find? (fun x => x.1 == s.group) with
 | none => simp
 | some x =>
  have := hk.lead1 x (List.mem_of_find?_eq_some hf)
  simp only [Option.map_some, Option.getD_some]
  omega
theorem nextV_ok {s : As} {q : Nat} (hk : s.ok q) : (nextV s).ok q := by
 have h1 := hk.nodes1
 have h2 := lead_bound hk
 refine ⟨hk.id1, hk.nodes1, hk.retry1, hk.num1, hk.group1, hk.waited1, fun x hx => ?_, hk.q1, hk.data0⟩
 rcases putM_mem _ _ _ _ hx with rfl | hx
 ·exact ⟨Int.tmod_nonneg _ (by omega), Int.tmod_lt_of_pos _ (show (0 : Int) < s.nodes by omega)⟩
 ·exact hk.lead1 x hx
set_option maxHeartbeats 4000000 in
set_option maxRecDepth 100000 in
theorem askNext (w : World) (B bl q : Nat) (s : As) (h : AskAt w B bl q s) (hk : s.ok q) :
  Calls Try.prog 44 #[.pointer (some ⟨B, 0, none⟩)] w fun e' w' => e' = .returned (.tuple #[]) ∧ AskAt w' B bl (q + 1) (nextV s) ∧ Upd w w' (SA B bl) := by
 have H := Aside0.mk h
 have HK := Aside0.mk hk
 have HB := Aside0.mk h.blk
 have HM := Aside0.mk h.map
 have HL := Aside0.mk (fun (w' : World) (hb : Below w.heap.size w w') => MapAt.look (t := 95) (h.map.keep (hb.block _ h.map.lt) (fun _ _ h => h)) Try.underlying95 s.group (by have := hk.group1; omega))
 have hlb := lead_bound hk
 have hw1 : wrap64 (getG 0 s.group s.lead + 1) = getG 0 s.group s.lead + 1 := by unfold wrap64; omega
 have hw2 : IntKind.i64.wrap (getG 0 s.group s.lead + 1) = getG 0 s.group s.lead + 1 := (i64_w _).trans hw1
 have hz : (s.nodes == 0) = false := beq_eq_false_iff_ne.2 (by have := hk.nodes1; omega)
 have hz2 : s.nodes ≠ 0 := by have := hk.nodes1; omega
 clear h hk hlb
 have a1 : w.cell? ⟨B, 1, none⟩ = some (.int .i64 s.nodes) := (blk_cell HB.out 1).trans rfl
 have a4 : w.cell? ⟨B, 4, none⟩ = some (.int .i64 s.group) := (blk_cell HB.out 4).trans rfl
 have a27 : w.cell? ⟨B, 27, none⟩ = some (.map (some bl)) := (blk_cell HB.out 27).trans rfl
 go_enter Try.func44, Try.ntmps44
 go_wp2
 refine start_ (n := 24) (S := fun w' => Below w.heap.size w w') (ds := [23]) (bq 24 0) (by kernel_rfl) rfl rfl (below_drew (Below.refl _ _)) (fun hHeld => ?_)
 generalize w.drew = wd at hHeld ⊢
 refine pu 0 2 (bq 24 1) ?_ rfl rfl (by kernel_rfl) (fun _ _ _ h => h) (by rfl) ?_ ?_ ?_ ?_
 rotate_left
 ·intro w'; go_simp; with_reducible rfl
 rotate_left
 ·simp only [Act.put, sqA, sqB, sqC, i64_w, i32_w]
  rfl
 refine pu 1 3 (bq 24 3) ?_ rfl rfl (by kernel_rfl) (fun _ _ _ h => h) (by rfl) ?_ ?_ ?_ ?_
 rotate_left
 ·intro w'; go_simp; with_reducible rfl
 rotate_left
 ·simp only [Act.put, sqA, sqB, sqC, i64_w, i32_w]
  rfl
 refine pu 2 4 (bq 24 7) ?_ rfl rfl (by kernel_rfl) (fun _ _ _ h => h) (by rfl) ?_ ?_ ?_ ?_
 rotate_left
 ·intro w'; go_simp; with_reducible rfl
 rotate_left
 ·simp only [Act.put, sqA, sqB, sqC, i64_w, i32_w]
  rfl
 refine pu 4 6 (bq 24 23) ?_ rfl rfl (by kernel_rfl) (fun _ _ _ h => h) (by rfl) ?_ ?_ ?_ ?_
 rotate_left
 ·intro w'; go_simp; with_reducible rfl
 rotate_left
 ·simp only [Act.put, sqA, sqB, sqC, i64_w, i32_w]
  rfl
 refine pu 5 7 (bq 24 55) ?_ rfl rfl (by kernel_rfl) (fun _ _ _ h => h) (by rfl) ?_ ?_ ?_ ?_
 rotate_left
 ·intro w'; go_simp; with_reducible rfl
 rotate_left
 ·simp only [Act.put, sqA, sqB, sqC, i64_w, i32_w]
  rfl
 refine pu 6 8 (bq 24 119) ?_ rfl rfl (by kernel_rfl) (fun _ _ _ h => h) (by rfl) ?_ ?_ ?_ ?_
 rotate_left
 ·intro w'; go_simp; with_reducible rfl
 rotate_left
 ·simp only [Act.put, sqA, sqB, sqC, i64_w, i32_w]
  rfl
 refine pu 8 10 (bq 24 375) ?_ rfl rfl (by kernel_rfl) (fun _ _ _ h => h) (by rfl) ?_ ?_ ?_ ?_
 rotate_left
 ·intro w'; go_simp; with_reducible rfl
 rotate_left
 ·simp only [Act.put, sqA, sqB, sqC, i64_w, i32_w]
  rfl
 refine pu 9 11 (bq 24 887) ?_ rfl rfl (by kernel_rfl) (fun _ _ _ h => h) (by rfl) ?_ ?_ ?_ ?_
 rotate_left
 ·intro w'; go_simp; with_reducible rfl
 rotate_left
 ·simp only [Act.put, sqA, sqB, sqC, i64_w, i32_w]
  rfl
 refine pu 10 12 (bq 24 1911) ?_ rfl rfl (by kernel_rfl) (fun _ _ _ h => h) (by rfl) ?_ ?_ ?_ ?_
 rotate_left
 ·intro w'; go_simp; with_reducible rfl
 rotate_left
 ·simp only [Act.put, sqA, sqB, sqC, i64_w, i32_w]
  rfl
 refine pu 12 14 (bq 24 6007) ?_ rfl rfl (by kernel_rfl) (fun _ _ _ h => h) (by rfl) ?_ ?_ ?_ ?_
 rotate_left
 ·intro w'; go_simp; with_reducible rfl
 rotate_left
 ·simp only [Act.put, sqA, sqB, sqC, i64_w, i32_w]
  rfl
 refine pu 13 15 (bq 24 14199) ?_ rfl rfl (by kernel_rfl) (fun _ _ _ h => h) (by rfl) ?_ ?_ ?_ ?_
 rotate_left
 ·intro w'; go_simp; with_reducible rfl
 rotate_left
 ·simp only [Act.put, sqA, sqB, sqC, i64_w, i32_w]
  rfl
 refine pu 14 16 (bq 24 30583) ?_ rfl rfl (by kernel_rfl) (fun _ _ _ h => h) (by rfl) ?_ ?_ ?_ ?_
 rotate_left
 ·intro w'; go_simp; with_reducible rfl
 rotate_left
 ·simp only [Act.put, sqA, sqB, sqC, i64_w, i32_w]
  rfl
 refine pu 18 20 (bq 24 292727) ?_ rfl rfl (by kernel_rfl) (fun _ _ _ h => h) (by rfl) ?_ ?_ ?_ ?_
 rotate_left
 ·intro w'; go_simp; with_reducible rfl
 rotate_left
 ·simp only [Act.put, sqA, sqB, sqC, i64_w, i32_w]
  rfl
 refine pu 19 21 (bq 24 817015) ?_ rfl rfl (by kernel_rfl) (fun _ _ _ h => h) (by rfl) ?_ ?_ ?_ ?_
 rotate_left
 ·intro w'; go_simp; with_reducible rfl
 rotate_left
 ·simp only [Act.put, sqA, sqB, sqC, i64_w, i32_w]
  rfl
 refine pu 20 22 (bq 24 1865591) ?_ rfl rfl (by kernel_rfl) (fun _ _ _ h => h) (by rfl) ?_ ?_ ?_ ?_
 rotate_left
 ·intro w'; go_simp; with_reducible rfl
 rotate_left
 ·simp only [Act.put, sqA, sqB, sqC, i64_w, i32_w]
  rfl
 refine tk 3 5 (bq 24 1865599) ?_ rfl rfl (by kernel_rfl) (fun _ _ _ h => h) (by rfl) ?_ hHeld ?_ ?_ ?_
 rotate_left
 ·intro w' hw'
  have hb_ := blk_below HB.out hw'
  have s1 := (blk_cell hb_ 1).trans (show _ = some (.int .i64 s.nodes) from rfl)
  have s4 := (blk_cell hb_ 4).trans (show _ = some (.int .i64 s.group) from rfl)
  have s27 := (blk_cell hb_ 27).trans (show _ = some (.map (some bl)) from rfl)
  go_simp
  with_reducible rfl
 rotate_left
 ·simp only [Act.put, sqA, sqB, sqC, i64_w, i32_w]
  rfl
 refine tk 7 9 (bq 24 1865727) ?_ rfl rfl (by kernel_rfl) (fun _ _ _ h => h) (by rfl) ?_ hHeld ?_ ?_ ?_
 rotate_left
 ·intro w' hw'
  have hb_ := blk_below HB.out hw'
  have s1 := (blk_cell hb_ 1).trans (show _ = some (.int .i64 s.nodes) from rfl)
  have s4 := (blk_cell hb_ 4).trans (show _ = some (.int .i64 s.group) from rfl)
  have s27 := (blk_cell hb_ 27).trans (show _ = some (.map (some bl)) from rfl)
  go_simp
  with_reducible rfl
 rotate_left
 ·simp only [Act.put, sqA, sqB, sqC, i64_w, i32_w]
  rfl
 refine tk 11 13 (bq 24 1867775) ?_ rfl rfl (by kernel_rfl) (fun _ _ _ h => h) (by rfl) ?_ hHeld ?_ ?_ ?_
 rotate_left
 ·intro w' hw'
  have hb_ := blk_below HB.out hw'
  have s1 := (blk_cell hb_ 1).trans (show _ = some (.int .i64 s.nodes) from rfl)
  have s4 := (blk_cell hb_ 4).trans (show _ = some (.int .i64 s.group) from rfl)
  have s27 := (blk_cell hb_ 27).trans (show _ = some (.map (some bl)) from rfl)
  go_simp
  with_reducible rfl
 rotate_left
 ·simp only [Act.put, sqA, sqB, sqC, i64_w, i32_w]
  rfl
 refine tk 15 17 (bq 24 1900543) ?_ rfl rfl (by kernel_rfl) (fun _ _ _ h => h) (by rfl) ?_ hHeld ?_ ?_ ?_
 rotate_left
 ·intro w' hw'
  have hb_ := blk_below HB.out hw'
  have s1 := (blk_cell hb_ 1).trans (show _ = some (.int .i64 s.nodes) from rfl)
  have s4 := (blk_cell hb_ 4).trans (show _ = some (.int .i64 s.group) from rfl)
  have s27 := (blk_cell hb_ 27).trans (show _ = some (.map (some bl)) from rfl)
  go_simp
  with_reducible rfl
 rotate_left
 ·simp only [Act.put, sqA, sqB, sqC, i64_w, i32_w]
  rfl
 refine tk 16 18 (bq 24 1966079) ?_ rfl rfl (by kernel_rfl) (fun _ _ _ h => h) (by rfl) ?_ hHeld ?_ ?_ ?_
 rotate_left
 ·intro w' hw'
  have s0 := HL.out w' hw'
  go_simp
  with_reducible rfl
 rotate_left
 ·simp only [Act.put, sqA, sqB, sqC, i64_w, i32_w]
  rfl
 refine pu 17 19 (bq 24 2097151) ?_ rfl rfl (by kernel_rfl) (fun _ _ _ h => h) (by rfl) ?_ ?_ ?_ ?_
 rotate_left
 ·intro w'; go_simp; with_reducible rfl
 rotate_left
 ·simp only [Act.put, sqA, sqB, sqC, i64_w, i32_w]
  rfl
 refine tk 21 23 (bq 24 4194303) ?_ rfl rfl (by kernel_rfl) (fun _ _ _ h => h) (by rfl) ?_ hHeld ?_ ?_ ?_
 rotate_left
 ·intro w' hw'
  have hb_ := blk_below HB.out hw'
  have s1 := (blk_cell hb_ 1).trans (show _ = some (.int .i64 s.nodes) from rfl)
  have s4 := (blk_cell hb_ 4).trans (show _ = some (.int .i64 s.group) from rfl)
  have s27 := (blk_cell hb_ 27).trans (show _ = some (.map (some bl)) from rfl)
  go_simp
  with_reducible rfl
 rotate_left
 ·simp only [Act.put, sqA, sqB, sqC, i64_w, i32_w]
  rfl
 refine pu 22 24 (bq 24 8388607) ?_ rfl rfl (by kernel_rfl) (fun _ _ _ h => h) (by rfl) ?_ ?_ ?_ ?_
 rotate_left
 ·intro w'; go_simp; with_reducible rfl
 rotate_left
 ·simp only [Act.put, sqA, sqB, sqC, i64_w, i32_w]
  rfl
 refine last_ (i := 23) (N := none) (bq 24 16777215) rfl rfl (by kernel_rfl) (by decide) (fun K hK => ?_)
 obtain ⟨w2, hrun, hm2, hg2⟩ := (HM.out.keep (w' := wd) (P' := NumP) (hHeld.block _ HM.out.lt) (fun _ _ h => h)).put (t := 95) Try.underlying95 HK.out.q1 s.group ((getG 0 s.group s.lead + 1).tmod s.nodes) (by have := HK.out.group1; omega)
 refine skip_ (w1 := w2) (by rfl) rfl ?_ ?_
 ·simp only [execOp, Act.eval, Act.put, List.setIfInBounds_toArray, List.set_cons_zero, List.set_cons_succ]
  go_simp
 refine hK.out _ _ ?_
 clear hK K
 refine done_ (by kernel_rfl) ?_
 go_end0
 have hB := hHeld.block B (blk_lt HB.out)
 have hne := H.out.lt.2.2
 refine ⟨rfl, ⟨?_, hm2⟩, ((Upd.of_below hHeld _).and ((Upd.grown hg2).mono (fun k hk => Or.inr hk)))⟩
 exact (hg2.block B (Nat.lt_of_lt_of_le H.out.lt.1 hHeld.size) (fun e => hne (Option.some.inj e))).trans (hB.trans HB.out)
end Go.Proofs.Ytonedijkgddepaa.P
namespace Go.Proofs.Ytonedijkgddepaa.P
open Go.Sq
open Go.RowKit Go.Maps Go.Proofs.YtonedijkgddepaaW.PrintWords Go.Proofs.YtonedijkgddepaaW.PrintLast Go.Proofs.YtonedijkgddepaaW.PrintMore
set_option linter.unusedVariables false
set_option linter.unusedSimpArgs false

theorem setCells_heap (g : Nat) (t : TypeId) : ∀ (vs : List Value) (o : Nat) (w : World) (cur : Array Value), w.heap[g]? = some (.cells cur t (0, 0)) → o + vs.length ≤ cur.size →
  (w.setCells g o vs).heap[g]? = some (.cells (cur.toList.take o ++ vs ++ cur.toList.drop (o + vs.length)).toArray t (0, 0)) := by
 intro vs
 induction vs with
 | nil =>
  intro o w cur h hs
  rw [World.setCells, h]
  simp
 | cons v r ih =>
  intro o w cur h hs
  rw [World.setCells, ih (o + 1) _ _ (blk_set h o v) (by simp at hs ⊢; omega)]
  have hlt : o < cur.toList.length := by simp at hs ⊢; omega
  have hset : cur.toList.set o v = cur.toList.take o ++ v :: cur.toList.drop (o + 1) := by rw [List.set_eq_take_append_cons_drop, if_pos hlt]
  have hl : (cur.toList.take o).length = o := by rw [List.length_take]; omega
  have e1 : (cur.toList.set o v).take (o + 1) = cur.toList.take o ++ [v] := by
   rw [hset, List.take_append, hl, List.take_of_length_le (by omega)]
   simp
  have e2 : (cur.toList.set o v).drop (o + 1 + r.length) = cur.toList.drop (o + (v :: r).length) := by
   rw [hset, List.drop_append, hl, List.drop_of_length_le (by omega)]
   rw [show o + 1 + r.length - o = r.length + 1 by omega]
   simp
   omega
  rw [Array.toList_setIfInBounds, e1, e2]
  simp
theorem setCells_upd (g : Nat) : ∀ (vs : List Value) (o : Nat) (w : World), Upd w (w.setCells g o vs) (fun k => k = g) := by
 intro vs
 induction vs with
 | nil => intro o w; rw [World.setCells]; exact Upd.refl _ _
 | cons v r ih => intro o w; rw [World.setCells]; exact (Upd.set w ⟨g, o, none⟩ v).and (ih (o + 1) _)
theorem range_blk {w : World} {g off : Nat} {cur : Array Value} {T : TypeId} (hb : w.heap[g]? = some (.cells cur T (0, 0))) (cs : List Value) (hseg : (cur.toList.drop off).take cs.length = cs) : w.rangeAt g off cs := by
 intro j v hv
 have hj : j < cs.length := (List.getElem?_eq_some_iff.1 hv).1
 rw [blk_cell hb, ← hv, ← hseg, List.getElem?_take_of_lt hj, List.getElem?_drop]
 simp
theorem there_blk {w : World} {g off n : Nat} {cur : Array Value} {T : TypeId} (hb : w.heap[g]? = some (.cells cur T (0, 0))) (hs : off + n ≤ cur.size) : w.there g off n := by
 intro j hj
 refine ⟨?_, blk_frozen hb _⟩
 rw [blk_cell hb, Array.getElem?_eq_getElem (by omega)]
 rfl
section
variable {P : Program} {ops : Array Oper} {rest : List Oper} {o : Oper} {a : Act} {Q : Exit → Act → World → Prop} {W : World}
theorem load_blk (hgd : o.guard = none) (t : TypeId) (x : Operand) (ho : o.op = .load t x) (g off : Nat) (hx : a.eval x = .pointer (some ⟨g, off, none⟩)) {cur : Array Value} {T : TypeId} (hb : W.heap[g]? = some (.cells cur T (0, 0))) (cs : List Value) (hseg : (cur.toList.drop off).take cs.length = cs)
  {d : TypeDesc} (hu : P.underlying t = some d) (hd : d.isRow = true) (hi : (P.info? t).map (·.size) = some cs.length) (h : wpList P ops Q rest (a.put o.dst (.agg cs.toArray)) W) : wpList P ops Q (o :: rest) a W :=
 wpList_load_mid hgd t x ho g off hx cs d (range_blk hb cs hseg) hu hd hi h
theorem store_blk (hgd : o.guard = none) (t : TypeId) (x y : Operand) (ho : o.op = .store t x y) (g off : Nat) (cs : List Value) (hx : a.eval x = .pointer (some ⟨g, off, none⟩)) (hy : a.eval y = .agg cs.toArray) {cur : Array Value} {T : TypeId} (hb : W.heap[g]? = some (.cells cur T (0, 0)))
  (hs : off + cs.length ≤ cur.size) (hi : (P.info? t).map (·.size) = some cs.length) (h1 : cs.all (·.oneCell') = true) (new : Array Value) (hnew : (cur.toList.take off ++ cs ++ cur.toList.drop (off + cs.length)).toArray = new)
  (h : ∀ w1, w1.heap[g]? = some (.cells new T (0, 0)) → Upd W w1 (fun k => k = g) → wpList P ops Q rest (a.put o.dst undef) w1) : wpList P ops Q (o :: rest) a W :=
 wpList_store_mid hgd t x y ho g off cs.toArray hx hy (there_blk hb (by simpa using hs)) (by simpa using hi) (all_oneCell_toArray (List.all_eq_true.1 h1)) (h _ (by rw [← hnew]; simpa using setCells_heap g T cs off W cur hb hs) (by simpa using setCells_upd g cs off W))
theorem yields_blk {S : World → Prop} {op : Oper} (hw : Region.wanted op (yielded ops a.tmps) = true) (t : TypeId) (x : Operand) (ho : op.op = .load t x) (g off : Nat) (hx : a.eval x = .pointer (some ⟨g, off, none⟩)) {cur : Array Value} {T : TypeId} (cs : List Value) (hseg : (cur.toList.drop off).take cs.length = cs)
  (hS : ∀ w, S w → w.heap[g]? = some (.cells cur T (0, 0))) {d : TypeDesc} (hu : P.underlying t = some d) (hd : d.isRow = true) (hi : (P.info? t).map (·.size) = some cs.length) : YieldsIf P ops S op (.agg cs.toArray) a :=
 yieldsIf_load_mid hw t x ho g off hx cs d (fun w h => range_blk (hS w h) cs hseg) hu hd hi
/-- A store in a region that draws. -/
theorem store_step {op : Oper} {Kc : Act → World → Prop} (hw : Region.wanted op (yielded ops a.tmps) = true) (hN : op.dst = none) (t : TypeId) (x y : Operand) (ho : op.op = .store t x y) (g off : Nat) (cs : List Value) (hx : a.eval x = .pointer (some ⟨g, off, none⟩)) (hy : a.eval y = .agg cs.toArray) {cur : Array Value} {T : TypeId} (hb : W.heap[g]? = some (.cells cur T (0, 0)))
  (hs : off + cs.length ≤ cur.size) (hi : (P.info? t).map (·.size) = some cs.length) (h1 : cs.all (·.oneCell') = true) (new : Array Value) (hnew : (cur.toList.take off ++ cs ++ cur.toList.drop (off + cs.length)).toArray = new)
  (h : ∀ w1, w1.heap[g]? = some (.cells new T (0, 0)) → Upd W w1 (fun k => k = g) → Kc a w1) : if Region.wanted op (yielded ops a.tmps) = true then Oper.wp P op a W Kc Q else Kc (a.put none undef) W := by
 rw [if_pos hw]
 refine wp_store_mid t x y ho g off cs.toArray hx hy (there_blk hb (by simpa using hs)) (by simpa using hi) (all_oneCell_toArray (List.all_eq_true.1 h1)) ?_
 rw [hN]
 exact h _ (by rw [← hnew]; simpa using setCells_heap g T cs off W cur hb hs) (by simpa using setCells_upd g cs off W)
end
end Go.Proofs.Ytonedijkgddepaa.P
namespace Go.Proofs.Ytonedijkgddepaa.P
open Go.Sq
open Go.RowKit Go.Maps Go.Proofs.YtonedijkgddepaaW.PrintWords Go.Proofs.YtonedijkgddepaaW.PrintLast Go.Proofs.YtonedijkgddepaaW.PrintMore
set_option linter.unusedVariables false
set_option linter.unusedSimpArgs false
/-- A thing that lies in memory, on the blocks of S. -/
structure Thing where
 at_ : World → (Nat → Prop) → Prop
 keep : ∀ {w w' : World} {S : Nat → Prop}, at_ w S → (∀ k, S k → w'.heap[k]? = w.heap[k]?) → at_ w' S
 lt : ∀ {w : World} {S : Nat → Prop}, at_ w S → ∀ k, S k → k < w.heap.size
/-- Several, no block of two of them. -/
def Sts (w : World) : List Thing → (Nat → Prop) → Prop
 | [], S => ∀ k, ¬ S k
 | T :: L, S => ∃ S1 S2, T.at_ w S1 ∧ Sts w L S2 ∧ (∀ k, S1 k → S2 k → False) ∧ ∀ k, S k ↔ S1 k ∨ S2 k
/-- What lies in memory since w0. -/
structure St (w0 w : World) (L : List Thing) : Prop where
 os : w.os = w0.os
 tape : w.tape = w0.tape
 output : w.output = w0.output
 sts : ∃ S, Sts w L S
/-- The things lie there (whatever the machine's state beside memory). -/
def Mem (w : World) (L : List Thing) : Prop := ∃ S, Sts w L S
theorem St.mem {w0 w : World} {L : List Thing} (h : St w0 w L) : Mem w L := h.sts
theorem Sts.lt {w : World} : ∀ {L : List Thing} {S : Nat → Prop}, Sts w L S → ∀ k, S k → k < w.heap.size
 | [], S, h, k, hk => (h k hk).elim
 | T :: L, S, ⟨S1, S2, h1, h2, _, h4⟩, k, hk => by
  rcases (h4 k).1 hk with hk | hk
  ·exact T.lt h1 k hk
  ·exact Sts.lt h2 k hk
theorem Sts.keep {w w' : World} : ∀ {L : List Thing} {S : Nat → Prop}, Sts w L S → (∀ k, S k → w'.heap[k]? = w.heap[k]?) → Sts w' L S
 | [], S, h, _ => h
 | T :: L, S, ⟨S1, S2, h1, h2, h3, h4⟩, hk => ⟨S1, S2, T.keep h1 (fun k h => hk k ((h4 k).2 (.inl h))), Sts.keep h2 (fun k h => hk k ((h4 k).2 (.inr h))), h3, h4⟩
theorem Sts.perm {w : World} {L L' : List Thing} (hp : L.Perm L') : ∀ {S : Nat → Prop}, Sts w L S → Sts w L' S := by
 induction hp with
 | nil => exact fun h => h
 | cons x _ ih => rintro S ⟨S1, S2, h1, h2, h3, h4⟩; exact ⟨S1, S2, h1, ih h2, h3, h4⟩
 | swap x y l =>
  rintro S ⟨S1, S2, h1, ⟨S3, S4, h5, h6, h7, h8⟩, h3, h4⟩
  refine ⟨S3, fun k => S1 k ∨ S4 k, h5, ⟨S1, S4, h1, h6, fun k a b => h3 k a ((h8 k).2 (.inr b)), fun k => Iff.rfl⟩, fun k a b => ?_, fun k => ?_⟩
  ·rcases b with b | b
   ·exact h3 k b ((h8 k).2 (.inl a))
   ·exact h7 k a b
  ·rw [h4 k, h8 k]
   constructor
   ·rintro (a | a | a)
    ·exact .inr (.inl a)
    ·exact .inl a
    ·exact .inr (.inr a)
   ·rintro (a | a | a)
    ·exact .inr (.inl a)
    ·exact .inl a
    ·exact .inr (.inr a)
 | trans _ _ ih1 ih2 => exact fun h => ih2 (ih1 h)
theorem St.perm {w0 w : World} {L L' : List Thing} (h : St w0 w L) (hp : L.Perm L') : St w0 w L' := ⟨h.os, h.tape, h.output, by obtain ⟨S, hs⟩ := h.sts; exact ⟨S, hs.perm hp⟩⟩
theorem perm_bring {α : Type} : ∀ (L : List α) (n : Nat) (x : α), L[n]? = some x → L.Perm (x :: L.eraseIdx n)
 | [], n, x, h => by simp at h
 | a :: L, 0, x, h => by simp at h; subst h; exact .refl _
 | a :: L, n + 1, x, h => by
  have h1 := perm_bring L n x (by simpa using h)
  exact (h1.cons a).trans (.swap _ _ _)
/-- Number n comes first. -/
theorem St.bring {w0 w : World} {L : List Thing} (h : St w0 w L) (n : Nat) {x : Thing} (hx : L[n]? = some x) : St w0 w (x :: L.eraseIdx n) := h.perm (perm_bring L n x hx)
/-- The first goes to place n. -/
theorem St.back {w0 w : World} {x : Thing} {L : List Thing} (h : St w0 w (x :: L)) (n : Nat) (hn : n ≤ L.length) : St w0 w (L.insertIdx n x) := h.perm (List.perm_insertIdx x L hn).symm
theorem St.below {w0 w w' : World} {L : List Thing} (h : St w0 w L) (hb : Below w.heap.size w w') : St w0 w' L :=
 ⟨hb.os.trans h.os, hb.tape.trans h.tape, hb.output.trans h.output, by obtain ⟨S, hs⟩ := h.sts; exact ⟨S, hs.keep (fun k hk => hb.block k (hs.lt k hk))⟩⟩
theorem St.drew {w0 w : World} {L : List Thing} (h : St w0 w L) : St w0 w.drew L := h.below (below_drew (Below.refl _ _))
theorem St.drewN {w0 w : World} {L : List Thing} (h : St w0 w L) (m : Nat) : St w0 (w.drewN m) L := h.below (pw_below_drewN (Below.refl _ _) m)
theorem St.drop {w0 w : World} {x : Thing} {L : List Thing} (h : St w0 w (x :: L)) : St w0 w L := ⟨h.os, h.tape, h.output, by obtain ⟨S, S1, S2, h1, h2, h3, h4⟩ := h.sts; exact ⟨S2, h2⟩⟩
theorem Mem.drop0 {w : World} {x : Thing} {L : List Thing} (h : Mem w (x :: L)) : Mem w L := by obtain ⟨S, S1, S2, h1, h2, h3, h4⟩ := h; exact ⟨S2, h2⟩
theorem St.erase {w0 w : World} {L : List Thing} (h : St w0 w L) (n : Nat) : St w0 w (L.eraseIdx n) := by
 rcases Nat.lt_or_ge n L.length with hl | hl
 ·exact (h.bring n (List.getElem?_eq_getElem hl)).drop
 ·rw [List.eraseIdx_of_length_le hl]
  exact h
theorem sts_append {w : World} : ∀ {A L : List Thing} {S : Nat → Prop}, Sts w (A ++ L) S ↔ ∃ S1 S2, Sts w A S1 ∧ Sts w L S2 ∧ (∀ k, S1 k → S2 k → False) ∧ ∀ k, S k ↔ S1 k ∨ S2 k
 | [], L, S => by
  constructor
  ·exact fun h => ⟨fun _ => False, S, fun _ h => h, h, fun _ h _ => h, fun k => ⟨.inr, fun h => h.elim (fun h => h.elim) id⟩⟩
  ·rintro ⟨S1, S2, h1, h2, _, h4⟩
   have : S = S2 := funext fun k => propext ⟨fun h => ((h4 k).1 h).elim (fun h => (h1 k h).elim) id, fun h => (h4 k).2 (.inr h)⟩
   rw [this]
   exact h2
 | T :: A, L, S => by
  constructor
  ·rintro ⟨S1, S2, h1, h2, h3, h4⟩
   obtain ⟨S3, S4, h5, h6, h7, h8⟩ := sts_append.1 h2
   refine ⟨fun k => S1 k ∨ S3 k, S4, ⟨S1, S3, h1, h5, fun k a b => h3 k a ((h8 k).2 (.inl b)), fun k => Iff.rfl⟩, h6, fun k a b => ?_, fun k => ?_⟩
   ·rcases a with a | a
    ·exact h3 k a ((h8 k).2 (.inr b))
    ·exact h7 k a b
   ·rw [h4 k, h8 k, or_assoc]
  ·rintro ⟨S1, S4, ⟨S5, S3, h1, h5, h9, h10⟩, h6, h7, h8⟩
   refine ⟨S5, fun k => S3 k ∨ S4 k, h1, sts_append.2 ⟨S3, S4, h5, h6, fun k a b => h7 k ((h10 k).2 (.inr a)) b, fun k => Iff.rfl⟩, fun k a b => ?_, fun k => ?_⟩
   ·rcases b with b | b
    ·exact h9 k a b
    ·exact h7 k ((h10 k).2 (.inl a)) b
   ·rw [h8 k, h10 k, or_assoc]
/-- The law of a step: A becomes A', what lies beside stays. -/
theorem St.step {w0 w w' : World} {A A' L : List Thing} (h : St w0 w (A ++ L)) (ho : w'.os = w.os) (ht : w'.tape = w.tape) (hu : w'.output = w.output)
  (f : ∀ S, Sts w A S → ∃ S', Sts w' A' S' ∧ (∀ k, S' k → S k ∨ w.heap.size ≤ k) ∧ ∀ k, k < w.heap.size → ¬ S k → w'.heap[k]? = w.heap[k]?) : St w0 w' (A' ++ L) := by
 obtain ⟨S, hs⟩ := h.sts
 obtain ⟨S1, S2, h1, h2, h3, h4⟩ := sts_append.1 hs
 obtain ⟨S', g1, g2, g3⟩ := f S1 h1
 refine ⟨ho.trans h.os, ht.trans h.tape, hu.trans h.output, _, sts_append.2 ⟨S', S2, g1, h2.keep (fun k hk => g3 k (h2.lt k hk) (fun hn => h3 k hn hk)), fun k a b => ?_, fun k => Iff.rfl⟩⟩
 rcases g2 k a with a | a
 ·exact h3 k a b
 ·have := h2.lt k b
  omega
/-- A block of cells. -/
def Blk (B : Nat) (cs : Array Value) (T : TypeId) : Thing where
 at_ w S := w.heap[B]? = some (.cells cs T (0, 0)) ∧ ∀ k, S k ↔ k = B
 keep := fun ⟨h1, h2⟩ hk => ⟨(hk B ((h2 B).2 rfl)).trans h1, h2⟩
 lt := fun ⟨h1, h2⟩ k hk => (h2 k).1 hk ▸ blk_lt h1
/-- All that lay there when w0 was. -/
def Old (w0 : World) : Thing where
 at_ w S := (∀ k, S k ↔ k < w0.heap.size) ∧ w0.heap.size ≤ w.heap.size ∧ ∀ k, k < w0.heap.size → w.heap[k]? = w0.heap[k]?
 keep := @fun w w' S ⟨h1, h2, h3⟩ hk => ⟨h1, by
  rcases Nat.eq_zero_or_pos w0.heap.size with h0 | h0
  ·omega
  ·have h4 := hk (w0.heap.size - 1) ((h1 _).2 (by omega))
   have h5 := (Array.getElem?_eq_some_iff.1 (h4.trans (Array.getElem?_eq_getElem (show w0.heap.size - 1 < w.heap.size by omega)))).1
   omega, fun k hl => (hk k ((h1 k).2 hl)).trans (h3 k hl)⟩
 lt := fun ⟨h1, h2, _⟩ k hk => Nat.lt_of_lt_of_le ((h1 k).1 hk) h2
/-- A row that is one's own. -/
def Row {α : Type} (d : Kd α) (e : Nat) (v : Value) (xs : List α) : Thing where
 at_ w S := d.R e w 0 S v xs ∧ ∀ k, S k → k < w.heap.size
 keep := @fun w w' S ⟨h1, h2⟩ hk => ⟨Kd.R_step h1 (fun k h _ => hk k h), fun k h => by
  have h3 := hk k h
  have h4 := h2 k h
  exact (Array.getElem?_eq_some_iff.1 (h3.trans (Array.getElem?_eq_getElem h4))).1⟩
 lt := fun ⟨_, h2⟩ => h2
theorem St.blk {w0 w : World} {L : List Thing} (h : St w0 w L) (n : Nat) {B : Nat} {cs : Array Value} {T : TypeId} (hx : L[n]? = some (Blk B cs T)) : w.heap[B]? = some (.cells cs T (0, 0)) := by
 obtain ⟨_, _, _, h1, _⟩ := (h.bring n hx).sts
 exact h1.1
theorem St.cell {w0 w : World} {L : List Thing} (h : St w0 w L) (n i : Nat) {B : Nat} {cs : Array Value} {T : TypeId} {v : Value} (hx : L[n]? = some (Blk B cs T)) (hv : cs[i]? = some v) : w.cell? ⟨B, i, none⟩ = some v := (blk_cell (h.blk n hx) i).trans hv
theorem St.row {w0 w : World} {L : List Thing} (h : St w0 w L) (n : Nat) {α : Type} {d : Kd α} {e : Nat} {v : Value} {xs : List α} (hx : L[n]? = some (Row d e v xs)) : ∃ A c, v = .slice A xs.length c ∧ xs.length ≤ c ∧ d.C w A xs.length xs := by
 obtain ⟨_, _, _, h1, _⟩ := (h.bring n hx).sts
 exact Kd.R_reads h1.1
theorem St.reads {w0 w : World} {L : List Thing} (h : St w0 w L) (n : Nat) {α : Type} {d : Kd α} {e m c : Nat} {A : Option Addr} {xs : List α} (hx : L[n]? = some (Row d e (.slice A m c) xs)) : d.C w A xs.length xs ∧ xs.length ≤ c := by
 obtain ⟨_, _, _, h1, _⟩ := (h.bring n hx).sts
 have h2 := Kd.R_reads' h1.1
 exact ⟨h2.2.2, h2.1 ▸ h2.2.1⟩
theorem St.old {w0 w w1 : World} {L : List Thing} (h : St w1 w L) (n : Nat) (hx : L[n]? = some (Old w0)) : w0.heap.size ≤ w.heap.size ∧ ∀ k, k < w0.heap.size → w.heap[k]? = w0.heap[k]? := by
 obtain ⟨_, _, _, h1, _⟩ := (h.bring n hx).sts
 exact h1.2
theorem St.toBelow {w0 w : World} {L : List Thing} (h : St w0 w L) (n : Nat) (hx : L[n]? = some (Old w0)) : Below w0.heap.size w0 w := ⟨h.os, h.tape, h.output, (h.old n hx).1, (h.old n hx).2⟩
theorem St.start (w : World) : St w w [Old w] := ⟨rfl, rfl, rfl, _, ⟨fun k => k < w.heap.size, fun _ => False, ⟨fun _ => Iff.rfl, Nat.le_refl _, fun _ _ => rfl⟩, fun _ h => h, fun _ _ h => h, fun k => ⟨.inl, fun h => h.elim id (fun h => h.elim)⟩⟩⟩
theorem St.ne {w0 w : World} {L : List Thing} {B B' : Nat} {cs cs' : Array Value} {T T' : TypeId} (h : St w0 w (Blk B cs T :: Blk B' cs' T' :: L)) : B ≠ B' := by
 obtain ⟨_, S1, S2, h1, ⟨S3, S4, h5, _, _, h8⟩, h3, _⟩ := h.sts
 intro e
 exact h3 B ((h1.2 B).2 rfl) ((h8 B).2 (.inl ((h5.2 B).2 e)))
/-- The first block is written. -/
theorem St.set0 {w0 w : World} {L : List Thing} {B : Nat} {cs cs' : Array Value} {T : TypeId} (h : St w0 w (Blk B cs T :: L)) (i : Nat) (u : Value) (he : cs.setIfInBounds i u = cs') : St w0 (w.setCell ⟨B, i, none⟩ u) (Blk B cs' T :: L) := by
 subst he
 refine St.step (A := [Blk B cs T]) (A' := [Blk B (cs.setIfInBounds i u) T]) h rfl rfl rfl ?_
 rintro S ⟨S1, S2, h1, h2, h3, h4⟩
 refine ⟨S, ⟨S1, S2, ⟨blk_set h1.1 i u, h1.2⟩, h2, h3, h4⟩, fun k hk => .inl hk, fun k hk hn => Below.heap_setCell w ⟨B, i, none⟩ u k (fun e => hn ((h4 k).2 (.inl ((h1.2 k).2 e))))⟩
theorem St.upd0 {w0 w w' : World} {L : List Thing} {B : Nat} {cs cs' : Array Value} {T : TypeId} (h : St w0 w (Blk B cs T :: L)) (hb : w'.heap[B]? = some (.cells cs' T (0, 0))) (hu : Upd w w' (fun k => k = B)) : St w0 w' (Blk B cs' T :: L) := by
 refine St.step (A := [Blk B cs T]) (A' := [Blk B cs' T]) h hu.os hu.tape hu.output ?_
 rintro S ⟨S1, S2, h1, h2, h3, h4⟩
 exact ⟨S, ⟨S1, S2, ⟨hb, h1.2⟩, h2, h3, h4⟩, fun k hk => .inl hk, fun k hk hn => hu.kept.2 k hk (fun e => hn ((h4 k).2 (.inl ((h1.2 k).2 e))))⟩
theorem eraseIdx_insertIdx {α : Type} : ∀ (L : List α) (n : Nat) (x y : α), L[n]? = some x → (L.eraseIdx n).insertIdx n y = L.set n y
 | [], n, x, y, h => by simp at h
 | a :: L, 0, x, y, h => by simp
 | a :: L, n + 1, x, y, h => by simp only [List.eraseIdx_cons_succ, List.set_cons_succ, List.insertIdx_succ_cons]; rw [eraseIdx_insertIdx L n x y (by simpa using h)]
theorem eraseIdx_len {α : Type} {L : List α} {n : Nat} {x : α} (h : L[n]? = some x) : n ≤ (L.eraseIdx n).length := by
 have := (List.getElem?_eq_some_iff.1 h).1
 rw [List.length_eraseIdx]
 split <;> omega
/-- Block number n is written. -/
theorem St.set {w0 w : World} {L : List Thing} (h : St w0 w L) (n : Nat) {B : Nat} {cs : Array Value} {T : TypeId} (hx : L[n]? = some (Blk B cs T)) (i : Nat) (u : Value) {cs' : Array Value} (he : cs.setIfInBounds i u = cs') : St w0 (w.setCell ⟨B, i, none⟩ u) (L.set n (Blk B cs' T)) := by
 have h1 := ((h.bring n hx).set0 i u he).back n (eraseIdx_len hx)
 rwa [eraseIdx_insertIdx L n _ _ hx] at h1
theorem St.upd {w0 w w' : World} {L : List Thing} (h : St w0 w L) (n : Nat) {B : Nat} {cs : Array Value} {T : TypeId} (hx : L[n]? = some (Blk B cs T)) {cs' : Array Value} (hb : w'.heap[B]? = some (.cells cs' T (0, 0))) (hu : Upd w w' (fun k => k = B)) : St w0 w' (L.set n (Blk B cs' T)) := by
 have h1 := ((h.bring n hx).upd0 hb hu).back n (eraseIdx_len hx)
 rwa [eraseIdx_insertIdx L n _ _ hx] at h1
/-- Something new. -/
theorem St.add {w0 w w' : World} {L : List Thing} (h : St w0 w L) (hb : Below w.heap.size w w') (T : Thing) (hT : ∃ S, T.at_ w' S ∧ ∀ k, S k → w.heap.size ≤ k) : St w0 w' (T :: L) := by
 refine St.step (A := []) (A' := [T]) h hb.os hb.tape hb.output (fun S hS => ?_)
 obtain ⟨S', h1, h2⟩ := hT
 exact ⟨S', ⟨S', fun _ => False, h1, fun _ h => h, fun _ _ h => h, fun k => ⟨.inl, fun h => h.elim id (fun h => h.elim)⟩⟩, fun k hk => .inr (h2 k hk), fun k hk _ => hb.block k hk⟩
theorem St.new {w0 w w' : World} {L : List Thing} (h : St w0 w L) (hb : Below w.heap.size w w') {g : Nat} {cs : Array Value} {T : TypeId} (hg : w.heap.size ≤ g) (hx : w'.heap[g]? = some (.cells cs T (0, 0))) : St w0 w' (Blk g cs T :: L) :=
 h.add hb _ ⟨fun k => k = g, ⟨hx, fun _ => Iff.rfl⟩, fun k hk => hk ▸ hg⟩
theorem St.alloc {w0 w : World} {L : List Thing} (h : St w0 w L) (cs : Array Value) (T : TypeId) : St w0 (w.alloc (.cells cs T)) (Blk w.heap.size cs T :: L) := h.new (below_alloc (Below.refl _ _) _) (Nat.le_refl _) (heap_alloc_new w _)
theorem St.newRow {w0 w w' : World} {L : List Thing} (h : St w0 w L) (hb : Below w.heap.size w w') {α : Type} {d : Kd α} {e : Nat} {ok : Nat → Prop} {v : Value} {xs : List α} (hR : d.R e w' w.heap.size ok v xs) : St w0 w' (Row d e v xs :: L) :=
 h.add hb _ ⟨_, ⟨Kd.R_lower (Kd.R_bound hR) (Nat.zero_le _), fun k hk => hk.2.2.1⟩, fun k hk => hk.2.1⟩
theorem St.nilRow {w0 w : World} {L : List Thing} (h : St w0 w L) {α : Type} (d : Kd α) (e : Nat) : St w0 w (Row d e (.slice none 0 0) [] :: L) := h.newRow (Below.refl _ _) (Kd.R_nil d e w _ (fun _ => True))
theorem St.same {w0 w w' : World} {L : List Thing} (h : St w0 w L) (e : w' = w) : St w0 w' L := e ▸ h
/-- What another contract of one's own (by Upd) did to the first. -/
theorem St.byUpd {w0 w w' : World} {A A' L : List Thing} (h : St w0 w (A ++ L)) {S0 : Nat → Prop} (hu : Upd w w' S0) (f : ∀ S, Sts w A S → (∀ k, S0 k → S k) ∧ ∃ S', Sts w' A' S' ∧ ∀ k, S' k → S k ∨ w.heap.size ≤ k) : St w0 w' (A' ++ L) :=
 h.step hu.os hu.tape hu.output (fun S hS => by
  obtain ⟨h1, S', h2, h3⟩ := f S hS
  exact ⟨S', h2, h3, fun k hk hn => hu.kept.2 k hk (fun h => hn (h1 k h))⟩)
end Go.Proofs.Ytonedijkgddepaa.P
namespace Go.Proofs.Ytonedijkgddepaa.P
open Go.Sq
open Go.RowKit Go.Maps Go.Proofs.YtonedijkgddepaaW.PrintWords Go.Proofs.YtonedijkgddepaaW.PrintLast Go.Proofs.YtonedijkgddepaaW.PrintMore
set_option linter.unusedVariables false
set_option linter.unusedSimpArgs false
/-- The post behind a name. -/
theorem calls_hide {P : Program} {f : FuncId} {args : Array Value} {w : World} {Post : Ending → World → Prop} (h : ∀ R : Ending → World → Prop, Aside0 (∀ e w', Post e w' → R e w') → Calls P f args w R) : Calls P f args w Post := h _ ⟨fun _ _ h => h⟩
/-- A loop, from the start of a round. -/
def wpRound (P : Program) (c : Code) (Q : Exit → Act → World → Prop) (a : Act) (w : World) : Prop :=
 ∀ (b : Frame) (k : List Item) (cs : List Frame), ∃ e a' w', Q e a' w' ∧ Arrives P (lone (b.at a (.code c :: .inLoop c :: k)) cs w) b k cs e a' w'
theorem wp_loop_round {P : Program} {c : Code} {Q : Exit → Act → World → Prop} {a : Act} {w : World} (h : wpRound P c Q a w) : (Code.loop c).wp P Q a w :=
 fun b k cs => let ⟨e, a', w', q, r⟩ := h b k cs; ⟨e, a', w', q, .of_steps (.one step_loop) r⟩
/-- One round is walked; what follows is the loop again. -/
theorem round_unroll {P : Program} {c : Code} {Q : Exit → Act → World → Prop} {a : Act} {w : World} (h : c.wp P (Exit.then (wpRound P c Q) Q) a w) : wpRound P c Q a w := by
 intro b k cs
 obtain ⟨e, a₁, w₁, hq, harr⟩ := h b (.inLoop c :: k) cs
 cases e with
 | normal =>
  obtain ⟨e₂, a₂, w₂, hq₂, harr₂⟩ := hq b k cs
  exact ⟨e₂, a₂, w₂, hq₂, .of_steps (Steps.trans harr (.one step_inLoop)) harr₂⟩
 | exit id => exact ⟨_, a₁, w₁, hq, .pass (x := .inLoop c) rfl (fun _ _ => .inl (by simp)) harr⟩
 | goto l => exact ⟨_, a₁, w₁, hq, .pass (x := .inLoop c) rfl (fun _ _ => .inl (by simp)) harr⟩
 | ret => exact ⟨_, a₁, w₁, hq, .pass (x := .inLoop c) rfl (fun _ _ => .inl (by simp)) harr⟩
 | panic ch => exact ⟨_, a₁, w₁, hq, .pass (x := .inLoop c) rfl (fun _ _ => .inl (by simp)) harr⟩
 | outgrown => exact ⟨_, a₁, w₁, hq, .pass (x := .inLoop c) rfl (fun _ _ => .inl (by simp)) harr⟩
/-- What has come up, as_ a number. -/
def bits (n m : Nat) : Array Bool := ((List.range n).map (fun i => m.testBit i)).toArray
section
variable {P : Program} {ops : Array Oper} {rest : List Oper} {o : Oper} {a : Act} {Q : Exit → Act → World → Prop} {W w0 : World} {L : List Thing}
theorem St.setCells {w : World} (h : St w0 w L) (n : Nat) {g off : Nat} {cs : Array Value} {T : TypeId} (hn : L[n]? = some (Blk g cs T)) (seg : List Value) (hs : off + seg.length ≤ cs.size) :
  St w0 (w.setCells g off seg) (L.set n (Blk g (cs.toList.take off ++ seg ++ cs.toList.drop (off + seg.length)).toArray T)) :=
 h.upd n hn (setCells_heap g T seg off w cs (h.blk n hn) hs) (setCells_upd g seg off w)
theorem st_store (hgd : o.guard = none) (hN : o.dst = none) (t : TypeId) (p x : Operand) (ho : o.op = .store t p x) {g off : Nat} {u : Value} {seg : List Value} (hp : a.eval p = .pointer (some ⟨g, off, none⟩)) (hx : a.eval x = u) (hu : u.cells.toList = seg)
  (hi : (P.info? t).map (·.size) = some seg.length) (h1 : seg.all (·.oneCell') = true) (h : St w0 W L) (n : Nat) {cs : Array Value} {T : TypeId} (hn : L[n]? = some (Blk g cs T)) (hs : off + seg.length ≤ cs.size)
  (k : ∀ w1, St w0 w1 (L.set n (Blk g (cs.toList.take off ++ seg ++ cs.toList.drop (off + seg.length)).toArray T)) → wpList P ops Q rest a w1) : wpList P ops Q (o :: rest) a W := by
 refine wpList_plain hgd fun K hK => ?_
 have hrun := run_store_run t u seg (h.blk n hn) hu hi hs (fun v hv => List.all_eq_true.1 h1 v hv)
 have hr2 : (execOp a.eval o).run P W = .ok .skip (W.setCells g off seg) := by
  unfold execOp
  rw [ho]
  simp [hp, hx, hrun]
 unfold Oper.wp
 rw [hr2]
 show K (a.put o.dst undef) _
 rw [hN]
 exact hK _ _ (k _ (h.setCells n hn seg hs))
theorem st_store_step {Kc : Act → World → Prop} (hw : Region.wanted o (yielded ops a.tmps) = true) (hN : o.dst = none) (t : TypeId) (p x : Operand) (ho : o.op = .store t p x) {g off : Nat} {u : Value} {seg : List Value} (hp : a.eval p = .pointer (some ⟨g, off, none⟩)) (hx : a.eval x = u) (hu : u.cells.toList = seg)
  (hi : (P.info? t).map (·.size) = some seg.length) (h1 : seg.all (·.oneCell') = true) (h : St w0 W L) (n : Nat) {cs : Array Value} {T : TypeId} (hn : L[n]? = some (Blk g cs T)) (hs : off + seg.length ≤ cs.size)
  (k : ∀ w1, St w0 w1 (L.set n (Blk g (cs.toList.take off ++ seg ++ cs.toList.drop (off + seg.length)).toArray T)) → Upd W w1 (fun k => k = g) → Kc a w1) : if Region.wanted o (yielded ops a.tmps) = true then Oper.wp P o a W Kc Q else Kc (a.put none undef) W := by
 rw [if_pos hw]
 have hrun := run_store_run t u seg (h.blk n hn) hu hi hs (fun v hv => List.all_eq_true.1 h1 v hv)
 have hr2 : (execOp a.eval o).run P W = .ok .skip (W.setCells g off seg) := by
  unfold execOp
  rw [ho]
  simp [hp, hx, hrun]
 unfold Oper.wp
 rw [hr2]
 show Kc (a.put o.dst undef) _
 rw [hN]
 exact k _ (h.setCells n hn seg hs) (setCells_upd g seg off W)
theorem st_load (hgd : o.guard = none) (t : TypeId) (x : Operand) (ho : o.op = .load t x) {g off : Nat} (hx : a.eval x = .pointer (some ⟨g, off, none⟩)) (h : St w0 W L) (n : Nat) {cur : Array Value} {T : TypeId} (hn : L[n]? = some (Blk g cur T)) (cs : List Value) (hseg : (cur.toList.drop off).take cs.length = cs)
  {d : TypeDesc} (hu : P.underlying t = some d) (hd : d.isRow = true) (hi : (P.info? t).map (·.size) = some cs.length) (k : wpList P ops Q rest (a.put o.dst (.agg cs.toArray)) W) : wpList P ops Q (o :: rest) a W :=
 load_blk hgd t x ho g off hx (h.blk n hn) cs hseg hu hd hi k
theorem st_box (hgd : o.guard = none) {N : Tmp} (hd : o.dst = some N) (cs : Array Value) (t : TypeId)
  (hrun : (execOp a.eval o).run P W = .ok (.value (.pointer (some ⟨W.heap.size, 0, none⟩))) (W.alloc (.cells cs t (0, 0)))) (h : St w0 W L)
  (k : ∀ g w1, W.heap.size ≤ g → St w0 w1 (Blk g cs t :: L) → Below W.heap.size W w1 → wpList P ops Q rest (a.put o.dst (.pointer (some ⟨g, 0, none⟩))) w1) : wpList P ops Q (o :: rest) a W :=
 box_event hgd hd hrun (fun g hg w1 h1 h2 => k g w1 (Nat.le_of_eq hg.symm) (h.new h2 (Nat.le_of_eq hg.symm) h1) h2)
theorem st_lit (hgd : o.guard = none) {N : Tmp} (hd : o.dst = some N) (cs : Array Value) (t : TypeId) (n : Nat)
  (hrun : (execOp a.eval o).run P W = .ok (.value (.slice (some ⟨W.heap.size, 0, none⟩) n n)) (W.alloc (.cells cs t (0, 0)))) (h : St w0 W L)
  (k : ∀ g w1, W.heap.size ≤ g → St w0 w1 (Blk g cs t :: L) → Below W.heap.size W w1 → wpList P ops Q rest (a.put o.dst (.slice (some ⟨g, 0, none⟩) n n)) w1) : wpList P ops Q (o :: rest) a W :=
 Kd.event_run hgd hrun (k _ _ (Nat.le_refl _) (h.alloc cs t) (below_alloc (Below.refl _ _) _))
theorem st_box_step {Kc : Act → World → Prop} (hw : Region.wanted o (yielded ops a.tmps) = true) {N : Tmp} (hd : o.dst = some N) (cs : Array Value) (t : TypeId)
  (hrun : (execOp a.eval o).run P W = .ok (.value (.pointer (some ⟨W.heap.size, 0, none⟩))) (W.alloc (.cells cs t (0, 0)))) (h : St w0 W L)
  (k : ∀ g w1, W.heap.size ≤ g → St w0 w1 (Blk g cs t :: L) → Below W.heap.size W w1 → Kc (a.put o.dst (.pointer (some ⟨g, 0, none⟩))) w1) : if Region.wanted o (yielded ops a.tmps) = true then Oper.wp P o a W Kc Q else Kc (a.put o.dst undef) W :=
 box_step hw hd hrun (fun g hg w1 h1 h2 => k g w1 (Nat.le_of_eq hg.symm) (h.new h2 (Nat.le_of_eq hg.symm) h1) h2)
theorem appended_st {w w1 : World} {α : Type} {d : Kd α} {e : Nat} {v v1 : Value} {xs ys : List α} {A L : List Thing} {S1 SA SL S2 : Nat → Prop} (h1 : (Row d e v xs).at_ w S1) (hA : Sts w A SA) (hL : Sts w L SL) (hd : ∀ k, S1 k → S2 k → False) (h2 : ∀ k, SA k → SL k → False) (h3 : ∀ k, S2 k ↔ SA k ∨ SL k)
  (hR : d.R e w1 0 (fun k => S1 k ∨ SA k ∨ w.heap.size ≤ k) v1 ys) (hg : w.grownBy w1 v.ownBlock) : Sts w1 (Row d e v1 ys :: L) (fun k => ((S1 k ∨ SA k ∨ w.heap.size ≤ k) ∧ k < w1.heap.size) ∨ SL k) := by
 refine ⟨fun k => (S1 k ∨ SA k ∨ w.heap.size ≤ k) ∧ k < w1.heap.size, SL, ⟨Kd.R_mono (Kd.R_bound hR) (fun k hk => ⟨hk.1, hk.2.2.1⟩), fun k hk => hk.2⟩, hL.keep (fun k hk => hg.block k (hL.lt k hk) (fun e => hd k (h1.1.1 k e.symm) ((h3 k).2 (.inr hk)))), fun k a b => ?_, fun k => Iff.rfl⟩
 rcases a.1 with a | a | a
 ·exact hd k a ((h3 k).2 (.inr b))
 ·exact h2 k a b
 ·have := hL.lt k b
  omega
theorem st_append_step {α : Type} (d : Kd α) {Kc : Act → World → Prop} (hw : Region.wanted o (yielded ops a.tmps) = true) (s x : Operand) (t e : TypeId) (z : Value) (bytes : Nat)
  (ho : o.op = .call { callee := .builtin .append, args := #[s, x], argTypes := #[t, t] })
  (ht : P.underlying t = some (.slice e)) (hinfo : (P.info? e).map (fun i => (i.zero, i.size, i.bytes)) = some (some z, d.sz, bytes)) (hz : z.cells.size = d.sz) (hs0 : 0 < d.sz) (hb0 : 0 < bytes)
  (v : Value) (xs : List α) (p : α) (cs : List Value) (hs : a.eval s = v) (hx : a.eval x = .slice (some ⟨W.heap.size, 0, none⟩) 1 1) {A : List Thing} (h : St w0 W (Row d e v xs :: (A ++ L))) (hA : ∀ S, Sts W A S → d.M W 0 S p cs) (hl : (xs.length + 1) * bytes ≤ 140737488355328)
  (k : ∀ v1 w1, St w0 w1 (Row d e v1 (xs ++ [p]) :: L) → Kc (a.put o.dst v1) w1) :
  if Region.wanted o (yielded ops a.tmps) = true then Oper.wp P o a (W.alloc (.cells cs.toArray e)) Kc Q else Kc (a.put o.dst undef) (W.alloc (.cells cs.toArray e)) := by
 obtain ⟨S, S1, S2, h1, h2, h3, h4⟩ := h.sts
 obtain ⟨SA, SL, g1, g2, g3, g4⟩ := sts_append.1 h2
 refine Kd.R_append_step d (w0 := W) 0 hw s x t e z bytes ho ht hinfo hz hs0 hb0 v xs p cs (fun k => S1 k ∨ SA k ∨ W.heap.size ≤ k) SA hs hx (hA SA g1) (fun k hk => ⟨.inr (.inl hk), fun e => h3 k (h1.1.1 k e.symm) ((g4 k).2 (.inl hk))⟩) (fun k hk => .inr (.inr hk)) (Kd.R_mono h1.1 (fun k hk => .inl hk)) ⟨rfl, rfl, rfl, Nat.le_refl _, fun _ _ => rfl⟩ (Nat.zero_le _) hl ?_
 intro v1 w1 hR _ hg _
 exact k v1 w1 ⟨hg.os.trans h.os, hg.tape.trans h.tape, hg.output.trans h.output, _, appended_st h1 g1 g2 h3 g3 g4 hR hg⟩
end
end Go.Proofs.Ytonedijkgddepaa.P
namespace Go.Proofs.Ytonedijkgddepaa.P
open Go.Sq
open Go.RowKit Go.Maps Go.Proofs.YtonedijkgddepaaW.PrintWords Go.Proofs.YtonedijkgddepaaW.PrintLast Go.Proofs.YtonedijkgddepaaW.PrintMore
set_option linter.unusedVariables false
set_option linter.unusedSimpArgs false

def newAs (id nodes retry : Int) : As := ⟨id, nodes, retry, 0, 0, z38, false, false, 0, []⟩
def confOk (id nodes retry : Int) : Prop := 1 ≤ id ∧ id ≤ 1099511627776 ∧ 1 ≤ nodes ∧ nodes ≤ 5 ∧ 1 ≤ retry ∧ retry ≤ 1000
instance (id nodes retry : Int) : Decidable (confOk id nodes retry) := by unfold confOk; infer_instance
theorem newAs_ok {id nodes retry : Int} (h : confOk id nodes retry) : (newAs id nodes retry).ok 0 :=
 ⟨⟨h.1, h.2.1⟩, ⟨h.2.2.1, h.2.2.2.1⟩, h.2.2.2.2, ⟨Int.le_refl _, Int.le_refl _⟩, ⟨Int.le_refl _, by show (0 : Int) ≤ 6; omega⟩, ⟨Int.le_refl _, by show (0 : Int) ≤ 1000; omega⟩, fun x hx => (by cases hx), by omega, rfl⟩
set_option maxHeartbeats 4000000 in
set_option maxRecDepth 100000 in
theorem newAskerC (w : World) (id nodes retry : Int) :
  Calls Try.prog 18 #[.int .i64 id, .int .i64 nodes, .int .i64 retry] w fun e' w' => (confOk id nodes retry ∧ ∃ B bl, e' = .returned (.tuple #[.pointer (some ⟨B, 0, none⟩), .int .i64 0]) ∧ w.heap.size ≤ B ∧ w.heap.size ≤ bl ∧ AskAt w' B bl 0 (newAs id nodes retry) ∧ Below w.heap.size w w') ∨ (¬ confOk id nodes retry ∧ e' = .returned (.tuple #[.pointer none, .int .i64 2]) ∧ w' = w) := by
 have hmm := @run_makeMap Try.prog
 by_cases h : confOk id nodes retry
 ·have HC := Aside0.mk h
  obtain ⟨h1, h2, h3, h4, h5, h6⟩ := h
  have f1 : decide (id < 1) = false := decide_eq_false (by omega)
  have f2 : decide (1099511627776 < id) = false := decide_eq_false (by omega)
  have f3 : decide (nodes < 1) = false := decide_eq_false (by omega)
  have f4 : decide (5 < nodes) = false := decide_eq_false (by omega)
  have f5 : decide (retry < 1) = false := decide_eq_false (by omega)
  have f6 : decide (1000 < retry) = false := decide_eq_false (by omega)
  clear h1 h2 h3 h4 h5 h6
  go_enter Try.func18, Try.ntmps18
  go_wp2
  go_ret2
  have g1 := World.ownsMap_made w Try.prog 3 RH
  have g2 : ((w.alloc (.map #[] 0)).alloc (.cells (askA (newAs id nodes retry) w.heap.size) 97)).heap[w.heap.size + 1]? = some (.cells (askA (newAs id nodes retry) w.heap.size) 97 (0, 0)) := blk_at (by simp)
  refine Or.inl ⟨HC.out, w.heap.size + 1, w.heap.size, rfl, Nat.le_succ _, Nat.le_refl _, ⟨g2, .map [], owns_below g1 (below_alloc (Below.refl _ _) _), RelG.start⟩, below_alloc (below_alloc (Below.refl _ _) _) _⟩
 ·have HC := Aside0.mk h
  have f0 : (((((decide (id < 1) || decide (1099511627776 < id)) || decide (nodes < 1)) || decide (5 < nodes)) || decide (retry < 1)) || decide (1000 < retry)) = true := by
   unfold confOk at h
   simp only [Bool.or_eq_true, decide_eq_true_eq]
   omega
  clear h
  go_enter Try.func18, Try.ntmps18
  go_wp2
  all_goals first
   | (go_ret2; exact Or.inr ⟨HC.out, rfl, rfl⟩)
   | skip
def isG (g : Int) : Prop := 0 ≤ g ∧ g ≤ 6
theorem isC (w : World) (g : Int) (h : isG g) : Calls Try.prog 51 #[.int .i64 g] w fun e' w' => e' = .returned (.bool true) ∧ w' = w := by
 obtain ⟨h1, h2⟩ := h
 have f1 : decide (0 ≤ g) = true := decide_eq_true h1
 have f2 : decide (g ≤ 6) = true := decide_eq_true h2
 clear h1 h2
 go_enter Try.func51, Try.ntmps51
 go_wp2
 go_ret
 exact ⟨rfl, rfl⟩
theorem isNotC (w : World) (g : Int) (h : ¬ isG g) : Calls Try.prog 51 #[.int .i64 g] w fun e' w' => e' = .returned (.bool false) ∧ w' = w := by
 by_cases h1 : 0 ≤ g
 ·have f1 : decide (0 ≤ g) = true := decide_eq_true h1
  have f2 : decide (g ≤ 6) = false := decide_eq_false (fun h2 => h ⟨h1, h2⟩)
  clear h1 h
  go_enter Try.func51, Try.ntmps51
  go_wp2
  go_ret
  exact ⟨rfl, rfl⟩
 ·have f1 : decide (0 ≤ g) = false := decide_eq_false h1
  clear h1 h
  go_enter Try.func51, Try.ntmps51
  go_wp2
  go_ret
  exact ⟨rfl, rfl⟩
end Go.Proofs.Ytonedijkgddepaa.P
namespace Go.Proofs.Ytonedijkgddepaa.P
open Go.Sq
open Go.RowKit Go.Maps Go.Proofs.YtonedijkgddepaaW.PrintWords Go.Proofs.YtonedijkgddepaaW.PrintLast Go.Proofs.YtonedijkgddepaaW.PrintMore
set_option linter.unusedVariables false
set_option linter.unusedSimpArgs false

instance (g : Int) : Decidable (isG g) := by unfold isG; infer_instance
def turnV (s : As) (g : Int) : Int × As := if s.busy = true then (if isG g then (0, { s with group := g, sent := false }) else (2, s)) else (9, s)
theorem turnV_ok {s : As} {q : Nat} (hk : s.ok q) (g : Int) : (turnV s g).2.ok q := by
 unfold turnV
 split
 ·split
  ·rename_i h
   exact ⟨hk.id1, hk.nodes1, hk.retry1, hk.num1, h, hk.waited1, hk.lead1, hk.q1, hk.data0⟩
  ·exact hk
 ·exact hk
set_option maxHeartbeats 4000000 in
set_option maxRecDepth 100000 in
theorem askTurn (w : World) (B bl q : Nat) (s : As) (h : AskAt w B bl q s) (hk : s.ok q) (g : Int) :
  Calls Try.prog 29 #[.pointer (some ⟨B, 0, none⟩), .int .i64 g] w fun e' w' => e' = .returned (.int .i64 (turnV s g).1) ∧ AskAt w' B bl q (turnV s g).2 ∧ Upd w w' (fun k => k = B) := by
 have H := Aside0.mk h
 have HK := Aside0.mk hk
 have HI := Aside0.mk (show s.id ≠ 0 by have := hk.id1; omega)
 have HB := Aside0.mk h.blk
 clear h hk
 cases hbz : s.busy with
 | false =>
  have HV := Aside0.mk (show turnV s g = (9, s) by unfold turnV; rw [if_neg (by rw [hbz]; decide)])
  rw [HV.out]
  have a24 : w.cell? ⟨B, 24, none⟩ = some (.bool s.busy) := (blk_cell HB.out 24).trans rfl
  rw [hbz] at a24
  go_enter Try.func29, Try.ntmps29
  go_wp2_with (first | (go_at_call 50; (with_reducible refine (askNoneOk _ B bl q s H.out HI.out).mono ?_); rintro e1 w1 ⟨rfl, rfl⟩))
  go_ret
  exact ⟨rfl, H.out, Upd.refl _ _⟩
 | true =>
  by_cases hg : isG g
  ·have HV := Aside0.mk (show turnV s g = (0, { s with group := g, sent := false }) by unfold turnV; rw [if_pos hbz, if_pos hg])
   rw [HV.out]
   have HG := Aside0.mk hg
   clear hg
   have a24 : w.cell? ⟨B, 24, none⟩ = some (.bool s.busy) := (blk_cell HB.out 24).trans rfl
   have a4 : w.cell? ⟨B, 4, none⟩ = some (.int .i64 s.group) := (blk_cell HB.out 4).trans rfl
   have a25 : w.cell? ⟨B, 25, none⟩ = some (.bool s.sent) := (blk_cell HB.out 25).trans rfl
   have az4 := blk_frozen HB.out 4
   have az25 := blk_frozen HB.out 25
   rw [hbz] at a24
   go_enter Try.func29, Try.ntmps29
   go_wp2_with (first | (go_at_call 50; (with_reducible refine (askNoneOk _ B bl q s H.out HI.out).mono ?_); rintro e1 w1 ⟨rfl, rfl⟩) | (go_at_call 51; (with_reducible refine (isC _ g HG.out).mono ?_); rintro e1 w1 ⟨rfl, rfl⟩))
   go_ret
   exact ⟨rfl, ⟨askSet (s := { s with group := g }) (s' := { s with group := g, sent := false }) (askSet (s' := { s with group := g }) HB.out 4 _ rfl) 25 _ rfl, H.out.map.keep ((Below.heap_setCell _ _ _ _ H.out.lt.2.2.symm).trans (Below.heap_setCell _ _ _ _ H.out.lt.2.2.symm)) (fun _ _ h => h)⟩, (Upd.set _ ⟨B, 4, none⟩ _).and (Upd.set _ ⟨B, 25, none⟩ _)⟩
  ·have HV := Aside0.mk (show turnV s g = (2, s) by unfold turnV; rw [if_pos hbz, if_neg hg])
   rw [HV.out]
   have HG := Aside0.mk hg
   clear hg
   have a24 : w.cell? ⟨B, 24, none⟩ = some (.bool s.busy) := (blk_cell HB.out 24).trans rfl
   rw [hbz] at a24
   go_enter Try.func29, Try.ntmps29
   go_wp2_with (first | (go_at_call 50; (with_reducible refine (askNoneOk _ B bl q s H.out HI.out).mono ?_); rintro e1 w1 ⟨rfl, rfl⟩) | (go_at_call 51; (with_reducible refine (isNotC _ g HG.out).mono ?_); rintro e1 w1 ⟨rfl, rfl⟩))
   go_ret
   exact ⟨rfl, H.out, Upd.refl _ _⟩
end Go.Proofs.Ytonedijkgddepaa.P
namespace Go.Proofs.Ytonedijkgddepaa.P
open Go.Sq
open Go.RowKit Go.Maps Go.Proofs.YtonedijkgddepaaW.PrintWords Go.Proofs.YtonedijkgddepaaW.PrintLast Go.Proofs.YtonedijkgddepaaW.PrintMore
set_option linter.unusedVariables false
set_option linter.unusedSimpArgs false

set_option maxRecDepth 100000 in
theorem cloneNil45 (w : World) : Calls Try.prog 45 #[.slice none 0 0] w fun e' w' => e' = .returned (.slice none 0 0) ∧ w' = w := by
 have q : ∀ (w : World) (a : Option Addr) (n c n' c' : Nat), (binOp .eql 36 (.slice a n c) (.slice none n' c')).run Try.prog w = .ok (.bool a.isNone) w := fun w a n c n' c' => Lib.run_eql_slice_nil w _ _ a n c n' c' Try.underlying36
 go_enter Try.func45, Try.ntmps45
 go_wp2
 go_ret
 exact ⟨rfl, rfl⟩
theorem R_one {α : Type} {d : Kd α} (W : World) (base e : Nat) (x : α) (cs : List Value) (hM : d.M W base (fun _ => True) x cs) (hb : base ≤ W.heap.size) (hs : cs.length = d.sz) : d.R e (W.alloc (.cells cs.toArray e)) base (fun _ => True) (.slice (some ⟨W.heap.size, 0, none⟩) 1 1) [x] := by
 refine ⟨fun _ _ => trivial, cs, ?_, ?_⟩
 ·have h2 := World.ownsRow_lit (base := base) (e := e) (size := d.sz) W cs.toArray 1 hb (by unfold maxLen; omega) (by simpa using hs)
  simpa using h2
 ·refine ⟨by simpa using hs, fun j p hj => ?_⟩
  rcases j with _ | j
  ·have hp : x = p := by simpa using hj
   subst hp
   have h3 : d.M (W.alloc (.cells cs.toArray e)) base (fun k => True ∧ some k ≠ (Value.slice (some ⟨W.heap.size, 0, none⟩) 1 1).ownBlock) x cs := d.M_mono (fun k hk => ⟨trivial, fun he => by
    have h4 : k = W.heap.size := by simpa [Value.ownBlock] using he
    have := hk.2.2.1
    omega⟩) (Kd.M_below (d.M_bound hM) (below_alloc (Below.refl _ _) _))
   simpa [← hs] using h3
  ·simp at hj
def askPk (s : As) : S47 := ⟨2, -s.id, getG 0 s.group s.lead, s.group, z31, s.cmd, z42, z45, []⟩
def sendV (s : As) : As := { s with sent := true, waited := 0 }
def tickV (s : As) : As × List S47 := if s.busy = true then (if s.sent = true then (if s.waited < s.retry then ({ s with waited := s.waited + 1 }, []) else (sendV (nextV s), [askPk (sendV (nextV s))])) else (sendV s, [askPk (sendV s)])) else (s, [])
theorem sendV_ok {s : As} {q : Nat} (hk : s.ok q) : (sendV s).ok q := ⟨hk.id1, hk.nodes1, hk.retry1, hk.num1, hk.group1, ⟨Int.le_refl _, by show (0 : Int) ≤ 1000; omega⟩, hk.lead1, hk.q1, hk.data0⟩
theorem tickV_ok {s : As} {q : Nat} (hk : s.ok q) : (tickV s).1.ok q := by
 unfold tickV
 split
 ·split
  ·split
   ·rename_i h
    exact ⟨hk.id1, hk.nodes1, hk.retry1, hk.num1, hk.group1, by have h1 := hk.waited1; have h2 := hk.retry1; show 0 ≤ s.waited + 1 ∧ s.waited + 1 ≤ 1000; omega, hk.lead1, hk.q1, hk.data0⟩
   ·exact sendV_ok (nextV_ok hk)
  ·exact sendV_ok hk
 ·exact hk
theorem neg_w {x : Int} (h : 1 ≤ x ∧ x ≤ 1099511627776) : wrap64 (-x) = -x := by unfold wrap64; omega
set_option maxHeartbeats 4000000 in
set_option maxRecDepth 100000 in
theorem askTick (w : World) (B bl q : Nat) (s : As) (h : AskAt w B bl q s) (hk : s.ok q) :
  Calls Try.prog 22 #[.pointer (some ⟨B, 0, none⟩)] w fun e' w' => ∃ v, e' = .returned v ∧ Kd.R k47 47 w' w.heap.size (fun _ => True) v (tickV s).2 ∧ AskAt w' B bl (q + 1) (tickV s).1 ∧ Upd w w' (SA B bl) := by
 have H := Aside0.mk h
 have HK := Aside0.mk hk
 have HI := Aside0.mk (show s.id ≠ 0 by have := hk.id1; omega)
 have HB := Aside0.mk h.blk
 clear h hk
 cases hbz : s.busy with
 | false =>
  have HV := Aside0.mk (show tickV s = (s, []) by unfold tickV; rw [if_neg (by rw [hbz]; decide)])
  rw [HV.out]
  have h31 := fun (W : World) (hh : AskAt W B bl q s) => askBusyOk W B bl q s hh HI.out
  rw [hbz] at h31
  have H31 := Aside0.mk h31
  clear h31 hbz
  go_enter Try.func22, Try.ntmps22
  go_wp2_with (go_at_call 31; (with_reducible refine (H31.out _ H.out).mono ?_); rintro e1 w1 ⟨rfl, rfl⟩)
  go_ret
  exact ⟨_, rfl, Kd.R_nil _ _ _ _ _, H.out.mono (Nat.le_succ _), Upd.refl _ _⟩
 | true =>
  have h31 := fun (W : World) (hh : AskAt W B bl q s) => askBusyOk W B bl q s hh HI.out
  rw [hbz] at h31
  have H31 := Aside0.mk h31
  clear h31
  cases hsz : s.sent with
  | true =>
   have a25 : w.cell? ⟨B, 25, none⟩ = some (.bool s.sent) := (blk_cell HB.out 25).trans rfl
   have a26 : w.cell? ⟨B, 26, none⟩ = some (.int .i64 s.waited) := (blk_cell HB.out 26).trans rfl
   have a2 : w.cell? ⟨B, 2, none⟩ = some (.int .i64 s.retry) := (blk_cell HB.out 2).trans rfl
   have az26 := blk_frozen HB.out 26
   rw [hsz] at a25
   by_cases hwr : s.waited < s.retry
   ·have HV := Aside0.mk (show tickV s = ({ s with waited := s.waited + 1 }, []) by unfold tickV; rw [if_pos hbz, if_pos hsz, if_pos hwr])
    rw [HV.out]
    have f1 : decide (s.waited < s.retry) = true := decide_eq_true hwr
    have hw1 : wrap64 (s.waited + 1) = s.waited + 1 := by have h1 := HK.out.waited1; unfold wrap64; omega
    clear hwr hbz hsz
    go_enter Try.func22, Try.ntmps22
    go_wp2_with (go_at_call 31; (with_reducible refine (H31.out _ H.out).mono ?_); rintro e1 w1 ⟨rfl, rfl⟩)
    go_quiet (fail)
    go_wp2
    go_ret
    exact ⟨_, rfl, Kd.R_nil _ _ _ _ _, ⟨askSet (s := s) (s' := { s with waited := s.waited + 1 }) (w := w1.drewN _) (blk_drewN H.out.blk _) 26 _ rfl, (H.out.mono (Nat.le_succ q)).map.keep (Below.heap_setCell _ _ _ _ H.out.lt.2.2.symm) (fun _ _ h => h)⟩, (Upd.drew _ _ _).and ((Upd.set _ ⟨B, 26, none⟩ _).mono (fun k hk => Or.inl hk))⟩
   ·have HV := Aside0.mk (show tickV s = (sendV (nextV s), [askPk (sendV (nextV s))]) by unfold tickV; rw [if_pos hbz, if_pos hsz, if_neg hwr])
    rw [HV.out]
    have f1 : decide (s.waited < s.retry) = false := decide_eq_false hwr
    clear hwr hbz hsz
    go_enter Try.func22, Try.ntmps22
    go_wp2_with (go_at_call 31; (with_reducible refine (H31.out _ H.out).mono ?_); rintro e1 w1 ⟨rfl, rfl⟩)
    go_quiet (fail)
    go_upto_region 8 with (go_at_call 44; (with_reducible refine (askNext _ B bl q s (H.out.below (pw_below_drewN (Below.refl _ _) _)) HK.out).mono ?_); rintro e1 wa ⟨rfl, hn1, hn2⟩; have HT := Aside0.mk hn1; have HU := Aside0.mk ((Upd.drew w1 _ (SA B bl)).and hn2); clear hn1 hn2)
    have HKT := Aside0.mk (nextV_ok HK.out)
    have HBT := Aside0.mk HT.out.blk
    have HBL := Aside0.mk HT.out.lt.2.2
    obtain ⟨t, ht⟩ : ∃ t, t = nextV s := ⟨_, rfl⟩
    rw [← ht] at HKT HBT HT
    have HTE := Aside0.mk ht
    clear ht
    have a25 : wa.cell? ⟨B, 25, none⟩ = some (.bool t.sent) := (blk_cell HBT.out 25).trans rfl
    have a26 : wa.cell? ⟨B, 26, none⟩ = some (.int .i64 t.waited) := (blk_cell HBT.out 26).trans rfl
    have az25 := blk_frozen HBT.out 25
    have az26 := blk_frozen HBT.out 26
    go_upto_region 9 with (fail)
    clear a25 a26 az25 az26
    obtain ⟨wb8, hwb⟩ : ∃ wb, wb = (wa.setCell ⟨B, 25, none⟩ (.bool true)).setCell ⟨B, 26, none⟩ (.int .i64 0) := ⟨_, rfl⟩
    rw [← hwb]
    have HB8 := Aside0.mk (show wb8.heap[B]? = some (.cells (askA (sendV t) bl) 97 (0, 0)) by rw [hwb]; exact askSet (s := { t with sent := true }) (s' := sendV t) (askSet (s' := { t with sent := true }) HBT.out 25 _ rfl) 26 _ rfl)
    have U8 := Aside0.mk (show Upd wa wb8 (SA B bl) by rw [hwb]; exact ((Upd.set _ ⟨B, 25, none⟩ _).mono (fun k hk => Or.inl hk)).and ((Upd.set _ ⟨B, 26, none⟩ _).mono (fun k hk => Or.inl hk)))
    have MP8 := Aside0.mk (show MapAt NumP (.int .i64 0) wb8 bl (q + 1) t.lead by rw [hwb]; exact HT.out.map.keep ((Below.heap_setCell _ _ _ _ HBL.out.symm).trans (Below.heap_setCell _ _ _ _ HBL.out.symm)) (fun _ _ h => h))
    clear hwb
    go_upto_region 10 with (first | ((with_reducible refine gate_ (.load 38 (.tmp 43)) rfl ?_); refine load_blk rfl 38 _ rfl B 5 rfl HB8.out [(.int .i64 t.cmd.f0), (.int .i64 t.cmd.f1), (.int .i64 t.cmd.f2), (.int .i64 t.cmd.f3), (.int .i64 t.cmd.f4), (.string t.cmd.f5), (.string t.cmd.f6), (.string t.cmd.f7), (.string t.cmd.f8), (.int .i64 t.cmd.f9), (.int .i64 t.cmd.f10), (.int .i64 t.cmd.f11.f0), (.string t.cmd.f11.f1), (.int .i64 t.cmd.f11.f2), (.int .i64 t.cmd.f11.f3), (.int .i64 t.cmd.f12.f0), (.int .i64 t.cmd.f12.f1), (.int .i64 t.cmd.f13), (.slice none 0 0)] rfl Try.underlying38 rfl (by kernel_rfl) ?_) | ((with_reducible refine gate_dst (N := 3) rfl ?_); refine box_event ?hg (N := 3) ?hd (cs := #[(.int .i64 0), (.int .i64 0), (.int .i64 0), (.int .i64 0), (.int .i64 0), (.string (⟨#[]⟩ : ByteArray)), (.string (⟨#[]⟩ : ByteArray)), (.string (⟨#[]⟩ : ByteArray)), (.string (⟨#[]⟩ : ByteArray)), (.int .i64 0), (.int .i64 0), (.int .i64 0), (.string (⟨#[]⟩ : ByteArray)), (.int .i64 0), (.int .i64 0), (.int .i64 0), (.int .i64 0), (.int .i64 0), (.slice none 0 0)]) (t := 38) ?hr ?_; (case hd => rfl); (case hg => rfl); (case hr => first | (go_simp; done) | (go_simp; rfl)); intro gx hg_ wb9 hbox_ hbel_; have HX9 := Aside0.mk hbox_; have HL9 := Aside0.mk hbel_; clear hbox_ hbel_; have HG9 := Aside0.mk hg_; clear hg_) | ((with_reducible refine gate_ (.store 38 (.tmp 3) (.tmp 44)) rfl ?_); refine store_blk rfl 38 _ _ rfl gx 0 [(.int .i64 t.cmd.f0), (.int .i64 t.cmd.f1), (.int .i64 t.cmd.f2), (.int .i64 t.cmd.f3), (.int .i64 t.cmd.f4), (.string t.cmd.f5), (.string t.cmd.f6), (.string t.cmd.f7), (.string t.cmd.f8), (.int .i64 t.cmd.f9), (.int .i64 t.cmd.f10), (.int .i64 t.cmd.f11.f0), (.string t.cmd.f11.f1), (.int .i64 t.cmd.f11.f2), (.int .i64 t.cmd.f11.f3), (.int .i64 t.cmd.f12.f0), (.int .i64 t.cmd.f12.f1), (.int .i64 t.cmd.f13), (.slice none 0 0)] rfl rfl HX9.out (Nat.le_of_ble_eq_true rfl) (by kernel_rfl) (by rfl) #[(.int .i64 t.cmd.f0), (.int .i64 t.cmd.f1), (.int .i64 t.cmd.f2), (.int .i64 t.cmd.f3), (.int .i64 t.cmd.f4), (.string t.cmd.f5), (.string t.cmd.f6), (.string t.cmd.f7), (.string t.cmd.f8), (.int .i64 t.cmd.f9), (.int .i64 t.cmd.f10), (.int .i64 t.cmd.f11.f0), (.string t.cmd.f11.f1), (.int .i64 t.cmd.f11.f2), (.int .i64 t.cmd.f11.f3), (.int .i64 t.cmd.f12.f0), (.int .i64 t.cmd.f12.f1), (.int .i64 t.cmd.f13), (.slice none 0 0)] (by rfl) ?_; intro wb hnb_ hup_; have HX3 := Aside0.mk hnb_; have HU3 := Aside0.mk hup_; clear hnb_ hup_))
    have hng9 : B ≠ gx := fun e => by have h1 := blk_lt HB8.out; have h2 := HG9.out; omega
    have hnl9 : bl ≠ gx := fun e => by have h1 := MP8.out.lt; have h2 := HG9.out; omega
    have HB3 := Aside0.mk (HU3.out.block (blk_below HB8.out HL9.out) hng9)
    have U3 := Aside0.mk ((U8.out.and (Upd.of_below HL9.out (SA B bl))).trans HU3.out (fun k hk => Or.inr (by have h1 := U8.out.kept.1; have h2 := HG9.out; omega)))
    have MP3 := Aside0.mk ((MP8.out.keep (HL9.out.block _ MP8.out.lt) (fun _ _ h => h)).keep (P' := NumP) (HU3.out.kept.2 _ (Nat.lt_of_lt_of_le MP8.out.lt HL9.out.size) hnl9) (fun _ _ h => h))
    have NG9 := Aside0.mk (And.intro hng9 hnl9)
    clear hng9 hnl9
    have x18 : wb.cell? ⟨gx, 18, none⟩ = some (.slice none 0 0) := (blk_cell HX3.out 18).trans rfl
    have xz := blk_frozen HX3.out 18
    go_upto_region 11 with (first | (go_at_call 45; (with_reducible refine (cloneNil45 _).mono ?_); rintro e1 wq_ ⟨rfl, hwq_⟩; rw [hwq_]; clear hwq_ wq_))
    clear x18 xz
    have n1 := Aside0.mk (blk_far HB3.out (p := ⟨gx, 18, none⟩) NG9.out.1 (.slice none 0 0))
    have n2 := Aside0.mk (show (wb.setCell ⟨gx, 18, none⟩ (.slice none 0 0)).heap[gx]? = some (.cells #[(.int .i64 t.cmd.f0), (.int .i64 t.cmd.f1), (.int .i64 t.cmd.f2), (.int .i64 t.cmd.f3), (.int .i64 t.cmd.f4), (.string t.cmd.f5), (.string t.cmd.f6), (.string t.cmd.f7), (.string t.cmd.f8), (.int .i64 t.cmd.f9), (.int .i64 t.cmd.f10), (.int .i64 t.cmd.f11.f0), (.string t.cmd.f11.f1), (.int .i64 t.cmd.f11.f2), (.int .i64 t.cmd.f11.f3), (.int .i64 t.cmd.f12.f0), (.int .i64 t.cmd.f12.f1), (.int .i64 t.cmd.f13), (.slice none 0 0)] 38 (0, 0)) from blk_set HX3.out 18 _)
    have n3 := Aside0.mk (U3.out.trans (Upd.set wb ⟨gx, 18, none⟩ (.slice none 0 0)) (fun k hk => Or.inr (by have h1 := U8.out.kept.1; have h2 := HG9.out; have h3 : k = gx := hk; omega)))
    have n4 := Aside0.mk (MP3.out.keep (w' := wb.setCell ⟨gx, 18, none⟩ (.slice none 0 0)) (P' := NumP) (Below.heap_setCell _ _ _ _ NG9.out.2) (fun _ _ h => h))
    clear HB3 HX3 U3 MP3 HU3
    have HB3 := n1
    have HX3 := n2
    have U3 := n3
    have MP3 := n4
    clear n1 n2 n3 n4
    generalize wb.setCell ⟨gx, 18, none⟩ (.slice none 0 0) = wb2 at HB3 HX3 U3 MP3 ⊢
    have HL := Aside0.mk (fun (w' : World) (hb : Below wb2.heap.size wb2 w') => MapAt.look (t := 95) (MP3.out.keep (hb.block _ MP3.out.lt) (fun _ _ h => h)) Try.underlying95 t.group (by have := HKT.out.group1; omega))
    have hng := neg_w HKT.out.id1
    refine start_ (n := 22) (S := fun w' => Below wb2.heap.size wb2 w') (ds := []) (bq 22 0) (by kernel_rfl) rfl rfl (below_drew (Below.refl _ _)) (fun hHeld => ?_)
    generalize wb2.drew = wd at hHeld ⊢
    refine pu 0 49 (bq 22 1) ?_ rfl rfl (by kernel_rfl) (fun _ _ _ h => h) (by rfl) ?_ ?_ ?_ ?_
    rotate_left
    ·intro w'; go_simp; with_reducible rfl
    rotate_left
    ·simp only [Act.put, sqA, sqB, sqC, i64_w, i32_w]
     rfl
    refine pu 1 50 (bq 22 3) ?_ rfl rfl (by kernel_rfl) (fun _ _ _ h => h) (by rfl) ?_ ?_ ?_ ?_
    rotate_left
    ·intro w'; go_simp; with_reducible rfl
    rotate_left
    ·simp only [Act.put, sqA, sqB, sqC, i64_w, i32_w]
     rfl
    refine pu 2 51 (bq 22 7) ?_ rfl rfl (by kernel_rfl) (fun _ _ _ h => h) (by rfl) ?_ ?_ ?_ ?_
    rotate_left
    ·intro w'; go_simp; with_reducible rfl
    rotate_left
    ·simp only [Act.put, sqA, sqB, sqC, i64_w, i32_w]
     rfl
    refine pu 5 54 (bq 22 39) ?_ rfl rfl (by kernel_rfl) (fun _ _ _ h => h) (by rfl) ?_ ?_ ?_ ?_
    rotate_left
    ·intro w'; go_simp; with_reducible rfl
    rotate_left
    ·simp only [Act.put, sqA, sqB, sqC, i64_w, i32_w]
     rfl
    refine pu 6 55 (bq 22 103) ?_ rfl rfl (by kernel_rfl) (fun _ _ _ h => h) (by rfl) ?_ ?_ ?_ ?_
    rotate_left
    ·intro w'; go_simp; with_reducible rfl
    rotate_left
    ·simp only [Act.put, sqA, sqB, sqC, i64_w, i32_w]
     rfl
    refine pu 7 56 (bq 22 231) ?_ rfl rfl (by kernel_rfl) (fun _ _ _ h => h) (by rfl) ?_ ?_ ?_ ?_
    rotate_left
    ·intro w'; go_simp; with_reducible rfl
    rotate_left
    ·simp only [Act.put, sqA, sqB, sqC, i64_w, i32_w]
     rfl
    refine pu 9 58 (bq 22 743) ?_ rfl rfl (by kernel_rfl) (fun _ _ _ h => h) (by rfl) ?_ ?_ ?_ ?_
    rotate_left
    ·intro w'; go_simp; with_reducible rfl
    rotate_left
    ·simp only [Act.put, sqA, sqB, sqC, i64_w, i32_w]
     rfl
    refine pu 10 59 (bq 22 1767) ?_ rfl rfl (by kernel_rfl) (fun _ _ _ h => h) (by rfl) ?_ ?_ ?_ ?_
    rotate_left
    ·intro w'; go_simp; with_reducible rfl
    rotate_left
    ·simp only [Act.put, sqA, sqB, sqC, i64_w, i32_w]
     rfl
    refine pu 11 60 (bq 22 3815) ?_ rfl rfl (by kernel_rfl) (fun _ _ _ h => h) (by rfl) ?_ ?_ ?_ ?_
    rotate_left
    ·intro w'; go_simp; with_reducible rfl
    rotate_left
    ·simp only [Act.put, sqA, sqB, sqC, i64_w, i32_w]
     rfl
    refine pu 14 63 (bq 22 20199) ?_ rfl rfl (by kernel_rfl) (fun _ _ _ h => h) (by rfl) ?_ ?_ ?_ ?_
    rotate_left
    ·intro w'; go_simp; with_reducible rfl
    rotate_left
    ·simp only [Act.put, sqA, sqB, sqC, i64_w, i32_w]
     rfl
    refine pu 15 64 (bq 22 52967) ?_ rfl rfl (by kernel_rfl) (fun _ _ _ h => h) (by rfl) ?_ ?_ ?_ ?_
    rotate_left
    ·intro w'; go_simp; with_reducible rfl
    rotate_left
    ·simp only [Act.put, sqA, sqB, sqC, i64_w, i32_w]
     rfl
    refine pu 16 65 (bq 22 118503) ?_ rfl rfl (by kernel_rfl) (fun _ _ _ h => h) (by rfl) ?_ ?_ ?_ ?_
    rotate_left
    ·intro w'; go_simp; with_reducible rfl
    rotate_left
    ·simp only [Act.put, sqA, sqB, sqC, i64_w, i32_w]
     rfl
    refine tk 3 52 (bq 22 118511) ?_ rfl rfl (by kernel_rfl) (fun _ _ _ h => h) (by rfl) ?_ hHeld ?_ ?_ ?_
    rotate_left
    ·intro w' hw'
     have s0 := (blk_cell (blk_below HB3.out hw') 0).trans (show _ = some (.int .i64 t.id) from rfl)
     go_simp
     with_reducible rfl
    rotate_left
    ·simp only [Act.put, sqA, sqB, sqC, i64_w, i32_w]
     rfl
    refine pu 4 53 (bq 22 118527) ?_ rfl rfl (by kernel_rfl) (fun _ _ _ h => h) (by rfl) ?_ ?_ ?_ ?_
    rotate_left
    ·intro w'; go_simp; with_reducible rfl
    rotate_left
    ·simp only [Act.put, sqA, sqB, sqC, i64_w, i32_w]
     rfl
    refine tk 8 57 (bq 22 118783) ?_ rfl rfl (by kernel_rfl) (fun _ _ _ h => h) (by rfl) ?_ hHeld ?_ ?_ ?_
    rotate_left
    ·intro w' hw'
     have s0 := (blk_cell (blk_below HB3.out hw') 27).trans (show _ = some (.map (some bl)) from rfl)
     go_simp
     with_reducible rfl
    rotate_left
    ·simp only [Act.put, sqA, sqB, sqC, i64_w, i32_w]
     rfl
    refine tk 12 61 (bq 22 122879) ?_ rfl rfl (by kernel_rfl) (fun _ _ _ h => h) (by rfl) ?_ hHeld ?_ ?_ ?_
    rotate_left
    ·intro w' hw'
     have s0 := (blk_cell (blk_below HB3.out hw') 4).trans (show _ = some (.int .i64 t.group) from rfl)
     go_simp
     with_reducible rfl
    rotate_left
    ·simp only [Act.put, sqA, sqB, sqC, i64_w, i32_w]
     rfl
    refine tk 13 62 (bq 22 131071) ?_ rfl rfl (by kernel_rfl) (fun _ _ _ h => h) (by rfl) ?_ hHeld ?_ ?_ ?_
    rotate_left
    ·intro w' hw'
     have s0 := HL.out w' hw'
     go_simp
     with_reducible rfl
    rotate_left
    ·simp only [Act.put, sqA, sqB, sqC, i64_w, i32_w]
     rfl
    refine tk 17 66 (bq 22 262143) ?_ rfl rfl (by kernel_rfl) (fun _ _ _ h => h) (by rfl) ?_ hHeld ?_ ?_ ?_
    rotate_left
    ·intro w' hw'
     have s0 := (blk_cell (blk_below HB3.out hw') 4).trans (show _ = some (.int .i64 t.group) from rfl)
     go_simp
     with_reducible rfl
    rotate_left
    ·simp only [Act.put, sqA, sqB, sqC, i64_w, i32_w]
     rfl
    refine take_ (i := 18) (N := some 67) (a' := ?_) (bq 22 524287) rfl rfl (by kernel_rfl) (fun _ _ _ h => h) (yields_blk (by rfl) 38 _ rfl gx 0 rfl [(.int .i64 t.cmd.f0), (.int .i64 t.cmd.f1), (.int .i64 t.cmd.f2), (.int .i64 t.cmd.f3), (.int .i64 t.cmd.f4), (.string t.cmd.f5), (.string t.cmd.f6), (.string t.cmd.f7), (.string t.cmd.f8), (.int .i64 t.cmd.f9), (.int .i64 t.cmd.f10), (.int .i64 t.cmd.f11.f0), (.string t.cmd.f11.f1), (.int .i64 t.cmd.f11.f2), (.int .i64 t.cmd.f11.f3), (.int .i64 t.cmd.f12.f0), (.int .i64 t.cmd.f12.f1), (.int .i64 t.cmd.f13), (.slice none 0 0)] rfl (fun w' hw' => blk_below HX3.out hw') Try.underlying38 rfl (by kernel_rfl)) hHeld ?_ ?_
    rotate_left
    ·simp only [Act.put, sqA, sqB, sqC, i64_w, i32_w]
     rfl
    refine pu 19 68 (bq 22 1048575) ?_ rfl rfl (by kernel_rfl) (fun _ _ _ h => h) (by rfl) ?_ ?_ ?_ ?_
    rotate_left
    ·intro w'; go_simp; with_reducible rfl
    rotate_left
    ·simp only [Act.put, sqA, sqB, sqC, i64_w, i32_w]
     rfl
    refine one_ (i := 20) (N := some 69) (bq 22 2097151) rfl rfl (by kernel_rfl) (by decide) (fun K hK => ?_)
    refine value_ (w1 := ?_) (v := ?_) (by rfl) rfl ?_ ?_
    rotate_left 2
    ·go_simp
     constructor
     ·rfl
     ·rfl
    refine hK.out _ _ (below_alloc hHeld _) ?_
    intro _
    clear hK K
    refine norm_ (a' := ?_) ?_ ?_
    rotate_left
    ·show Act.put _ (some 69) _ = _; simp only [Act.put, sqA, sqB, sqC, i64_w, i32_w]
     rfl
    refine pu 21 2 (bq 22 4194303) ?_ rfl rfl (by kernel_rfl) (fun _ _ _ h => h) (by rfl) ?_ ?_ ?_ ?_
    rotate_left
    ·intro w'; go_simp; with_reducible rfl
    rotate_left
    ·simp only [Act.put, sqA, sqB, sqC, i64_w, i32_w]
     rfl
    refine done_ (by kernel_rfl) ?_
    go_wp2
    go_ret
    rw [hng, ← HTE.out]
    have hDW := Upd.and HU.out (U3.out.and (Upd.of_below hHeld _))
    have hd : Kd.string.R 9 wd w1.heap.size (fun _ => True) (.slice none 0 0) t.cmd.f14 := by rw [HKT.out.data0]; exact Kd.R_nil _ _ _ _ _
    have hM : k47.M wd w1.heap.size (fun _ => True) (askPk (sendV t)) [(.int .i64 2), (.int .i64 (-t.id)), (.int .i64 (getG 0 t.group t.lead)), (.int .i64 t.group), (.int .i64 0), (.int .i64 0), (.int .i64 0), (.int .i64 0), (.int .i64 0), (.int .i64 0), (.slice none 0 0), (.slice none 0 0), (.int .i64 t.cmd.f0), (.int .i64 t.cmd.f1), (.int .i64 t.cmd.f2), (.int .i64 t.cmd.f3), (.int .i64 t.cmd.f4), (.string t.cmd.f5), (.string t.cmd.f6), (.string t.cmd.f7), (.string t.cmd.f8), (.int .i64 t.cmd.f9), (.int .i64 t.cmd.f10), (.int .i64 t.cmd.f11.f0), (.string t.cmd.f11.f1), (.int .i64 t.cmd.f11.f2), (.int .i64 t.cmd.f11.f3), (.int .i64 t.cmd.f12.f0), (.int .i64 t.cmd.f12.f1), (.int .i64 t.cmd.f13), (.slice none 0 0), (.int .i64 0), (.int .i64 0), (.int .i64 0), (.slice none 0 0), (.slice none 0 0), (.slice none 0 0), (.int .i64 0), (.slice none 0 0), (.slice none 0 0)] := k47_mkM wd _ _ (askPk (sendV t)) (Kd.R_nil _ _ _ _ _) (Kd.R_nil _ _ _ _ _) hd (Kd.R_nil _ _ _ _ _) (Kd.R_nil _ _ _ _ _) (Kd.R_nil _ _ _ _ _) (Kd.R_nil _ _ _ _ _) (Kd.R_nil _ _ _ _ _)
    have hR := R_one wd w1.heap.size 47 (askPk (sendV t)) _ hM hDW.kept.1 rfl
    exact ⟨_, rfl, hR, ⟨blk_alloc (blk_below HB3.out hHeld) _, (MP3.out.keep (hHeld.block _ MP3.out.lt) (fun _ _ h => h)).keep (Below.heap_alloc _ _ _ (Nat.lt_of_lt_of_le MP3.out.lt hHeld.size)) (fun _ _ h => h)⟩, hDW.and (Upd.of_below (below_alloc (Below.refl _ _) _) _)⟩
  | false =>
   have a25 : w.cell? ⟨B, 25, none⟩ = some (.bool s.sent) := (blk_cell HB.out 25).trans rfl
   rw [hsz] at a25
   have HV := Aside0.mk (show tickV s = (sendV s, [askPk (sendV s)]) by unfold tickV; rw [if_pos hbz, if_neg (by rw [hsz]; decide)])
   rw [HV.out]
   clear hbz hsz
   go_enter Try.func22, Try.ntmps22
   go_wp2_with (go_at_call 31; (with_reducible refine (H31.out _ H.out).mono ?_); rintro e1 w1 ⟨rfl, rfl⟩)
   go_quiet (fail)
   go_upto_region 8 with (fail)
   rename Nat => nq_
   have HT := Aside0.mk ((H.out.mono (Nat.le_succ q)).below (pw_below_drewN (Below.refl w1.heap.size w1) nq_))
   have HU := Aside0.mk (Upd.drew w1 nq_ (SA B bl))
   generalize w1.drewN nq_ = wa at HT HU ⊢
   obtain ⟨t, ht⟩ : ∃ t, t = s := ⟨_, rfl⟩
   rw [← ht] at HT
   have HKT := Aside0.mk (show t.ok q by rw [ht]; exact HK.out)
   have HBT := Aside0.mk HT.out.blk
   have HBL := Aside0.mk HT.out.lt.2.2
   have HTE := Aside0.mk ht
   clear ht
   have a25 : wa.cell? ⟨B, 25, none⟩ = some (.bool t.sent) := (blk_cell HBT.out 25).trans rfl
   have a26 : wa.cell? ⟨B, 26, none⟩ = some (.int .i64 t.waited) := (blk_cell HBT.out 26).trans rfl
   have az25 := blk_frozen HBT.out 25
   have az26 := blk_frozen HBT.out 26
   go_upto_region 9 with (fail)
   clear a25 a26 az25 az26
   obtain ⟨wb8, hwb⟩ : ∃ wb, wb = (wa.setCell ⟨B, 25, none⟩ (.bool true)).setCell ⟨B, 26, none⟩ (.int .i64 0) := ⟨_, rfl⟩
   rw [← hwb]
   have HB8 := Aside0.mk (show wb8.heap[B]? = some (.cells (askA (sendV t) bl) 97 (0, 0)) by rw [hwb]; exact askSet (s := { t with sent := true }) (s' := sendV t) (askSet (s' := { t with sent := true }) HBT.out 25 _ rfl) 26 _ rfl)
   have U8 := Aside0.mk (show Upd wa wb8 (SA B bl) by rw [hwb]; exact ((Upd.set _ ⟨B, 25, none⟩ _).mono (fun k hk => Or.inl hk)).and ((Upd.set _ ⟨B, 26, none⟩ _).mono (fun k hk => Or.inl hk)))
   have MP8 := Aside0.mk (show MapAt NumP (.int .i64 0) wb8 bl (q + 1) t.lead by rw [hwb]; exact HT.out.map.keep ((Below.heap_setCell _ _ _ _ HBL.out.symm).trans (Below.heap_setCell _ _ _ _ HBL.out.symm)) (fun _ _ h => h))
   clear hwb
   go_upto_region 10 with (first | ((with_reducible refine gate_ (.load 38 (.tmp 43)) rfl ?_); refine load_blk rfl 38 _ rfl B 5 rfl HB8.out [(.int .i64 t.cmd.f0), (.int .i64 t.cmd.f1), (.int .i64 t.cmd.f2), (.int .i64 t.cmd.f3), (.int .i64 t.cmd.f4), (.string t.cmd.f5), (.string t.cmd.f6), (.string t.cmd.f7), (.string t.cmd.f8), (.int .i64 t.cmd.f9), (.int .i64 t.cmd.f10), (.int .i64 t.cmd.f11.f0), (.string t.cmd.f11.f1), (.int .i64 t.cmd.f11.f2), (.int .i64 t.cmd.f11.f3), (.int .i64 t.cmd.f12.f0), (.int .i64 t.cmd.f12.f1), (.int .i64 t.cmd.f13), (.slice none 0 0)] rfl Try.underlying38 rfl (by kernel_rfl) ?_) | ((with_reducible refine gate_dst (N := 3) rfl ?_); refine box_event ?hg (N := 3) ?hd (cs := #[(.int .i64 0), (.int .i64 0), (.int .i64 0), (.int .i64 0), (.int .i64 0), (.string (⟨#[]⟩ : ByteArray)), (.string (⟨#[]⟩ : ByteArray)), (.string (⟨#[]⟩ : ByteArray)), (.string (⟨#[]⟩ : ByteArray)), (.int .i64 0), (.int .i64 0), (.int .i64 0), (.string (⟨#[]⟩ : ByteArray)), (.int .i64 0), (.int .i64 0), (.int .i64 0), (.int .i64 0), (.int .i64 0), (.slice none 0 0)]) (t := 38) ?hr ?_; (case hd => rfl); (case hg => rfl); (case hr => first | (go_simp; done) | (go_simp; rfl)); intro gx hg_ wb9 hbox_ hbel_; have HX9 := Aside0.mk hbox_; have HL9 := Aside0.mk hbel_; clear hbox_ hbel_; have HG9 := Aside0.mk hg_; clear hg_) | ((with_reducible refine gate_ (.store 38 (.tmp 3) (.tmp 44)) rfl ?_); refine store_blk rfl 38 _ _ rfl gx 0 [(.int .i64 t.cmd.f0), (.int .i64 t.cmd.f1), (.int .i64 t.cmd.f2), (.int .i64 t.cmd.f3), (.int .i64 t.cmd.f4), (.string t.cmd.f5), (.string t.cmd.f6), (.string t.cmd.f7), (.string t.cmd.f8), (.int .i64 t.cmd.f9), (.int .i64 t.cmd.f10), (.int .i64 t.cmd.f11.f0), (.string t.cmd.f11.f1), (.int .i64 t.cmd.f11.f2), (.int .i64 t.cmd.f11.f3), (.int .i64 t.cmd.f12.f0), (.int .i64 t.cmd.f12.f1), (.int .i64 t.cmd.f13), (.slice none 0 0)] rfl rfl HX9.out (Nat.le_of_ble_eq_true rfl) (by kernel_rfl) (by rfl) #[(.int .i64 t.cmd.f0), (.int .i64 t.cmd.f1), (.int .i64 t.cmd.f2), (.int .i64 t.cmd.f3), (.int .i64 t.cmd.f4), (.string t.cmd.f5), (.string t.cmd.f6), (.string t.cmd.f7), (.string t.cmd.f8), (.int .i64 t.cmd.f9), (.int .i64 t.cmd.f10), (.int .i64 t.cmd.f11.f0), (.string t.cmd.f11.f1), (.int .i64 t.cmd.f11.f2), (.int .i64 t.cmd.f11.f3), (.int .i64 t.cmd.f12.f0), (.int .i64 t.cmd.f12.f1), (.int .i64 t.cmd.f13), (.slice none 0 0)] (by rfl) ?_; intro wb hnb_ hup_; have HX3 := Aside0.mk hnb_; have HU3 := Aside0.mk hup_; clear hnb_ hup_))
   have hng9 : B ≠ gx := fun e => by have h1 := blk_lt HB8.out; have h2 := HG9.out; omega
   have hnl9 : bl ≠ gx := fun e => by have h1 := MP8.out.lt; have h2 := HG9.out; omega
   have HB3 := Aside0.mk (HU3.out.block (blk_below HB8.out HL9.out) hng9)
   have U3 := Aside0.mk ((U8.out.and (Upd.of_below HL9.out (SA B bl))).trans HU3.out (fun k hk => Or.inr (by have h1 := U8.out.kept.1; have h2 := HG9.out; omega)))
   have MP3 := Aside0.mk ((MP8.out.keep (HL9.out.block _ MP8.out.lt) (fun _ _ h => h)).keep (P' := NumP) (HU3.out.kept.2 _ (Nat.lt_of_lt_of_le MP8.out.lt HL9.out.size) hnl9) (fun _ _ h => h))
   have NG9 := Aside0.mk (And.intro hng9 hnl9)
   clear hng9 hnl9
   have x18 : wb.cell? ⟨gx, 18, none⟩ = some (.slice none 0 0) := (blk_cell HX3.out 18).trans rfl
   have xz := blk_frozen HX3.out 18
   go_upto_region 11 with (first | (go_at_call 45; (with_reducible refine (cloneNil45 _).mono ?_); rintro e1 wq_ ⟨rfl, hwq_⟩; rw [hwq_]; clear hwq_ wq_))
   clear x18 xz
   have n1 := Aside0.mk (blk_far HB3.out (p := ⟨gx, 18, none⟩) NG9.out.1 (.slice none 0 0))
   have n2 := Aside0.mk (show (wb.setCell ⟨gx, 18, none⟩ (.slice none 0 0)).heap[gx]? = some (.cells #[(.int .i64 t.cmd.f0), (.int .i64 t.cmd.f1), (.int .i64 t.cmd.f2), (.int .i64 t.cmd.f3), (.int .i64 t.cmd.f4), (.string t.cmd.f5), (.string t.cmd.f6), (.string t.cmd.f7), (.string t.cmd.f8), (.int .i64 t.cmd.f9), (.int .i64 t.cmd.f10), (.int .i64 t.cmd.f11.f0), (.string t.cmd.f11.f1), (.int .i64 t.cmd.f11.f2), (.int .i64 t.cmd.f11.f3), (.int .i64 t.cmd.f12.f0), (.int .i64 t.cmd.f12.f1), (.int .i64 t.cmd.f13), (.slice none 0 0)] 38 (0, 0)) from blk_set HX3.out 18 _)
   have n3 := Aside0.mk (U3.out.trans (Upd.set wb ⟨gx, 18, none⟩ (.slice none 0 0)) (fun k hk => Or.inr (by have h1 := U8.out.kept.1; have h2 := HG9.out; have h3 : k = gx := hk; omega)))
   have n4 := Aside0.mk (MP3.out.keep (w' := wb.setCell ⟨gx, 18, none⟩ (.slice none 0 0)) (P' := NumP) (Below.heap_setCell _ _ _ _ NG9.out.2) (fun _ _ h => h))
   clear HB3 HX3 U3 MP3 HU3
   have HB3 := n1
   have HX3 := n2
   have U3 := n3
   have MP3 := n4
   clear n1 n2 n3 n4
   generalize wb.setCell ⟨gx, 18, none⟩ (.slice none 0 0) = wb2 at HB3 HX3 U3 MP3 ⊢
   have HL := Aside0.mk (fun (w' : World) (hb : Below wb2.heap.size wb2 w') => MapAt.look (t := 95) (MP3.out.keep (hb.block _ MP3.out.lt) (fun _ _ h => h)) Try.underlying95 t.group (by have := HKT.out.group1; omega))
   have hng := neg_w HKT.out.id1
   refine start_ (n := 22) (S := fun w' => Below wb2.heap.size wb2 w') (ds := []) (bq 22 0) (by kernel_rfl) rfl rfl (below_drew (Below.refl _ _)) (fun hHeld => ?_)
   generalize wb2.drew = wd at hHeld ⊢
   refine pu 0 49 (bq 22 1) ?_ rfl rfl (by kernel_rfl) (fun _ _ _ h => h) (by rfl) ?_ ?_ ?_ ?_
   rotate_left
   ·intro w'; go_simp; with_reducible rfl
   rotate_left
   ·simp only [Act.put, sqA, sqB, sqC, i64_w, i32_w]
    rfl
   refine pu 1 50 (bq 22 3) ?_ rfl rfl (by kernel_rfl) (fun _ _ _ h => h) (by rfl) ?_ ?_ ?_ ?_
   rotate_left
   ·intro w'; go_simp; with_reducible rfl
   rotate_left
   ·simp only [Act.put, sqA, sqB, sqC, i64_w, i32_w]
    rfl
   refine pu 2 51 (bq 22 7) ?_ rfl rfl (by kernel_rfl) (fun _ _ _ h => h) (by rfl) ?_ ?_ ?_ ?_
   rotate_left
   ·intro w'; go_simp; with_reducible rfl
   rotate_left
   ·simp only [Act.put, sqA, sqB, sqC, i64_w, i32_w]
    rfl
   refine pu 5 54 (bq 22 39) ?_ rfl rfl (by kernel_rfl) (fun _ _ _ h => h) (by rfl) ?_ ?_ ?_ ?_
   rotate_left
   ·intro w'; go_simp; with_reducible rfl
   rotate_left
   ·simp only [Act.put, sqA, sqB, sqC, i64_w, i32_w]
    rfl
   refine pu 6 55 (bq 22 103) ?_ rfl rfl (by kernel_rfl) (fun _ _ _ h => h) (by rfl) ?_ ?_ ?_ ?_
   rotate_left
   ·intro w'; go_simp; with_reducible rfl
   rotate_left
   ·simp only [Act.put, sqA, sqB, sqC, i64_w, i32_w]
    rfl
   refine pu 7 56 (bq 22 231) ?_ rfl rfl (by kernel_rfl) (fun _ _ _ h => h) (by rfl) ?_ ?_ ?_ ?_
   rotate_left
   ·intro w'; go_simp; with_reducible rfl
   rotate_left
   ·simp only [Act.put, sqA, sqB, sqC, i64_w, i32_w]
    rfl
   refine pu 9 58 (bq 22 743) ?_ rfl rfl (by kernel_rfl) (fun _ _ _ h => h) (by rfl) ?_ ?_ ?_ ?_
   rotate_left
   ·intro w'; go_simp; with_reducible rfl
   rotate_left
   ·simp only [Act.put, sqA, sqB, sqC, i64_w, i32_w]
    rfl
   refine pu 10 59 (bq 22 1767) ?_ rfl rfl (by kernel_rfl) (fun _ _ _ h => h) (by rfl) ?_ ?_ ?_ ?_
   rotate_left
   ·intro w'; go_simp; with_reducible rfl
   rotate_left
   ·simp only [Act.put, sqA, sqB, sqC, i64_w, i32_w]
    rfl
   refine pu 11 60 (bq 22 3815) ?_ rfl rfl (by kernel_rfl) (fun _ _ _ h => h) (by rfl) ?_ ?_ ?_ ?_
   rotate_left
   ·intro w'; go_simp; with_reducible rfl
   rotate_left
   ·simp only [Act.put, sqA, sqB, sqC, i64_w, i32_w]
    rfl
   refine pu 14 63 (bq 22 20199) ?_ rfl rfl (by kernel_rfl) (fun _ _ _ h => h) (by rfl) ?_ ?_ ?_ ?_
   rotate_left
   ·intro w'; go_simp; with_reducible rfl
   rotate_left
   ·simp only [Act.put, sqA, sqB, sqC, i64_w, i32_w]
    rfl
   refine pu 15 64 (bq 22 52967) ?_ rfl rfl (by kernel_rfl) (fun _ _ _ h => h) (by rfl) ?_ ?_ ?_ ?_
   rotate_left
   ·intro w'; go_simp; with_reducible rfl
   rotate_left
   ·simp only [Act.put, sqA, sqB, sqC, i64_w, i32_w]
    rfl
   refine pu 16 65 (bq 22 118503) ?_ rfl rfl (by kernel_rfl) (fun _ _ _ h => h) (by rfl) ?_ ?_ ?_ ?_
   rotate_left
   ·intro w'; go_simp; with_reducible rfl
   rotate_left
   ·simp only [Act.put, sqA, sqB, sqC, i64_w, i32_w]
    rfl
   refine tk 3 52 (bq 22 118511) ?_ rfl rfl (by kernel_rfl) (fun _ _ _ h => h) (by rfl) ?_ hHeld ?_ ?_ ?_
   rotate_left
   ·intro w' hw'
    have s0 := (blk_cell (blk_below HB3.out hw') 0).trans (show _ = some (.int .i64 t.id) from rfl)
    go_simp
    with_reducible rfl
   rotate_left
   ·simp only [Act.put, sqA, sqB, sqC, i64_w, i32_w]
    rfl
   refine pu 4 53 (bq 22 118527) ?_ rfl rfl (by kernel_rfl) (fun _ _ _ h => h) (by rfl) ?_ ?_ ?_ ?_
   rotate_left
   ·intro w'; go_simp; with_reducible rfl
   rotate_left
   ·simp only [Act.put, sqA, sqB, sqC, i64_w, i32_w]
    rfl
   refine tk 8 57 (bq 22 118783) ?_ rfl rfl (by kernel_rfl) (fun _ _ _ h => h) (by rfl) ?_ hHeld ?_ ?_ ?_
   rotate_left
   ·intro w' hw'
    have s0 := (blk_cell (blk_below HB3.out hw') 27).trans (show _ = some (.map (some bl)) from rfl)
    go_simp
    with_reducible rfl
   rotate_left
   ·simp only [Act.put, sqA, sqB, sqC, i64_w, i32_w]
    rfl
   refine tk 12 61 (bq 22 122879) ?_ rfl rfl (by kernel_rfl) (fun _ _ _ h => h) (by rfl) ?_ hHeld ?_ ?_ ?_
   rotate_left
   ·intro w' hw'
    have s0 := (blk_cell (blk_below HB3.out hw') 4).trans (show _ = some (.int .i64 t.group) from rfl)
    go_simp
    with_reducible rfl
   rotate_left
   ·simp only [Act.put, sqA, sqB, sqC, i64_w, i32_w]
    rfl
   refine tk 13 62 (bq 22 131071) ?_ rfl rfl (by kernel_rfl) (fun _ _ _ h => h) (by rfl) ?_ hHeld ?_ ?_ ?_
   rotate_left
   ·intro w' hw'
    have s0 := HL.out w' hw'
    go_simp
    with_reducible rfl
   rotate_left
   ·simp only [Act.put, sqA, sqB, sqC, i64_w, i32_w]
    rfl
   refine tk 17 66 (bq 22 262143) ?_ rfl rfl (by kernel_rfl) (fun _ _ _ h => h) (by rfl) ?_ hHeld ?_ ?_ ?_
   rotate_left
   ·intro w' hw'
    have s0 := (blk_cell (blk_below HB3.out hw') 4).trans (show _ = some (.int .i64 t.group) from rfl)
    go_simp
    with_reducible rfl
   rotate_left
   ·simp only [Act.put, sqA, sqB, sqC, i64_w, i32_w]
    rfl
   refine take_ (i := 18) (N := some 67) (a' := ?_) (bq 22 524287) rfl rfl (by kernel_rfl) (fun _ _ _ h => h) (yields_blk (by rfl) 38 _ rfl gx 0 rfl [(.int .i64 t.cmd.f0), (.int .i64 t.cmd.f1), (.int .i64 t.cmd.f2), (.int .i64 t.cmd.f3), (.int .i64 t.cmd.f4), (.string t.cmd.f5), (.string t.cmd.f6), (.string t.cmd.f7), (.string t.cmd.f8), (.int .i64 t.cmd.f9), (.int .i64 t.cmd.f10), (.int .i64 t.cmd.f11.f0), (.string t.cmd.f11.f1), (.int .i64 t.cmd.f11.f2), (.int .i64 t.cmd.f11.f3), (.int .i64 t.cmd.f12.f0), (.int .i64 t.cmd.f12.f1), (.int .i64 t.cmd.f13), (.slice none 0 0)] rfl (fun w' hw' => blk_below HX3.out hw') Try.underlying38 rfl (by kernel_rfl)) hHeld ?_ ?_
   rotate_left
   ·simp only [Act.put, sqA, sqB, sqC, i64_w, i32_w]
    rfl
   refine pu 19 68 (bq 22 1048575) ?_ rfl rfl (by kernel_rfl) (fun _ _ _ h => h) (by rfl) ?_ ?_ ?_ ?_
   rotate_left
   ·intro w'; go_simp; with_reducible rfl
   rotate_left
   ·simp only [Act.put, sqA, sqB, sqC, i64_w, i32_w]
    rfl
   refine one_ (i := 20) (N := some 69) (bq 22 2097151) rfl rfl (by kernel_rfl) (by decide) (fun K hK => ?_)
   refine value_ (w1 := ?_) (v := ?_) (by rfl) rfl ?_ ?_
   rotate_left 2
   ·go_simp
    constructor
    ·rfl
    ·rfl
   refine hK.out _ _ (below_alloc hHeld _) ?_
   intro _
   clear hK K
   refine norm_ (a' := ?_) ?_ ?_
   rotate_left
   ·show Act.put _ (some 69) _ = _; simp only [Act.put, sqA, sqB, sqC, i64_w, i32_w]
    rfl
   refine pu 21 2 (bq 22 4194303) ?_ rfl rfl (by kernel_rfl) (fun _ _ _ h => h) (by rfl) ?_ ?_ ?_ ?_
   rotate_left
   ·intro w'; go_simp; with_reducible rfl
   rotate_left
   ·simp only [Act.put, sqA, sqB, sqC, i64_w, i32_w]
    rfl
   refine done_ (by kernel_rfl) ?_
   go_wp2
   go_ret
   rw [hng, ← HTE.out]
   have hDW := Upd.and HU.out (U3.out.and (Upd.of_below hHeld _))
   have hd : Kd.string.R 9 wd w1.heap.size (fun _ => True) (.slice none 0 0) t.cmd.f14 := by rw [HKT.out.data0]; exact Kd.R_nil _ _ _ _ _
   have hM : k47.M wd w1.heap.size (fun _ => True) (askPk (sendV t)) [(.int .i64 2), (.int .i64 (-t.id)), (.int .i64 (getG 0 t.group t.lead)), (.int .i64 t.group), (.int .i64 0), (.int .i64 0), (.int .i64 0), (.int .i64 0), (.int .i64 0), (.int .i64 0), (.slice none 0 0), (.slice none 0 0), (.int .i64 t.cmd.f0), (.int .i64 t.cmd.f1), (.int .i64 t.cmd.f2), (.int .i64 t.cmd.f3), (.int .i64 t.cmd.f4), (.string t.cmd.f5), (.string t.cmd.f6), (.string t.cmd.f7), (.string t.cmd.f8), (.int .i64 t.cmd.f9), (.int .i64 t.cmd.f10), (.int .i64 t.cmd.f11.f0), (.string t.cmd.f11.f1), (.int .i64 t.cmd.f11.f2), (.int .i64 t.cmd.f11.f3), (.int .i64 t.cmd.f12.f0), (.int .i64 t.cmd.f12.f1), (.int .i64 t.cmd.f13), (.slice none 0 0), (.int .i64 0), (.int .i64 0), (.int .i64 0), (.slice none 0 0), (.slice none 0 0), (.slice none 0 0), (.int .i64 0), (.slice none 0 0), (.slice none 0 0)] := k47_mkM wd _ _ (askPk (sendV t)) (Kd.R_nil _ _ _ _ _) (Kd.R_nil _ _ _ _ _) hd (Kd.R_nil _ _ _ _ _) (Kd.R_nil _ _ _ _ _) (Kd.R_nil _ _ _ _ _) (Kd.R_nil _ _ _ _ _) (Kd.R_nil _ _ _ _ _)
   have hR := R_one wd w1.heap.size 47 (askPk (sendV t)) _ hM hDW.kept.1 rfl
   exact ⟨_, rfl, hR, ⟨blk_alloc (blk_below HB3.out hHeld) _, (MP3.out.keep (hHeld.block _ MP3.out.lt) (fun _ _ h => h)).keep (Below.heap_alloc _ _ _ (Nat.lt_of_lt_of_le MP3.out.lt hHeld.size)) (fun _ _ h => h)⟩, hDW.and (Upd.of_below (below_alloc (Below.refl _ _) _) _)⟩
end Go.Proofs.Ytonedijkgddepaa.P
namespace Go.Proofs.Ytonedijkgddepaa.P
open Go.Sq
open Go.RowKit Go.Maps Go.Proofs.YtonedijkgddepaaW.PrintWords Go.Proofs.YtonedijkgddepaaW.PrintLast Go.Proofs.YtonedijkgddepaaW.PrintMore
set_option linter.unusedVariables false
set_option linter.unusedSimpArgs false

/-- What an asker asks. -/
def askedV (s : As) (g : Int) (c : S38) : As := { s with num := s.num + 1, group := g, cmd := { c with f1 := s.id, f2 := s.num + 1 }, busy := true, sent := false }
def askV (s : As) (g : Int) (c : S38) : Int × As := if s.busy = true then (17, s) else (if isG g then (0, askedV s g c) else (2, s))
theorem askV_ok {s : As} {q : Nat} (hk : s.ok q) (hq : q + 1 < 100000) (g : Int) (c : S38) (hc : c.f14 = []) : (askV s g c).2.ok (q + 1) := by
 have h2 := hk.mono (Nat.le_succ q) hq
 unfold askV
 split
 ·exact h2
 ·split
  ·rename_i h
   exact ⟨hk.id1, hk.nodes1, hk.retry1, by have := hk.num1; show 0 ≤ s.num + 1 ∧ s.num + 1 ≤ ((q + 1 : Nat) : Int); omega, h, hk.waited1, hk.lead1, hq, hc⟩
  ·exact h2
set_option maxHeartbeats 4000000 in
set_option maxRecDepth 100000 in
theorem askAsk (w : World) (B bl q : Nat) (s : As) (h : AskAt w B bl q s) (hk : s.ok q) (g : Int) (c : S38) (hc : c.f14 = []) :
  Calls Try.prog 27 #[.pointer (some ⟨B, 0, none⟩), .int .i64 g, .agg #[(.int .i64 c.f0), (.int .i64 c.f1), (.int .i64 c.f2), (.int .i64 c.f3), (.int .i64 c.f4), (.string c.f5), (.string c.f6), (.string c.f7), (.string c.f8), (.int .i64 c.f9), (.int .i64 c.f10), (.int .i64 c.f11.f0), (.string c.f11.f1), (.int .i64 c.f11.f2), (.int .i64 c.f11.f3), (.int .i64 c.f12.f0), (.int .i64 c.f12.f1), (.int .i64 c.f13), (.slice none 0 0)]] w fun e' w' => e' = .returned (.int .i64 (askV s g c).1) ∧ AskAt w' B bl (q + 1) (askV s g c).2 ∧ Upd w w' (fun k => k = B) := by
 have H := Aside0.mk h
 have HK := Aside0.mk hk
 have HI := Aside0.mk (show s.id ≠ 0 by have := hk.id1; omega)
 have HB := Aside0.mk h.blk
 clear h hk
 have HBW := Aside0.mk (fun (W : World) (hb : Below w.heap.size w W) => (blk_below H.out.blk hb))
 cases hbz : s.busy with
 | true =>
  have HV := Aside0.mk (show askV s g c = (17, s) by unfold askV; rw [if_pos hbz])
  rw [HV.out]
  go_enter Try.func27, Try.ntmps27
  go_wp2_with (first | ((with_reducible refine gate_dst (N := 5) rfl ?_); refine box_event ?hg (N := 5) ?hd (cs := #[(.int .i64 c.f0), (.int .i64 c.f1), (.int .i64 c.f2), (.int .i64 c.f3), (.int .i64 c.f4), (.string c.f5), (.string c.f6), (.string c.f7), (.string c.f8), (.int .i64 c.f9), (.int .i64 c.f10), (.int .i64 c.f11.f0), (.string c.f11.f1), (.int .i64 c.f11.f2), (.int .i64 c.f11.f3), (.int .i64 c.f12.f0), (.int .i64 c.f12.f1), (.int .i64 c.f13), (.slice none 0 0)]) (t := 38) ?hr ?_; (case hd => rfl); (case hg => rfl); (case hr => first | (go_simp; done) | (go_simp; rfl)); intro gx hg_ w1 hbox_ hbel_; have HX := Aside0.mk hbox_; have HL := Aside0.mk hbel_; clear hbox_ hbel_; have HG := Aside0.mk hg_; clear hg_))
  have HB1 := Aside0.mk (H.out.below HL.out)
  have a24 : w1.cell? ⟨B, 24, none⟩ = some (.bool s.busy) := (blk_cell HB1.out.blk 24).trans rfl
  rw [hbz] at a24
  go_wp2_with (first | (go_at_call 50; (with_reducible refine (askNoneOk _ B bl q s HB1.out HI.out).mono ?_); rintro e1 wq_ ⟨rfl, hwq_⟩; rw [hwq_]; clear hwq_ wq_))
  go_ret
  exact ⟨rfl, (H.out.below HL.out).mono (Nat.le_succ _), Upd.of_below HL.out _⟩
 | false =>
  by_cases hg : isG g
  ·have HV := Aside0.mk (show askV s g c = (0, askedV s g c) by unfold askV; rw [if_neg (by rw [hbz]; decide), if_pos hg])
   rw [HV.out]
   have HGG := Aside0.mk hg
   clear hg
   go_enter Try.func27, Try.ntmps27
   go_upto_block 0 with (first | ((with_reducible refine gate_dst (N := 5) rfl ?_); refine box_event ?hg (N := 5) ?hd (cs := #[(.int .i64 c.f0), (.int .i64 c.f1), (.int .i64 c.f2), (.int .i64 c.f3), (.int .i64 c.f4), (.string c.f5), (.string c.f6), (.string c.f7), (.string c.f8), (.int .i64 c.f9), (.int .i64 c.f10), (.int .i64 c.f11.f0), (.string c.f11.f1), (.int .i64 c.f11.f2), (.int .i64 c.f11.f3), (.int .i64 c.f12.f0), (.int .i64 c.f12.f1), (.int .i64 c.f13), (.slice none 0 0)]) (t := 38) ?hr ?_; (case hd => rfl); (case hg => rfl); (case hr => first | (go_simp; done) | (go_simp; rfl)); intro gx hg_ w1 hbox_ hbel_; have HX := Aside0.mk hbox_; have HL := Aside0.mk hbel_; clear hbox_ hbel_; have HG := Aside0.mk hg_; clear hg_))
   have HB1 := Aside0.mk (H.out.below HL.out)
   have a24 : w1.cell? ⟨B, 24, none⟩ = some (.bool s.busy) := (blk_cell HB1.out.blk 24).trans rfl
   have a3 : w1.cell? ⟨B, 3, none⟩ = some (.int .i64 s.num) := (blk_cell HB1.out.blk 3).trans rfl
   have az3 := blk_frozen HB1.out.blk 3
   rw [hbz] at a24
   have hw1 : wrap64 (s.num + 1) = s.num + 1 := by have h1 := HK.out.num1; have h2 := HK.out.q1; unfold wrap64; omega
   go_upto_region 8 with (first | (go_at_call 50; (with_reducible refine (askNoneOk _ B bl q s HB1.out HI.out).mono ?_); rintro e1 wq_ ⟨rfl, hwq_⟩; rw [hwq_]; clear hwq_ wq_) | (go_at_call 51; (with_reducible refine (isC _ g HGG.out).mono ?_); rintro e1 wq_ ⟨rfl, hwq_⟩; rw [hwq_]; clear hwq_ wq_))
   clear a24 a3 az3 hw1 hbz
   obtain ⟨w7, hw7⟩ : ∃ w7, w7 = w1.setCell ⟨B, 3, none⟩ (.int .i64 (s.num + 1)) := ⟨_, rfl⟩
   rw [← hw7]
   have NG := Aside0.mk (show B ≠ gx ∧ bl ≠ gx from ⟨fun e => by have h1 := H.out.lt.1; have h2 := HG.out; omega, fun e => by have h1 := H.out.lt.2.1; have h2 := HG.out; omega⟩)
   have HB7 := Aside0.mk (show w7.drew.heap[B]? = some (.cells (askA { s with num := s.num + 1 } bl) 97 (0, 0)) by rw [hw7]; exact blk_drew (askSet (s' := { s with num := s.num + 1 }) HB1.out.blk 3 _ rfl))
   have HX7 := Aside0.mk (show w7.drew.heap[gx]? = some (.cells #[(.int .i64 c.f0), (.int .i64 c.f1), (.int .i64 c.f2), (.int .i64 c.f3), (.int .i64 c.f4), (.string c.f5), (.string c.f6), (.string c.f7), (.string c.f8), (.int .i64 c.f9), (.int .i64 c.f10), (.int .i64 c.f11.f0), (.string c.f11.f1), (.int .i64 c.f11.f2), (.int .i64 c.f11.f3), (.int .i64 c.f12.f0), (.int .i64 c.f12.f1), (.int .i64 c.f13), (.slice none 0 0)] 38 (0, 0)) by rw [hw7]; exact blk_drew (blk_far HX.out (p := ⟨B, 3, none⟩) NG.out.1.symm _))
   have U7 := Aside0.mk (show Upd w w7.drew (fun k => k = B) by rw [hw7]; exact ((Upd.of_below HL.out _).and (Upd.set _ ⟨B, 3, none⟩ _)).and (Upd.drew _ 1 _))
   have MP7 := Aside0.mk (show MapAt NumP (.int .i64 0) w7.drew bl q s.lead by rw [hw7]; exact HB1.out.map.keep (Below.heap_setCell _ _ _ _ H.out.lt.2.2.symm) (fun _ _ h => h))
   clear hw7
   refine start_ (n := 17) (S := fun w' => w'.heap[B]? = some (.cells (askA { s with num := s.num + 1 } bl) 97 (0, 0)) ∧ w'.cell? ⟨gx, 18, none⟩ = some (.slice none 0 0)) (ds := [16]) (bq 17 0) (by kernel_rfl) rfl rfl ⟨HB7.out, (blk_cell HX7.out 18).trans rfl⟩ (fun hHeld => ?_)
   generalize w7.drew = wd at HB7 HX7 U7 MP7 hHeld ⊢
   refine pu 0 26 (bq 17 1) ?_ rfl rfl (by kernel_rfl) (fun _ _ _ h => h) (by rfl) ?_ ?_ ?_ ?_
   rotate_left
   ·intro w'; go_simp; with_reducible rfl
   rotate_left
   ·simp only [Act.put, sqA, sqB, sqC, i64_w, i32_w]
    rfl
   refine pu 1 27 (bq 17 3) ?_ rfl rfl (by kernel_rfl) (fun _ _ _ h => h) (by rfl) ?_ ?_ ?_ ?_
   rotate_left
   ·intro w'; go_simp; with_reducible rfl
   rotate_left
   ·simp only [Act.put, sqA, sqB, sqC, i64_w, i32_w]
    rfl
   refine pu 2 28 (bq 17 7) ?_ rfl rfl (by kernel_rfl) (fun _ _ _ h => h) (by rfl) ?_ ?_ ?_ ?_
   rotate_left
   ·intro w'; go_simp; with_reducible rfl
   rotate_left
   ·simp only [Act.put, sqA, sqB, sqC, i64_w, i32_w]
    rfl
   refine pu 4 30 (bq 17 23) ?_ rfl rfl (by kernel_rfl) (fun _ _ _ h => h) (by rfl) ?_ ?_ ?_ ?_
   rotate_left
   ·intro w'; go_simp; with_reducible rfl
   rotate_left
   ·simp only [Act.put, sqA, sqB, sqC, i64_w, i32_w]
    rfl
   refine pu 5 31 (bq 17 55) ?_ rfl rfl (by kernel_rfl) (fun _ _ _ h => h) (by rfl) ?_ ?_ ?_ ?_
   rotate_left
   ·intro w'; go_simp; with_reducible rfl
   rotate_left
   ·simp only [Act.put, sqA, sqB, sqC, i64_w, i32_w]
    rfl
   refine pu 6 32 (bq 17 119) ?_ rfl rfl (by kernel_rfl) (fun _ _ _ h => h) (by rfl) ?_ ?_ ?_ ?_
   rotate_left
   ·intro w'; go_simp; with_reducible rfl
   rotate_left
   ·simp only [Act.put, sqA, sqB, sqC, i64_w, i32_w]
    rfl
   refine pu 8 34 (bq 17 375) ?_ rfl rfl (by kernel_rfl) (fun _ _ _ h => h) (by rfl) ?_ ?_ ?_ ?_
   rotate_left
   ·intro w'; go_simp; with_reducible rfl
   rotate_left
   ·simp only [Act.put, sqA, sqB, sqC, i64_w, i32_w]
    rfl
   refine tk 3 29 (bq 17 383) ?_ rfl rfl (by kernel_rfl) (fun _ _ _ h => h) (by rfl) ?_ hHeld ?_ ?_ ?_
   rotate_left
   ·intro w' hw'
    have s0 := (blk_cell hw'.1 0).trans (show _ = some (.int .i64 s.id) from rfl)
    go_simp
    with_reducible rfl
   rotate_left
   ·simp only [Act.put, sqA, sqB, sqC, i64_w, i32_w]
    rfl
   refine tk 7 33 (bq 17 511) ?_ rfl rfl (by kernel_rfl) (fun _ _ _ h => h) (by rfl) ?_ hHeld ?_ ?_ ?_
   rotate_left
   ·intro w' hw'
    have s0 := (blk_cell hw'.1 3).trans (show _ = some (.int .i64 (s.num + 1)) from rfl)
    go_simp
    with_reducible rfl
   rotate_left
   ·simp only [Act.put, sqA, sqB, sqC, i64_w, i32_w]
    rfl
   refine tk 9 35 (bq 17 1023) ?_ rfl rfl (by kernel_rfl) (fun _ _ _ h => h) (by rfl) ?_ hHeld ?_ ?_ ?_
   rotate_left
   ·intro w' hw'
    have s0 := hw'.2
    go_simp
    with_reducible rfl
   rotate_left
   ·simp only [Act.put, sqA, sqB, sqC, i64_w, i32_w]
    rfl
   refine pu 11 37 (bq 17 3071) ?_ rfl rfl (by kernel_rfl) (fun _ _ _ h => h) (by rfl) ?_ ?_ ?_ ?_
   rotate_left
   ·intro w'; go_simp; with_reducible rfl
   rotate_left
   ·simp only [Act.put, sqA, sqB, sqC, i64_w, i32_w]
    rfl
   refine one_ (i := 10) (N := some 36) (bq 17 4095) rfl rfl (by kernel_rfl) (by decide) (fun K hK => ?_)
   refine goes_ Try.func45 (by kernel_rfl) rfl #[.slice none 0 0] (by rfl) rfl rfl (by (try simp only [List.map_toArray, List.map_cons, List.map_nil]); first | done | rfl) ?_
   with_reducible refine (cloneNil45 _).mono ?_
   rintro e1 wq_ ⟨rfl, hwq_⟩
   rw [hwq_]
   clear hwq_ wq_
   refine ⟨_, rfl, ?_⟩
   refine hK.out _ _ hHeld ?_
   clear hHeld
   intro hHeld
   clear hK K
   refine norm_ (a' := ?_) ?_ ?_
   rotate_left
   ·show Act.put _ (some 36) _ = _; simp only [Act.put, sqA, sqB, sqC, i64_w, i32_w]
    rfl
   refine one_ (i := 12) (N := none) (bq 17 8191) rfl rfl (by kernel_rfl) (by decide) (fun K hK => ?_)
   have x1 := (blk_cell HX7.out 1).trans (show _ = some (.int .i64 c.f1) from rfl)
   have xz := blk_frozen HX7.out 1
   refine skip_ (w1 := (wd.setCell ⟨gx, 1, none⟩ (.int .i64 s.id))) (by rfl) rfl ?_ ?_
   ·go_simp
   have HX8_12 := Aside0.mk (show (wd.setCell ⟨gx, 1, none⟩ (.int .i64 s.id)).heap[gx]? = some (.cells #[(.int .i64 c.f0), (.int .i64 s.id), (.int .i64 c.f2), (.int .i64 c.f3), (.int .i64 c.f4), (.string c.f5), (.string c.f6), (.string c.f7), (.string c.f8), (.int .i64 c.f9), (.int .i64 c.f10), (.int .i64 c.f11.f0), (.string c.f11.f1), (.int .i64 c.f11.f2), (.int .i64 c.f11.f3), (.int .i64 c.f12.f0), (.int .i64 c.f12.f1), (.int .i64 c.f13), (.slice none 0 0)] 38 (0, 0)) from blk_set HX7.out 1 _)
   refine hK.out _ _ ⟨blk_far hHeld.1 (p := ⟨gx, 1, none⟩) NG.out.1 _, (blk_cell HX8_12.out 18).trans rfl⟩ ?_
   clear hHeld
   intro hHeld
   clear hK K x1 xz
   refine pu 13 38 (bq 17 16383) ?_ rfl rfl (by kernel_rfl) (fun _ _ _ h => h) (by rfl) ?_ ?_ ?_ ?_
   rotate_left
   ·intro w'; go_simp; with_reducible rfl
   rotate_left
   ·simp only [Act.put, sqA, sqB, sqC, i64_w, i32_w]
    rfl
   refine one_ (i := 14) (N := none) (bq 17 32767) rfl rfl (by kernel_rfl) (by decide) (fun K hK => ?_)
   have x1 := (blk_cell HX8_12.out 2).trans (show _ = some (.int .i64 c.f2) from rfl)
   have xz := blk_frozen HX8_12.out 2
   refine skip_ (w1 := ((wd.setCell ⟨gx, 1, none⟩ (.int .i64 s.id)).setCell ⟨gx, 2, none⟩ (.int .i64 (s.num + 1)))) (by rfl) rfl ?_ ?_
   ·go_simp
   have HX8_14 := Aside0.mk (show ((wd.setCell ⟨gx, 1, none⟩ (.int .i64 s.id)).setCell ⟨gx, 2, none⟩ (.int .i64 (s.num + 1))).heap[gx]? = some (.cells #[(.int .i64 c.f0), (.int .i64 s.id), (.int .i64 (s.num + 1)), (.int .i64 c.f3), (.int .i64 c.f4), (.string c.f5), (.string c.f6), (.string c.f7), (.string c.f8), (.int .i64 c.f9), (.int .i64 c.f10), (.int .i64 c.f11.f0), (.string c.f11.f1), (.int .i64 c.f11.f2), (.int .i64 c.f11.f3), (.int .i64 c.f12.f0), (.int .i64 c.f12.f1), (.int .i64 c.f13), (.slice none 0 0)] 38 (0, 0)) from blk_set HX8_12.out 2 _)
   refine hK.out _ _ ⟨blk_far hHeld.1 (p := ⟨gx, 2, none⟩) NG.out.1 _, (blk_cell HX8_14.out 18).trans rfl⟩ ?_
   clear hHeld
   intro hHeld
   clear hK K x1 xz
   refine pu 15 39 (bq 17 65535) ?_ rfl rfl (by kernel_rfl) (fun _ _ _ h => h) (by rfl) ?_ ?_ ?_ ?_
   rotate_left
   ·intro w'; go_simp; with_reducible rfl
   rotate_left
   ·simp only [Act.put, sqA, sqB, sqC, i64_w, i32_w]
    rfl
   refine last_ (i := 16) (N := none) (bq 17 131071) rfl rfl (by kernel_rfl) (by decide) (fun K hK => ?_)
   have x1 := (blk_cell HX8_14.out 18).trans (show _ = some (.slice none 0 0) from rfl)
   have xz := blk_frozen HX8_14.out 18
   refine skip_ (w1 := (((wd.setCell ⟨gx, 1, none⟩ (.int .i64 s.id)).setCell ⟨gx, 2, none⟩ (.int .i64 (s.num + 1))).setCell ⟨gx, 18, none⟩ (.slice none 0 0))) (by rfl) rfl ?_ ?_
   ·go_simp
   refine hK.out _ _ ?_
   clear hK K
   clear x1 xz
   have HX8_16 := Aside0.mk (show (((wd.setCell ⟨gx, 1, none⟩ (.int .i64 s.id)).setCell ⟨gx, 2, none⟩ (.int .i64 (s.num + 1))).setCell ⟨gx, 18, none⟩ (.slice none 0 0)).heap[gx]? = some (.cells #[(.int .i64 c.f0), (.int .i64 s.id), (.int .i64 (s.num + 1)), (.int .i64 c.f3), (.int .i64 c.f4), (.string c.f5), (.string c.f6), (.string c.f7), (.string c.f8), (.int .i64 c.f9), (.int .i64 c.f10), (.int .i64 c.f11.f0), (.string c.f11.f1), (.int .i64 c.f11.f2), (.int .i64 c.f11.f3), (.int .i64 c.f12.f0), (.int .i64 c.f12.f1), (.int .i64 c.f13), (.slice none 0 0)] 38 (0, 0)) from blk_set HX8_14.out 18 _)
   refine done_ (by kernel_rfl) ?_
   have HB8 := Aside0.mk (show (((wd.setCell ⟨gx, 1, none⟩ (.int .i64 s.id)).setCell ⟨gx, 2, none⟩ (.int .i64 (s.num + 1))).setCell ⟨gx, 18, none⟩ (.slice none 0 0)).drew.heap[B]? = some (.cells (askA { s with num := s.num + 1 } bl) 97 (0, 0)) from blk_drew (blk_far (p := ⟨gx, 18, none⟩) (blk_far (p := ⟨gx, 2, none⟩) (blk_far (p := ⟨gx, 1, none⟩) HB7.out NG.out.1 _) NG.out.1 _) NG.out.1 _))
   have HX9 := Aside0.mk (blk_drew HX8_16.out)
   have gxw : w.heap.size ≤ gx := by have h2 := HG.out; omega
   have U9 := Aside0.mk (show Upd w (((wd.setCell ⟨gx, 1, none⟩ (.int .i64 s.id)).setCell ⟨gx, 2, none⟩ (.int .i64 (s.num + 1))).setCell ⟨gx, 18, none⟩ (.slice none 0 0)).drew (fun k => k = B) from (((U7.out.trans (Upd.set _ ⟨gx, 1, none⟩ _) (fun k hk => Or.inr (by have h3 : k = gx := hk; omega))).trans (Upd.set _ ⟨gx, 2, none⟩ _) (fun k hk => Or.inr (by have h3 : k = gx := hk; omega))).trans (Upd.set _ ⟨gx, 18, none⟩ _) (fun k hk => Or.inr (by have h3 : k = gx := hk; omega))).and (Upd.drew _ 1 _))
   have MP9 := Aside0.mk (show MapAt NumP (.int .i64 0) (((wd.setCell ⟨gx, 1, none⟩ (.int .i64 s.id)).setCell ⟨gx, 2, none⟩ (.int .i64 (s.num + 1))).setCell ⟨gx, 18, none⟩ (.slice none 0 0)).drew bl q s.lead from MP7.out.keep (((Below.heap_setCell _ ⟨gx, 18, none⟩ _ _ NG.out.2).trans (Below.heap_setCell _ ⟨gx, 2, none⟩ _ _ NG.out.2)).trans (Below.heap_setCell _ ⟨gx, 1, none⟩ _ _ NG.out.2)) (fun _ _ h => h))
   clear HB7 HX7 U7 MP7 HX8_12 HX8_14 HX8_16 hHeld gxw
   generalize (((wd.setCell ⟨gx, 1, none⟩ (.int .i64 s.id)).setCell ⟨gx, 2, none⟩ (.int .i64 (s.num + 1))).setCell ⟨gx, 18, none⟩ (.slice none 0 0)) = w9 at HB8 HX9 U9 MP9 ⊢
   go_wp2
   refine start_ (n := 18) (S := fun w' => w'.heap[gx]? = some (.cells #[(.int .i64 c.f0), (.int .i64 s.id), (.int .i64 (s.num + 1)), (.int .i64 c.f3), (.int .i64 c.f4), (.string c.f5), (.string c.f6), (.string c.f7), (.string c.f8), (.int .i64 c.f9), (.int .i64 c.f10), (.int .i64 c.f11.f0), (.string c.f11.f1), (.int .i64 c.f11.f2), (.int .i64 c.f11.f3), (.int .i64 c.f12.f0), (.int .i64 c.f12.f1), (.int .i64 c.f13), (.slice none 0 0)] 38 (0, 0))) (ds := [17]) (bq 18 0) (by kernel_rfl) rfl rfl HX9.out (fun hHeld => ?_)
   generalize w9.drew = we at HB8 HX9 U9 MP9 hHeld ⊢
   refine pu 0 40 (bq 18 1) ?_ rfl rfl (by kernel_rfl) (fun _ _ _ h => h) (by rfl) ?_ ?_ ?_ ?_
   rotate_left
   ·intro w'; go_simp; with_reducible rfl
   rotate_left
   ·simp only [Act.put, sqA, sqB, sqC, i64_w, i32_w]
    rfl
   refine pu 1 41 (bq 18 3) ?_ rfl rfl (by kernel_rfl) (fun _ _ _ h => h) (by rfl) ?_ ?_ ?_ ?_
   rotate_left
   ·intro w'; go_simp; with_reducible rfl
   rotate_left
   ·simp only [Act.put, sqA, sqB, sqC, i64_w, i32_w]
    rfl
   refine pu 2 42 (bq 18 7) ?_ rfl rfl (by kernel_rfl) (fun _ _ _ h => h) (by rfl) ?_ ?_ ?_ ?_
   rotate_left
   ·intro w'; go_simp; with_reducible rfl
   rotate_left
   ·simp only [Act.put, sqA, sqB, sqC, i64_w, i32_w]
    rfl
   refine pu 3 43 (bq 18 15) ?_ rfl rfl (by kernel_rfl) (fun _ _ _ h => h) (by rfl) ?_ ?_ ?_ ?_
   rotate_left
   ·intro w'; go_simp; with_reducible rfl
   rotate_left
   ·simp only [Act.put, sqA, sqB, sqC, i64_w, i32_w]
    rfl
   refine pu 4 44 (bq 18 31) ?_ rfl rfl (by kernel_rfl) (fun _ _ _ h => h) (by rfl) ?_ ?_ ?_ ?_
   rotate_left
   ·intro w'; go_simp; with_reducible rfl
   rotate_left
   ·simp only [Act.put, sqA, sqB, sqC, i64_w, i32_w]
    rfl
   refine pu 6 46 (bq 18 95) ?_ rfl rfl (by kernel_rfl) (fun _ _ _ h => h) (by rfl) ?_ ?_ ?_ ?_
   rotate_left
   ·intro w'; go_simp; with_reducible rfl
   rotate_left
   ·simp only [Act.put, sqA, sqB, sqC, i64_w, i32_w]
    rfl
   refine pu 7 47 (bq 18 223) ?_ rfl rfl (by kernel_rfl) (fun _ _ _ h => h) (by rfl) ?_ ?_ ?_ ?_
   rotate_left
   ·intro w'; go_simp; with_reducible rfl
   rotate_left
   ·simp only [Act.put, sqA, sqB, sqC, i64_w, i32_w]
    rfl
   refine take_ (i := 5) (N := some 45) (a' := ?_) (bq 18 255) rfl rfl (by kernel_rfl) (fun _ _ _ h => h) (yields_blk (by rfl) 38 _ rfl gx 0 rfl [(.int .i64 c.f0), (.int .i64 s.id), (.int .i64 (s.num + 1)), (.int .i64 c.f3), (.int .i64 c.f4), (.string c.f5), (.string c.f6), (.string c.f7), (.string c.f8), (.int .i64 c.f9), (.int .i64 c.f10), (.int .i64 c.f11.f0), (.string c.f11.f1), (.int .i64 c.f11.f2), (.int .i64 c.f11.f3), (.int .i64 c.f12.f0), (.int .i64 c.f12.f1), (.int .i64 c.f13), (.slice none 0 0)] rfl (fun w' hw' => hw') Try.underlying38 rfl (by kernel_rfl)) hHeld ?_ ?_
   rotate_left
   ·simp only [Act.put, sqA, sqB, sqC, i64_w, i32_w]
    rfl
   refine one_ (i := 8) (N := none) (bq 18 511) rfl rfl (by kernel_rfl) (by decide) (fun K hK => ?_)
   have x1 := (blk_cell HB8.out 4).trans (show _ = some (.int .i64 s.group) from rfl)
   have xz := blk_frozen HB8.out 4
   refine skip_ (w1 := we.setCell ⟨B, 4, none⟩ (.int .i64 g)) (by rfl) rfl ?_ ?_
   ·go_simp
   have HB10 := Aside0.mk (askSet (s' := { s with num := s.num + 1, group := g }) HB8.out 4 (.int .i64 g) rfl)
   refine hK.out _ _ (blk_far hHeld (p := ⟨B, 4, none⟩) NG.out.1.symm _) ?_
   clear hHeld
   intro hHeld
   clear hK K x1 xz
   refine pu 9 48 (bq 18 1023) ?_ rfl rfl (by kernel_rfl) (fun _ _ _ h => h) (by rfl) ?_ ?_ ?_ ?_
   rotate_left
   ·intro w'; go_simp; with_reducible rfl
   rotate_left
   ·simp only [Act.put, sqA, sqB, sqC, i64_w, i32_w]
    rfl
   refine pu 10 49 (bq 18 2047) ?_ rfl rfl (by kernel_rfl) (fun _ _ _ h => h) (by rfl) ?_ ?_ ?_ ?_
   rotate_left
   ·intro w'; go_simp; with_reducible rfl
   rotate_left
   ·simp only [Act.put, sqA, sqB, sqC, i64_w, i32_w]
    rfl
   refine one_ (i := 11) (N := none) (bq 18 4095) rfl rfl (by kernel_rfl) (by decide) (fun K hK => ?_)
   refine store_step (by rfl) rfl 38 _ _ rfl B 5 [(.int .i64 c.f0), (.int .i64 s.id), (.int .i64 (s.num + 1)), (.int .i64 c.f3), (.int .i64 c.f4), (.string c.f5), (.string c.f6), (.string c.f7), (.string c.f8), (.int .i64 c.f9), (.int .i64 c.f10), (.int .i64 c.f11.f0), (.string c.f11.f1), (.int .i64 c.f11.f2), (.int .i64 c.f11.f3), (.int .i64 c.f12.f0), (.int .i64 c.f12.f1), (.int .i64 c.f13), (.slice none 0 0)] rfl rfl HB10.out (Nat.le_of_ble_eq_true rfl) (by kernel_rfl) (by rfl) (askA { s with num := s.num + 1, group := g, cmd := { c with f1 := s.id, f2 := s.num + 1 } } bl) rfl ?_
   intro wf hb11 hu11
   have HB11 := Aside0.mk hb11
   have HU11 := Aside0.mk hu11
   refine hK.out _ _ (hu11.block hHeld NG.out.1.symm) ?_
   clear hHeld
   intro hHeld
   clear hK K hb11 hu11
   refine pu 12 50 (bq 18 8191) ?_ rfl rfl (by kernel_rfl) (fun _ _ _ h => h) (by rfl) ?_ ?_ ?_ ?_
   rotate_left
   ·intro w'; go_simp; with_reducible rfl
   rotate_left
   ·simp only [Act.put, sqA, sqB, sqC, i64_w, i32_w]
    rfl
   refine pu 13 51 (bq 18 16383) ?_ rfl rfl (by kernel_rfl) (fun _ _ _ h => h) (by rfl) ?_ ?_ ?_ ?_
   rotate_left
   ·intro w'; go_simp; with_reducible rfl
   rotate_left
   ·simp only [Act.put, sqA, sqB, sqC, i64_w, i32_w]
    rfl
   refine one_ (i := 14) (N := none) (bq 18 32767) rfl rfl (by kernel_rfl) (by decide) (fun K hK => ?_)
   have x1 := (blk_cell HB11.out 24).trans (show _ = some (.bool s.busy) from rfl)
   have xz := blk_frozen HB11.out 24
   refine skip_ (w1 := wf.setCell ⟨B, 24, none⟩ (.bool true)) (by rfl) rfl ?_ ?_
   ·go_simp
   have HB14 := Aside0.mk (askSet (s' := { s with num := s.num + 1, group := g, cmd := { c with f1 := s.id, f2 := s.num + 1 }, busy := true }) HB11.out 24 (.bool true) rfl)
   refine hK.out _ _ (blk_far hHeld (p := ⟨B, 24, none⟩) NG.out.1.symm _) ?_
   clear hHeld
   intro hHeld
   clear hK K x1 xz
   refine pu 15 52 (bq 18 65535) ?_ rfl rfl (by kernel_rfl) (fun _ _ _ h => h) (by rfl) ?_ ?_ ?_ ?_
   rotate_left
   ·intro w'; go_simp; with_reducible rfl
   rotate_left
   ·simp only [Act.put, sqA, sqB, sqC, i64_w, i32_w]
    rfl
   refine pu 16 53 (bq 18 131071) ?_ rfl rfl (by kernel_rfl) (fun _ _ _ h => h) (by rfl) ?_ ?_ ?_ ?_
   rotate_left
   ·intro w'; go_simp; with_reducible rfl
   rotate_left
   ·simp only [Act.put, sqA, sqB, sqC, i64_w, i32_w]
    rfl
   refine last_ (i := 17) (N := none) (bq 18 262143) rfl rfl (by kernel_rfl) (by decide) (fun K hK => ?_)
   have x1 := (blk_cell HB14.out 25).trans (show _ = some (.bool s.sent) from rfl)
   have xz := blk_frozen HB14.out 25
   refine skip_ (w1 := (wf.setCell ⟨B, 24, none⟩ (.bool true)).setCell ⟨B, 25, none⟩ (.bool false)) (by rfl) rfl ?_ ?_
   ·go_simp
   refine hK.out _ _ ?_
   clear hK K
   clear x1 xz
   refine done_ (by kernel_rfl) ?_
   go_wp2
   go_ret
   have hb17 : ((wf.setCell ⟨B, 24, none⟩ (.bool true)).setCell ⟨B, 25, none⟩ (.bool false)).heap[B]? = some (.cells (askA (askedV s g c) bl) 97 (0, 0)) := askSet (s' := askedV s g c) HB14.out 25 (.bool false) rfl
   have hu := (((U9.out.and (Upd.set we ⟨B, 4, none⟩ (.int .i64 g))).and HU11.out).and (Upd.set wf ⟨B, 24, none⟩ (.bool true))).and (Upd.set _ ⟨B, 25, none⟩ (.bool false))
   have hbn := H.out.lt.2.2
   have hm := (((MP9.out.keep (w' := we.setCell ⟨B, 4, none⟩ (.int .i64 g)) (P' := NumP) (Below.heap_setCell _ ⟨B, 4, none⟩ _ _ hbn.symm) (fun _ _ h => h)).keep (w' := wf) (P' := NumP) (HU11.out.kept.2 _ (by have := MP9.out.lt; simpa using this) hbn.symm) (fun _ _ h => h)).keep (w' := wf.setCell ⟨B, 24, none⟩ (.bool true)) (P' := NumP) (Below.heap_setCell _ ⟨B, 24, none⟩ _ _ hbn.symm) (fun _ _ h => h)).keep (w' := (wf.setCell ⟨B, 24, none⟩ (.bool true)).setCell ⟨B, 25, none⟩ (.bool false)) (P' := NumP) (Below.heap_setCell _ ⟨B, 25, none⟩ _ _ hbn.symm) (fun _ _ h => h)
   exact ⟨rfl, ⟨hb17, hm.mono (Nat.le_succ _)⟩, hu⟩
  ·have HV := Aside0.mk (show askV s g c = (2, s) by unfold askV; rw [if_neg (by rw [hbz]; decide), if_neg hg])
   rw [HV.out]
   have HGG := Aside0.mk hg
   clear hg
   go_enter Try.func27, Try.ntmps27
   go_upto_block 0 with (first | ((with_reducible refine gate_dst (N := 5) rfl ?_); refine box_event ?hg (N := 5) ?hd (cs := #[(.int .i64 c.f0), (.int .i64 c.f1), (.int .i64 c.f2), (.int .i64 c.f3), (.int .i64 c.f4), (.string c.f5), (.string c.f6), (.string c.f7), (.string c.f8), (.int .i64 c.f9), (.int .i64 c.f10), (.int .i64 c.f11.f0), (.string c.f11.f1), (.int .i64 c.f11.f2), (.int .i64 c.f11.f3), (.int .i64 c.f12.f0), (.int .i64 c.f12.f1), (.int .i64 c.f13), (.slice none 0 0)]) (t := 38) ?hr ?_; (case hd => rfl); (case hg => rfl); (case hr => first | (go_simp; done) | (go_simp; rfl)); intro gx hg_ w1 hbox_ hbel_; have HX := Aside0.mk hbox_; have HL := Aside0.mk hbel_; clear hbox_ hbel_; have HG := Aside0.mk hg_; clear hg_))
   have HB1 := Aside0.mk (H.out.below HL.out)
   have a24 : w1.cell? ⟨B, 24, none⟩ = some (.bool s.busy) := (blk_cell HB1.out.blk 24).trans rfl
   rw [hbz] at a24
   go_wp2_with (first | (go_at_call 50; (with_reducible refine (askNoneOk _ B bl q s HB1.out HI.out).mono ?_); rintro e1 wq_ ⟨rfl, hwq_⟩; rw [hwq_]; clear hwq_ wq_) | (go_at_call 51; (with_reducible refine (isNotC _ g HGG.out).mono ?_); rintro e1 wq_ ⟨rfl, hwq_⟩; rw [hwq_]; clear hwq_ wq_))
   go_ret
   exact ⟨rfl, (H.out.below HL.out).mono (Nat.le_succ _), Upd.of_below HL.out _⟩
end Go.Proofs.Ytonedijkgddepaa.P
namespace Go.Proofs.Ytonedijkgddepaa.P
open Go.Sq
open Go.RowKit Go.Maps Go.Proofs.YtonedijkgddepaaW.PrintWords Go.Proofs.YtonedijkgddepaaW.PrintLast Go.Proofs.YtonedijkgddepaaW.PrintMore
set_option linter.unusedVariables false
set_option linter.unusedSimpArgs false
theorem info42 : (Try.prog.info? 42).map (fun i => (i.zero, i.size, i.bytes)) = some (some (.agg #[(.int .i64 0), (.int .i64 0), (.int .i64 0), (.slice none 0 0), (.slice none 0 0), (.slice none 0 0)]), 6, 96) := by kernel_rfl
def cloneGot.f (l0 : List S115) : Option (List S115) := if l0.length * 64 ≤ 140737488355328 then some l0 else none
set_option maxHeartbeats 2000000 in
theorem cloneGot.calls (A0 : Option Addr) (c0 : Nat) (l0 : List S115) (r : List S115) (w : World) (hr0 : Kd.C k115 w A0 l0.length l0) (hc0 : l0.length ≤ c0) (h : cloneGot.f l0 = some r) :
  Calls Try.prog 47 #[.slice A0 l0.length c0] w fun e w' => ∃ v0_ : Value, e = .returned v0_ ∧ Kd.R k115 115 w' w.heap.size (fun _ => True) v0_ r ∧ Below w.heap.size w w' := by
 unfold cloneGot.f at h
 by_cases hl : l0.length * 64 ≤ 140737488355328
 ·rw [if_pos hl] at h
  obtain rfl := Option.some.inj h
  clear h
  have q : ∀ (w : World) (a : Option Addr) (n c n' c' : Nat), (binOp .eql 39 (.slice a n c) (.slice none n' c')).run Try.prog w = .ok (.bool a.isNone) w := fun w a n c n' c' => Lib.run_eql_slice_nil w _ _ a n c n' c' Try.underlying39
  cases A0 with
  | none =>
   have h0 : l0 = [] := by
    cases l0 with
    | nil => rfl
    | cons x l => obtain ⟨ad, he, _⟩ := hr0.2.2 (by simp); cases he
   subst h0
   go_enter Try.func47, Try.ntmps47
   go_wp2
   go_ret
   exact ⟨_, rfl, Kd.R_nil _ _ _ _ _, Below.refl _ _⟩
  | some ad =>
   have HR := Aside0.mk hr0
   clear hr0
   go_enter Try.func47, Try.ntmps47
   go_wp2_with (at_builtin; refine Kd.R_append_rows k115 (w0 := w) w.heap.size rfl _ _ 39 115 (.agg #[(.int .i64 0), (.string ⟨#[]⟩), (.int .i64 0), (.int .i64 0), (.string ⟨#[]⟩), (.int .i64 0)]) 64 rfl Try.underlying39 info115 rfl (by decide) (by omega) (.slice (some ⟨w.heap.size, 0, none⟩) 0 0) [] l0 (some ad) l0.length c0 (fun _ => True) (fun _ => False) rfl rfl ⟨fun _ _ => trivial, [], ⟨by simp, .inr ⟨w.heap.size, 0, #[], rfl, Nat.le_refl _, heap_alloc_new w _, Nat.le_refl _, Nat.zero_le _, by simp, by simp⟩⟩, ⟨by simp, fun j p hj => by simp at hj⟩⟩ (Kd.C_alloc HR.out _) (fun _ _ h => h) (fun _ h => h.elim) (fun _ _ => trivial) (below_alloc (Below.refl _ _) _) (by simp) (by simp; omega) ?_; intro v5 w5 hO5 hX5 hg5 hat5)
   go_ret
   exact ⟨v5, rfl, hO5, hX5⟩
 ·rw [if_neg hl] at h; cases h

def cloneRange.f (l0 : List S35) : Option (List S35) := if l0.length * 16 ≤ 140737488355328 then some l0 else none
set_option maxHeartbeats 2000000 in
theorem cloneRange.calls (A0 : Option Addr) (c0 : Nat) (l0 : List S35) (r : List S35) (w : World) (hr0 : Kd.C k35 w A0 l0.length l0) (hc0 : l0.length ≤ c0) (h : cloneRange.f l0 = some r) :
  Calls Try.prog 48 #[.slice A0 l0.length c0] w fun e w' => ∃ v0_ : Value, e = .returned v0_ ∧ Kd.R k35 35 w' w.heap.size (fun _ => True) v0_ r ∧ Below w.heap.size w w' := by
 unfold cloneRange.f at h
 by_cases hl : l0.length * 16 ≤ 140737488355328
 ·rw [if_pos hl] at h
  obtain rfl := Option.some.inj h
  clear h
  have q : ∀ (w : World) (a : Option Addr) (n c n' c' : Nat), (binOp .eql 40 (.slice a n c) (.slice none n' c')).run Try.prog w = .ok (.bool a.isNone) w := fun w a n c n' c' => Lib.run_eql_slice_nil w _ _ a n c n' c' Try.underlying40
  cases A0 with
  | none =>
   have h0 : l0 = [] := by
    cases l0 with
    | nil => rfl
    | cons x l => obtain ⟨ad, he, _⟩ := hr0.2.2 (by simp); cases he
   subst h0
   go_enter Try.func48, Try.ntmps48
   go_wp2
   go_ret
   exact ⟨_, rfl, Kd.R_nil _ _ _ _ _, Below.refl _ _⟩
  | some ad =>
   have HR := Aside0.mk hr0
   clear hr0
   go_enter Try.func48, Try.ntmps48
   go_wp2_with (at_builtin; refine Kd.R_append_rows k35 (w0 := w) w.heap.size rfl _ _ 40 35 (.agg #[(.int .i64 0), (.int .i64 0)]) 16 rfl Try.underlying40 info35 rfl (by decide) (by omega) (.slice (some ⟨w.heap.size, 0, none⟩) 0 0) [] l0 (some ad) l0.length c0 (fun _ => True) (fun _ => False) rfl rfl ⟨fun _ _ => trivial, [], ⟨by simp, .inr ⟨w.heap.size, 0, #[], rfl, Nat.le_refl _, heap_alloc_new w _, Nat.le_refl _, Nat.zero_le _, by simp, by simp⟩⟩, ⟨by simp, fun j p hj => by simp at hj⟩⟩ (Kd.C_alloc HR.out _) (fun _ _ h => h) (fun _ h => h.elim) (fun _ _ => trivial) (below_alloc (Below.refl _ _) _) (by simp) (by simp; omega) ?_; intro v5 w5 hO5 hX5 hg5 hat5)
   go_ret
   exact ⟨v5, rfl, hO5, hX5⟩
 ·rw [if_neg hl] at h; cases h

def cloneEntry.f (l0 : List S106) : Option (List S106) := if l0.length * 88 ≤ 140737488355328 then some l0 else none
set_option maxHeartbeats 2000000 in
theorem cloneEntry.calls (A0 : Option Addr) (c0 : Nat) (l0 : List S106) (r : List S106) (w : World) (hr0 : Kd.C k106 w A0 l0.length l0) (hc0 : l0.length ≤ c0) (h : cloneEntry.f l0 = some r) :
  Calls Try.prog 41 #[.slice A0 l0.length c0] w fun e w' => ∃ v0_ : Value, e = .returned v0_ ∧ Kd.R k106 106 w' w.heap.size (fun _ => True) v0_ r ∧ Below w.heap.size w w' := by
 unfold cloneEntry.f at h
 by_cases hl : l0.length * 88 ≤ 140737488355328
 ·rw [if_pos hl] at h
  obtain rfl := Option.some.inj h
  clear h
  have q : ∀ (w : World) (a : Option Addr) (n c n' c' : Nat), (binOp .eql 48 (.slice a n c) (.slice none n' c')).run Try.prog w = .ok (.bool a.isNone) w := fun w a n c n' c' => Lib.run_eql_slice_nil w _ _ a n c n' c' Try.underlying48
  cases A0 with
  | none =>
   have h0 : l0 = [] := by
    cases l0 with
    | nil => rfl
    | cons x l => obtain ⟨ad, he, _⟩ := hr0.2.2 (by simp); cases he
   subst h0
   go_enter Try.func41, Try.ntmps41
   go_wp2
   go_ret
   exact ⟨_, rfl, Kd.R_nil _ _ _ _ _, Below.refl _ _⟩
  | some ad =>
   have HR := Aside0.mk hr0
   clear hr0
   go_enter Try.func41, Try.ntmps41
   go_wp2_with (at_builtin; refine Kd.R_append_rows k106 (w0 := w) w.heap.size rfl _ _ 48 106 (.agg #[(.string ⟨#[]⟩), (.string ⟨#[]⟩), (.string ⟨#[]⟩), (.int .i64 0), (.string ⟨#[]⟩), (.int .i64 0), (.int .i64 0)]) 88 rfl Try.underlying48 info106 rfl (by decide) (by omega) (.slice (some ⟨w.heap.size, 0, none⟩) 0 0) [] l0 (some ad) l0.length c0 (fun _ => True) (fun _ => False) rfl rfl ⟨fun _ _ => trivial, [], ⟨by simp, .inr ⟨w.heap.size, 0, #[], rfl, Nat.le_refl _, heap_alloc_new w _, Nat.le_refl _, Nat.zero_le _, by simp, by simp⟩⟩, ⟨by simp, fun j p hj => by simp at hj⟩⟩ (Kd.C_alloc HR.out _) (fun _ _ h => h) (fun _ h => h.elim) (fun _ _ => trivial) (below_alloc (Below.refl _ _) _) (by simp) (by simp; omega) ?_; intro v5 w5 hO5 hX5 hg5 hat5)
   go_ret
   exact ⟨v5, rfl, hO5, hX5⟩
 ·rw [if_neg hl] at h; cases h

def clonePiece.f (l0 : List S108) : Option (List S108) := if l0.length * 24 ≤ 140737488355328 then some l0 else none
set_option maxHeartbeats 2000000 in
theorem clonePiece.calls (A0 : Option Addr) (c0 : Nat) (l0 : List S108) (r : List S108) (w : World) (hr0 : Kd.C k108 w A0 l0.length l0) (hc0 : l0.length ≤ c0) (h : clonePiece.f l0 = some r) :
  Calls Try.prog 52 #[.slice A0 l0.length c0] w fun e w' => ∃ v0_ : Value, e = .returned v0_ ∧ Kd.R k108 108 w' w.heap.size (fun _ => True) v0_ r ∧ Below w.heap.size w w' := by
 unfold clonePiece.f at h
 by_cases hl : l0.length * 24 ≤ 140737488355328
 ·rw [if_pos hl] at h
  obtain rfl := Option.some.inj h
  clear h
  have q : ∀ (w : World) (a : Option Addr) (n c n' c' : Nat), (binOp .eql 43 (.slice a n c) (.slice none n' c')).run Try.prog w = .ok (.bool a.isNone) w := fun w a n c n' c' => Lib.run_eql_slice_nil w _ _ a n c n' c' Try.underlying43
  cases A0 with
  | none =>
   have h0 : l0 = [] := by
    cases l0 with
    | nil => rfl
    | cons x l => obtain ⟨ad, he, _⟩ := hr0.2.2 (by simp); cases he
   subst h0
   go_enter Try.func52, Try.ntmps52
   go_wp2
   go_ret
   exact ⟨_, rfl, Kd.R_nil _ _ _ _ _, Below.refl _ _⟩
  | some ad =>
   have HR := Aside0.mk hr0
   clear hr0
   go_enter Try.func52, Try.ntmps52
   go_wp2_with (at_builtin; refine Kd.R_append_rows k108 (w0 := w) w.heap.size rfl _ _ 43 108 (.agg #[(.int .i64 0), (.int .i64 0), (.int .i64 0)]) 24 rfl Try.underlying43 info108 rfl (by decide) (by omega) (.slice (some ⟨w.heap.size, 0, none⟩) 0 0) [] l0 (some ad) l0.length c0 (fun _ => True) (fun _ => False) rfl rfl ⟨fun _ _ => trivial, [], ⟨by simp, .inr ⟨w.heap.size, 0, #[], rfl, Nat.le_refl _, heap_alloc_new w _, Nat.le_refl _, Nat.zero_le _, by simp, by simp⟩⟩, ⟨by simp, fun j p hj => by simp at hj⟩⟩ (Kd.C_alloc HR.out _) (fun _ _ h => h) (fun _ h => h.elim) (fun _ _ => trivial) (below_alloc (Below.refl _ _) _) (by simp) (by simp; omega) ?_; intro v5 w5 hO5 hX5 hg5 hat5)
   go_ret
   exact ⟨v5, rfl, hO5, hX5⟩
 ·rw [if_neg hl] at h; cases h

end Go.Proofs.Ytonedijkgddepaa.P
namespace Go.Proofs.Ytonedijkgddepaa.P
open Go.Sq
open Go.RowKit Go.Maps Go.Proofs.YtonedijkgddepaaW.PrintWords Go.Proofs.YtonedijkgddepaaW.PrintLast Go.Proofs.YtonedijkgddepaaW.PrintMore
set_option linter.unusedVariables false
set_option linter.unusedSimpArgs false

theorem R_upd {α : Type} {d : Kd α} {e base : Nat} {ok : Nat → Prop} {v : Value} {xs : List α} {w w1 : World} {S : Nat → Prop} (h : d.R e w base ok v xs) (hu : Upd w w1 S) (hs : ∀ k, S k → k < base) : d.R e w1 base ok v xs :=
 Kd.R_mono (Kd.R_step (Kd.R_bound h) (fun k hk hl => hu.kept.2 k hl (fun hS => by have h1 := hk.2.1; have h2 := hs k hS; omega))) (fun _ hk => hk.1)
def hit (s : As) (p : S47) : Prop := s.busy = true ∧ p.f0 = 3 ∧ p.f2 = -s.id ∧ p.f3 = s.group ∧ p.f5.f1 = s.id ∧ p.f5.f2 = s.num
instance (s : As) (p : S47) : Decidable (hit s p) := by unfold hit; infer_instance
def MissIs (b : Bool) (s : As) (p : S47) : Prop := b = true ↔ ¬ hit s p
def leadV (s : As) (n : Int) : As := if 1 ≤ n ∧ n ≤ s.nodes then { s with sent := false, lead := putM s.group (n - 1) s.lead } else nextV { s with sent := false }
def recvV (s : As) (p : S47) : As × S42 × Bool := if hit s p then (if p.f6.f0 = 15 then (leadV s p.f6.f2, z42, false) else ({ s with busy := false }, p.f6, true)) else (s, z42, false)
theorem sentF_ok {s : As} {q : Nat} (hk : s.ok q) : As.ok { s with sent := false } q := ⟨hk.id1, hk.nodes1, hk.retry1, hk.num1, hk.group1, hk.waited1, hk.lead1, hk.q1, hk.data0⟩
theorem recvV_ok {s : As} {q : Nat} (hk : s.ok q) (p : S47) : (recvV s p).1.ok q := by
 unfold recvV
 split
 ·split
  ·unfold leadV
   split
   ·rename_i h
    refine ⟨hk.id1, hk.nodes1, hk.retry1, hk.num1, hk.group1, hk.waited1, fun x hx => ?_, hk.q1, hk.data0⟩
    rcases putM_mem _ _ _ _ hx with rfl | hx
    ·show 0 ≤ p.f6.f2 - 1 ∧ p.f6.f2 - 1 < s.nodes
     omega
    ·exact hk.lead1 x hx
   ·exact nextV_ok (sentF_ok hk)
  ·exact ⟨hk.id1, hk.nodes1, hk.retry1, hk.num1, hk.group1, hk.waited1, hk.lead1, hk.q1, hk.data0⟩
 ·exact hk
set_option maxHeartbeats 4000000 in
set_option maxRecDepth 100000 in
theorem askRecv (w : World) (B bl q : Nat) (s : As) (h : AskAt w B bl q s) (hk : s.ok q) (p : S47) (vm vv vd vpc vpd : Value) (A3 A5 : Option Addr) (c3 c5 : Nat) (h3 : p.f6.f3.length ≤ c3) (h5 : p.f6.f5.length ≤ c5) (hr : ∀ W, Kept w W (SA B bl) → Kd.C k115 W A3 p.f6.f3.length p.f6.f3 ∧ Kd.C k35 W A5 p.f6.f5.length p.f6.f5) (hl3 : p.f6.f3.length ≤ 1000) (hl5 : p.f6.f5.length ≤ 1000) :
  Calls Try.prog 24 #[.pointer (some ⟨B, 0, none⟩), .agg #[(.int .i64 p.f0), (.int .i64 p.f1), (.int .i64 p.f2), (.int .i64 p.f3), (.int .i64 p.f4.f0), (.int .i64 p.f4.f1), (.int .i64 p.f4.f2), (.int .i64 p.f4.f3), (.int .i64 p.f4.f4), (.int .i64 p.f4.f5), vm, vv, (.int .i64 p.f5.f0), (.int .i64 p.f5.f1), (.int .i64 p.f5.f2), (.int .i64 p.f5.f3), (.int .i64 p.f5.f4), (.string p.f5.f5), (.string p.f5.f6), (.string p.f5.f7), (.string p.f5.f8), (.int .i64 p.f5.f9), (.int .i64 p.f5.f10), (.int .i64 p.f5.f11.f0), (.string p.f5.f11.f1), (.int .i64 p.f5.f11.f2), (.int .i64 p.f5.f11.f3), (.int .i64 p.f5.f12.f0), (.int .i64 p.f5.f12.f1), (.int .i64 p.f5.f13), vd, (.int .i64 p.f6.f0), (.int .i64 p.f6.f1), (.int .i64 p.f6.f2), (.slice A3 p.f6.f3.length c3), (.slice none 0 0), (.slice A5 p.f6.f5.length c5), (.int .i64 p.f7.f0), vpc, vpd]] w fun e' w' => ∃ v3 v5, e' = .returned (.tuple #[.agg #[.int .i64 (recvV s p).2.1.f0, .int .i64 (recvV s p).2.1.f1, .int .i64 (recvV s p).2.1.f2, v3, .slice none 0 0, v5], .bool (recvV s p).2.2]) ∧ Kd.R k115 115 w' w.heap.size (fun _ => True) v3 (recvV s p).2.1.f3 ∧ Kd.R k35 35 w' w.heap.size (fun _ => True) v5 (recvV s p).2.1.f5 ∧ AskAt w' B bl (q + 1) (recvV s p).1 ∧ Upd w w' (SA B bl) := by
 have H := Aside0.mk h
 have HK := Aside0.mk hk
 have HI := Aside0.mk (show s.id ≠ 0 by have := hk.id1; omega)
 have HC := Aside0.mk (And.intro (And.intro h3 h5) (And.intro hr (And.intro hl3 hl5)))
 have hng := neg_w hk.id1
 clear h hk h3 h5 hr hl3 hl5
 obtain ⟨bz, hbz⟩ : ∃ bz, bz = s.busy := ⟨_, rfl⟩
 have HBZ := Aside0.mk hbz
 have H31 := Aside0.mk (fun (W : World) (hh : AskAt W B bl q s) => (show Calls Try.prog 31 #[.pointer (some ⟨B, 0, none⟩)] W (fun e' w' => e' = .returned (.bool bz) ∧ w' = W) by rw [hbz]; exact askBusyOk W B bl q s hh HI.out))
 go_enter Try.func24, Try.ntmps24
 go_wp2_with (first | ((with_reducible refine gate_dst (N := 3) rfl ?_); refine box_event ?hg (N := 3) ?hd (cs := #[(.int .i64 p.f0), (.int .i64 p.f1), (.int .i64 p.f2), (.int .i64 p.f3), (.int .i64 p.f4.f0), (.int .i64 p.f4.f1), (.int .i64 p.f4.f2), (.int .i64 p.f4.f3), (.int .i64 p.f4.f4), (.int .i64 p.f4.f5), vm, vv, (.int .i64 p.f5.f0), (.int .i64 p.f5.f1), (.int .i64 p.f5.f2), (.int .i64 p.f5.f3), (.int .i64 p.f5.f4), (.string p.f5.f5), (.string p.f5.f6), (.string p.f5.f7), (.string p.f5.f8), (.int .i64 p.f5.f9), (.int .i64 p.f5.f10), (.int .i64 p.f5.f11.f0), (.string p.f5.f11.f1), (.int .i64 p.f5.f11.f2), (.int .i64 p.f5.f11.f3), (.int .i64 p.f5.f12.f0), (.int .i64 p.f5.f12.f1), (.int .i64 p.f5.f13), vd, (.int .i64 p.f6.f0), (.int .i64 p.f6.f1), (.int .i64 p.f6.f2), (.slice A3 p.f6.f3.length c3), (.slice none 0 0), (.slice A5 p.f6.f5.length c5), (.int .i64 p.f7.f0), vpc, vpd]) (t := 47) ?hr ?_; (case hd => rfl); (case hg => rfl); (case hr => first | (go_simp; done) | (go_simp; rfl)); intro gp hg_ w1 hbox_ hbel_; have HP := Aside0.mk hbox_; have HL1 := Aside0.mk hbel_; clear hbox_ hbel_; have HG1 := Aside0.mk hg_; clear hg_) | ((with_reducible refine gate_dst (N := 4) rfl ?_); refine box_event ?hg (N := 4) ?hd (cs := #[(.int .i64 0), (.int .i64 0), (.int .i64 0), (.slice none 0 0), (.slice none 0 0), (.slice none 0 0)]) (t := 42) ?hr ?_; (case hd => rfl); (case hg => rfl); (case hr => first | (go_simp; done) | (go_simp; rfl)); intro gr hg_ w2 hbox_ hbel_; have HR := Aside0.mk hbox_; have HL2 := Aside0.mk hbel_; clear hbox_ hbel_; have HG2 := Aside0.mk hg_; clear hg_))
 have HA2 := Aside0.mk ((H.out.below HL1.out).below HL2.out)
 have HP2 := Aside0.mk (blk_below HP.out HL2.out)
 have p0 : w2.cell? ⟨gp, 0, none⟩ = some (.int .i64 p.f0) := (blk_cell HP2.out 0).trans rfl
 have p2 : w2.cell? ⟨gp, 2, none⟩ = some (.int .i64 p.f2) := (blk_cell HP2.out 2).trans rfl
 have p3 : w2.cell? ⟨gp, 3, none⟩ = some (.int .i64 p.f3) := (blk_cell HP2.out 3).trans rfl
 have p13 : w2.cell? ⟨gp, 13, none⟩ = some (.int .i64 p.f5.f1) := (blk_cell HP2.out 13).trans rfl
 have p14 : w2.cell? ⟨gp, 14, none⟩ = some (.int .i64 p.f5.f2) := (blk_cell HP2.out 14).trans rfl
 have a0 : w2.cell? ⟨B, 0, none⟩ = some (.int .i64 s.id) := (blk_cell HA2.out.blk 0).trans rfl
 have a3 : w2.cell? ⟨B, 3, none⟩ = some (.int .i64 s.num) := (blk_cell HA2.out.blk 3).trans rfl
 have a4 : w2.cell? ⟨B, 4, none⟩ = some (.int .i64 s.group) := (blk_cell HA2.out.blk 4).trans rfl
 clear hbz
 go_cut [53] (fun v53 w' => ∃ b, v53 = .bool b ∧ Aside0 (MissIs b s p) ∧ Aside0 (∃ m, w' = w2.drewN m))
 case first =>
  cases bz with
  | false =>
   have HH := Aside0.mk (show MissIs true s p from ⟨fun _ hh => (by have h1 := hh.1; rw [← HBZ.out] at h1; cases h1), fun _ => rfl⟩)
   go_quiet ((go_at_call 31; refine Calls.quiet_of_same (H31.out _ (HA2.out.below (pw_below_drewN (Below.refl _ _) _)))))
   go_wp2
   go_meet
   exact ⟨true, rfl, HH, ⟨_, rfl⟩⟩
  | true =>
   by_cases e0 : p.f0 = 3
   case neg =>
    have HH := Aside0.mk (show MissIs true s p from ⟨fun _ hh => e0 hh.2.1, fun _ => rfl⟩)
    have t0 : (p.f0 == 3) = false := beq_eq_false_iff_ne.2 e0
    have u0 : (p.f0 != 3) = true := by rw [bne, t0]; rfl
    clear e0
    go_quiet ((go_at_call 31; refine Calls.quiet_of_same (H31.out _ (HA2.out.below (pw_below_drewN (Below.refl _ _) _)))))
    go_wp2
    go_meet
    exact ⟨true, rfl, HH, ⟨_, rfl⟩⟩
   have E0 := Aside0.mk e0
   have t0 : (p.f0 == 3) = true := beq_iff_eq.2 e0
   have u0 : (p.f0 != 3) = false := by rw [bne, t0]; rfl
   clear e0
   by_cases e1 : p.f2 = -s.id
   case neg =>
    have HH := Aside0.mk (show MissIs true s p from ⟨fun _ hh => e1 hh.2.2.1, fun _ => rfl⟩)
    have t1 : (p.f2 == -s.id) = false := beq_eq_false_iff_ne.2 e1
    have u1 : (p.f2 != -s.id) = true := by rw [bne, t1]; rfl
    clear e1
    go_quiet ((go_at_call 31; refine Calls.quiet_of_same (H31.out _ (HA2.out.below (pw_below_drewN (Below.refl _ _) _)))))
    go_wp2
    go_meet
    exact ⟨true, rfl, HH, ⟨_, rfl⟩⟩
   have E1 := Aside0.mk e1
   have t1 : (p.f2 == -s.id) = true := beq_iff_eq.2 e1
   have u1 : (p.f2 != -s.id) = false := by rw [bne, t1]; rfl
   clear e1
   by_cases e2 : p.f3 = s.group
   case neg =>
    have HH := Aside0.mk (show MissIs true s p from ⟨fun _ hh => e2 hh.2.2.2.1, fun _ => rfl⟩)
    have t2 : (p.f3 == s.group) = false := beq_eq_false_iff_ne.2 e2
    have u2 : (p.f3 != s.group) = true := by rw [bne, t2]; rfl
    clear e2
    go_quiet ((go_at_call 31; refine Calls.quiet_of_same (H31.out _ (HA2.out.below (pw_below_drewN (Below.refl _ _) _)))))
    go_wp2
    go_meet
    exact ⟨true, rfl, HH, ⟨_, rfl⟩⟩
   have E2 := Aside0.mk e2
   have t2 : (p.f3 == s.group) = true := beq_iff_eq.2 e2
   have u2 : (p.f3 != s.group) = false := by rw [bne, t2]; rfl
   clear e2
   by_cases e3 : p.f5.f1 = s.id
   case neg =>
    have HH := Aside0.mk (show MissIs true s p from ⟨fun _ hh => e3 hh.2.2.2.2.1, fun _ => rfl⟩)
    have t3 : (p.f5.f1 == s.id) = false := beq_eq_false_iff_ne.2 e3
    have u3 : (p.f5.f1 != s.id) = true := by rw [bne, t3]; rfl
    clear e3
    go_quiet ((go_at_call 31; refine Calls.quiet_of_same (H31.out _ (HA2.out.below (pw_below_drewN (Below.refl _ _) _)))))
    go_wp2
    go_meet
    exact ⟨true, rfl, HH, ⟨_, rfl⟩⟩
   have E3 := Aside0.mk e3
   have t3 : (p.f5.f1 == s.id) = true := beq_iff_eq.2 e3
   have u3 : (p.f5.f1 != s.id) = false := by rw [bne, t3]; rfl
   clear e3
   by_cases e4 : p.f5.f2 = s.num
   case neg =>
    have HH := Aside0.mk (show MissIs true s p from ⟨fun _ hh => e4 hh.2.2.2.2.2, fun _ => rfl⟩)
    have t4 : (p.f5.f2 == s.num) = false := beq_eq_false_iff_ne.2 e4
    have u4 : (p.f5.f2 != s.num) = true := by rw [bne, t4]; rfl
    clear e4
    go_quiet ((go_at_call 31; refine Calls.quiet_of_same (H31.out _ (HA2.out.below (pw_below_drewN (Below.refl _ _) _)))))
    go_wp2
    go_meet
    exact ⟨true, rfl, HH, ⟨_, rfl⟩⟩
   have E4 := Aside0.mk e4
   have t4 : (p.f5.f2 == s.num) = true := beq_iff_eq.2 e4
   have u4 : (p.f5.f2 != s.num) = false := by rw [bne, t4]; rfl
   clear e4
   have HH := Aside0.mk (show MissIs false s p from ⟨fun h => (by cases h), fun h => (h ⟨HBZ.out.symm, E0.out, E1.out, E2.out, E3.out, E4.out⟩).elim⟩)
   go_quiet ((go_at_call 31; refine Calls.quiet_of_same (H31.out _ (HA2.out.below (pw_below_drewN (Below.refl _ _) _)))))
   go_wp2
   go_meet
   exact ⟨false, rfl, HH, ⟨_, rfl⟩⟩
 case rest =>
  obtain ⟨b, rfl, HM, HW⟩ := hcut
  have bw : Below w2.heap.size w2 wc := by obtain ⟨m, hm⟩ := HW.out; rw [hm]; exact pw_below_drewN (Below.refl _ _) _
  have HAc := Aside0.mk (HA2.out.below bw)
  have HPc := Aside0.mk (blk_below HP2.out bw)
  have HRc := Aside0.mk (blk_below HR.out bw)
  have Uc := Aside0.mk ((Upd.of_below HL1.out (SA B bl)).and ((Upd.of_below HL2.out _).and (Upd.of_below bw _)))
  have NG := Aside0.mk (show B ≠ gr ∧ bl ≠ gr ∧ B ≠ gp ∧ bl ≠ gp ∧ gp ≠ gr ∧ w.heap.size ≤ gr from by have h1 := H.out.lt; have h2 := HG1.out; have h3 := HG2.out; have h4 := HL1.out.size; have h5 := blk_lt HP.out; exact ⟨by omega, by omega, by omega, by omega, by omega, by omega⟩)
  clear bw HA2 HP2 HR HP HL1 HL2 HG1 HG2 HW p0 p2 p3 p13 p14 a0 a3 a4 hng H31
  cases b with
  | true =>
   have HV := Aside0.mk (show recvV s p = (s, z42, false) by unfold recvV; rw [if_neg (HM.out.1 rfl)])
   clear HM
   go_wp2_with (first | ((with_reducible refine gate_ (.store 42 (.tmp 4) (.tmp 54)) rfl ?_); refine store_blk rfl 42 _ _ rfl gr 0 [(.int .i64 0), (.int .i64 0), (.int .i64 0), (.slice none 0 0), (.slice none 0 0), (.slice none 0 0)] rfl rfl HRc.out (Nat.le_of_ble_eq_true rfl) (by kernel_rfl) (by rfl) #[(.int .i64 0), (.int .i64 0), (.int .i64 0), (.slice none 0 0), (.slice none 0 0), (.slice none 0 0)] (by rfl) ?_; intro wd hnb_ hup_; have HRd := Aside0.mk hnb_; have HUd := Aside0.mk hup_; clear hnb_ hup_))
   refine bodyPost_ret (results_ct rfl _ _ gr 42 #[(.int .i64 0), (.int .i64 0), (.int .i64 0), (.slice none 0 0), (.slice none 0 0), (.slice none 0 0)] (0, 0) _ rfl HRd.out Try.underlying42 rfl (by kernel_rfl)) rfl ?_
   rw [HV.out]
   exact ⟨_, _, rfl, Kd.R_nil _ _ _ _ _, Kd.R_nil _ _ _ _ _, (HAc.out.mono (Nat.le_succ _)).keep (HUd.out.kept.2 _ HAc.out.lt.1 NG.out.1) (HUd.out.kept.2 _ HAc.out.lt.2.1 NG.out.2.1), Uc.out.trans HUd.out (fun k hk => Or.inr (by have h3 : k = gr := hk; have := NG.out.2.2.2.2.2; omega))⟩
  | false =>
   have HIT := Aside0.mk (show hit s p from Classical.byContradiction (fun h => by have := HM.out.2 h; cases this))
   clear HM
   have p31 : wc.cell? ⟨gp, 31, none⟩ = some (.int .i64 p.f6.f0) := (blk_cell HPc.out 31).trans rfl
   have p33 : wc.cell? ⟨gp, 33, none⟩ = some (.int .i64 p.f6.f2) := (blk_cell HPc.out 33).trans rfl
   by_cases e15 : p.f6.f0 = 15
   case neg =>
    have HV := Aside0.mk (show recvV s p = ({ s with busy := false }, p.f6, true) by unfold recvV; rw [if_pos HIT.out, if_neg e15])
    have f1 : (p.f6.f0 == 15) = false := beq_eq_false_iff_ne.2 e15
    clear e15
    have a24 : wc.cell? ⟨B, 24, none⟩ = some (.bool s.busy) := (blk_cell HAc.out.blk 24).trans rfl
    have az24 := blk_frozen HAc.out.blk 24
    go_upto_region 11 with (fail)
    obtain ⟨wd, hwd⟩ : ∃ wd, wd = wc.setCell ⟨B, 24, none⟩ (.bool false) := ⟨_, rfl⟩
    rw [← hwd]
    have HBd := Aside0.mk (show AskAt wd B bl q { s with busy := false } by rw [hwd]; exact ⟨askSet (s' := { s with busy := false }) HAc.out.blk 24 _ rfl, HAc.out.map.keep (Below.heap_setCell _ ⟨B, 24, none⟩ _ _ HAc.out.lt.2.2.symm) (fun _ _ h => h)⟩)
    have HPd := Aside0.mk (show wd.heap[gp]? = some (.cells #[(.int .i64 p.f0), (.int .i64 p.f1), (.int .i64 p.f2), (.int .i64 p.f3), (.int .i64 p.f4.f0), (.int .i64 p.f4.f1), (.int .i64 p.f4.f2), (.int .i64 p.f4.f3), (.int .i64 p.f4.f4), (.int .i64 p.f4.f5), vm, vv, (.int .i64 p.f5.f0), (.int .i64 p.f5.f1), (.int .i64 p.f5.f2), (.int .i64 p.f5.f3), (.int .i64 p.f5.f4), (.string p.f5.f5), (.string p.f5.f6), (.string p.f5.f7), (.string p.f5.f8), (.int .i64 p.f5.f9), (.int .i64 p.f5.f10), (.int .i64 p.f5.f11.f0), (.string p.f5.f11.f1), (.int .i64 p.f5.f11.f2), (.int .i64 p.f5.f11.f3), (.int .i64 p.f5.f12.f0), (.int .i64 p.f5.f12.f1), (.int .i64 p.f5.f13), vd, (.int .i64 p.f6.f0), (.int .i64 p.f6.f1), (.int .i64 p.f6.f2), (.slice A3 p.f6.f3.length c3), (.slice none 0 0), (.slice A5 p.f6.f5.length c5), (.int .i64 p.f7.f0), vpc, vpd] 47 (0, 0)) by rw [hwd]; exact blk_far HPc.out (p := ⟨B, 24, none⟩) NG.out.2.2.1.symm _)
    have HRd := Aside0.mk (show wd.heap[gr]? = some (.cells #[(.int .i64 0), (.int .i64 0), (.int .i64 0), (.slice none 0 0), (.slice none 0 0), (.slice none 0 0)] 42 (0, 0)) by rw [hwd]; exact blk_far HRc.out (p := ⟨B, 24, none⟩) NG.out.1.symm _)
    have Ud := Aside0.mk (show Upd w wd (SA B bl) by rw [hwd]; exact Uc.out.and ((Upd.set _ ⟨B, 24, none⟩ _).mono (fun k hk => Or.inl hk)))
    clear hwd a24 az24 p31 p33 f1 HAc HPc HRc Uc
    go_upto_region 12 with (first | ((with_reducible refine gate_ (.load 42 (.tmp 91)) rfl ?_); refine load_blk rfl 42 _ rfl gp 31 rfl HPd.out [(.int .i64 p.f6.f0), (.int .i64 p.f6.f1), (.int .i64 p.f6.f2), (.slice A3 p.f6.f3.length c3), (.slice none 0 0), (.slice A5 p.f6.f5.length c5)] rfl Try.underlying42 rfl (by kernel_rfl) ?_) | ((with_reducible refine gate_ (.store 42 (.tmp 4) (.tmp 92)) rfl ?_); refine store_blk rfl 42 _ _ rfl gr 0 [(.int .i64 p.f6.f0), (.int .i64 p.f6.f1), (.int .i64 p.f6.f2), (.slice A3 p.f6.f3.length c3), (.slice none 0 0), (.slice A5 p.f6.f5.length c5)] rfl rfl HRd.out (Nat.le_of_ble_eq_true rfl) (by kernel_rfl) (by rfl) #[(.int .i64 p.f6.f0), (.int .i64 p.f6.f1), (.int .i64 p.f6.f2), (.slice A3 p.f6.f3.length c3), (.slice none 0 0), (.slice A5 p.f6.f5.length c5)] (by rfl) ?_; intro we hnb_ hup_; have HRe := Aside0.mk hnb_; have HUe := Aside0.mk hup_; clear hnb_ hup_))
    have NGR := Aside0.mk (show gr < wd.heap.size from blk_lt HRd.out)
    have HAe := Aside0.mk (HBd.out.keep (HUe.out.kept.2 _ HBd.out.lt.1 NG.out.1) (HUe.out.kept.2 _ HBd.out.lt.2.1 NG.out.2.1))
    have Ue := Aside0.mk (Ud.out.trans HUe.out (fun k hk => Or.inr (by have h3 : k = gr := hk; have := NG.out.2.2.2.2.2; omega)))
    have HRW := Aside0.mk (fun (W : World) (hb : Below we.heap.size we W) => (show Kd.C k115 W A3 p.f6.f3.length p.f6.f3 ∧ Kd.C k35 W A5 p.f6.f5.length p.f6.f5 from HC.out.2.1 W ((Ue.out.kept).below hb)))
    refine start_ (n := 15) (S := fun w' => Below we.heap.size we w') (ds := [10, 12, 14]) (bq 15 0) (by kernel_rfl) rfl rfl (below_drew (Below.refl _ _)) (fun hHeld => ?_)
    generalize we.drew = wf at  hHeld ⊢
    refine pu 0 93 (bq 15 1) ?_ rfl rfl (by kernel_rfl) (fun _ _ _ h => h) (by rfl) ?_ ?_ ?_ ?_
    rotate_left
    ·intro w'; go_simp; with_reducible rfl
    rotate_left
    ·simp only [Act.put, sqA, sqB, sqC, i64_w, i32_w]
     rfl
    refine pu 3 96 (bq 15 9) ?_ rfl rfl (by kernel_rfl) (fun _ _ _ h => h) (by rfl) ?_ ?_ ?_ ?_
    rotate_left
    ·intro w'; go_simp; with_reducible rfl
    rotate_left
    ·simp only [Act.put, sqA, sqB, sqC, i64_w, i32_w]
     rfl
    refine pu 6 99 (bq 15 73) ?_ rfl rfl (by kernel_rfl) (fun _ _ _ h => h) (by rfl) ?_ ?_ ?_ ?_
    rotate_left
    ·intro w'; go_simp; with_reducible rfl
    rotate_left
    ·simp only [Act.put, sqA, sqB, sqC, i64_w, i32_w]
     rfl
    refine tk 1 94 (bq 15 75) ?_ rfl rfl (by kernel_rfl) (fun _ _ _ h => h) (by rfl) ?_ hHeld ?_ ?_ ?_
    rotate_left
    ·intro w' hw'
     have s0 := (blk_cell (blk_below HRe.out hw') 3).trans (show _ = some (.slice A3 p.f6.f3.length c3) from rfl)
     go_simp
     with_reducible rfl
    rotate_left
    ·simp only [Act.put, sqA, sqB, sqC, i64_w, i32_w]
     rfl
    refine tk 4 97 (bq 15 91) ?_ rfl rfl (by kernel_rfl) (fun _ _ _ h => h) (by rfl) ?_ hHeld ?_ ?_ ?_
    rotate_left
    ·intro w' hw'
     have s0 := (blk_cell (blk_below HRe.out hw') 4).trans (show _ = some (.slice none 0 0) from rfl)
     go_simp
     with_reducible rfl
    rotate_left
    ·simp only [Act.put, sqA, sqB, sqC, i64_w, i32_w]
     rfl
    refine tk 7 100 (bq 15 219) ?_ rfl rfl (by kernel_rfl) (fun _ _ _ h => h) (by rfl) ?_ hHeld ?_ ?_ ?_
    rotate_left
    ·intro w' hw'
     have s0 := (blk_cell (blk_below HRe.out hw') 5).trans (show _ = some (.slice A5 p.f6.f5.length c5) from rfl)
     go_simp
     with_reducible rfl
    rotate_left
    ·simp only [Act.put, sqA, sqB, sqC, i64_w, i32_w]
     rfl
    refine one_ (i := 2) (N := some 95) (bq 15 223) rfl rfl (by kernel_rfl) (by decide) (fun K hK => ?_)
    refine goes_ Try.func47 (by kernel_rfl) rfl #[(.slice A3 p.f6.f3.length c3)] (by rfl) rfl rfl (by (try simp only [List.map_toArray, List.map_cons, List.map_nil]); first | done | rfl) ?_
    with_reducible refine (cloneGot.calls A3 c3 p.f6.f3 p.f6.f3 _ (HRW.out _ hHeld).1 HC.out.1.1 (by unfold cloneGot.f; rw [if_pos (by have := HC.out.2.2.1; omega)])).mono ?_
    rintro e1 wg_ ⟨v3, rfl, hR_, hb_⟩
    obtain ⟨Ag, cg, rfl⟩ := Kd.R_slice hR_
    have Rg := Aside0.mk hR_
    have Bg := Aside0.mk hb_
    have Sg := Aside0.mk hHeld
    refine ⟨_, rfl, ?_⟩
    refine hK.out _ _ (hHeld.trans (hb_.mono hHeld.size)) ?_
    clear hHeld
    intro hHeld
    clear hK K hR_ hb_
    refine norm_ (a' := ?_) ?_ ?_
    rotate_left
    ·show Act.put _ (some 95) _ = _; simp only [Act.put, sqA, sqB, sqC, i64_w, i32_w]
     rfl
    refine pu 9 102 (bq 15 735) ?_ rfl rfl (by kernel_rfl) (fun _ _ _ h => h) (by rfl) ?_ ?_ ?_ ?_
    rotate_left
    ·intro w'; go_simp; with_reducible rfl
    rotate_left
    ·simp only [Act.put, sqA, sqB, sqC, i64_w, i32_w]
     rfl
    refine one_ (i := 5) (N := some 98) (bq 15 767) rfl rfl (by kernel_rfl) (by decide) (fun K hK => ?_)
    refine goes_ Try.func45 (by kernel_rfl) rfl #[.slice none 0 0] (by rfl) rfl rfl (by (try simp only [List.map_toArray, List.map_cons, List.map_nil]); first | done | rfl) ?_
    with_reducible refine (cloneNil45 _).mono ?_
    rintro e1 wq_ ⟨rfl, hwq_⟩
    rw [hwq_]
    clear hwq_ wq_
    refine ⟨_, rfl, ?_⟩
    refine hK.out _ _ hHeld ?_
    clear hHeld
    intro hHeld
    clear hK K
    refine norm_ (a' := ?_) ?_ ?_
    rotate_left
    ·show Act.put _ (some 98) _ = _; simp only [Act.put, sqA, sqB, sqC, i64_w, i32_w]
     rfl
    refine one_ (i := 8) (N := some 101) (bq 15 1023) rfl rfl (by kernel_rfl) (by decide) (fun K hK => ?_)
    refine goes_ Try.func48 (by kernel_rfl) rfl #[(.slice A5 p.f6.f5.length c5)] (by rfl) rfl rfl (by (try simp only [List.map_toArray, List.map_cons, List.map_nil]); first | done | rfl) ?_
    with_reducible refine (cloneRange.calls A5 c5 p.f6.f5 p.f6.f5 _ (HRW.out _ hHeld).2 HC.out.1.2 (by unfold cloneRange.f; rw [if_pos (by have := HC.out.2.2.2; omega)])).mono ?_
    rintro e1 wr_ ⟨v5, rfl, hR_, hb_⟩
    obtain ⟨Ar, cr, rfl⟩ := Kd.R_slice hR_
    have Rr := Aside0.mk hR_
    have Br := Aside0.mk hb_
    have Sr := Aside0.mk hHeld
    refine ⟨_, rfl, ?_⟩
    refine hK.out _ _ (hHeld.trans (hb_.mono hHeld.size)) ?_
    clear hHeld
    intro hHeld
    clear hK K hR_ hb_
    refine norm_ (a' := ?_) ?_ ?_
    rotate_left
    ·show Act.put _ (some 101) _ = _; simp only [Act.put, sqA, sqB, sqC, i64_w, i32_w]
     rfl
    have HRx := Aside0.mk (blk_below HRe.out hHeld)
    have HHx := Aside0.mk hHeld
    clear hHeld
    refine last_ (i := 10) (N := none) (bq 15 2047) rfl rfl (by kernel_rfl) (by decide) (fun K hK => ?_)
    have x1 := (blk_cell HRx.out 3).trans (show _ = some (.slice A3 p.f6.f3.length c3) from rfl)
    have xz := blk_frozen HRx.out 3
    refine skip_ (w1 := (wr_.setCell ⟨gr, 3, none⟩ (.slice Ag p.f6.f3.length cg))) (by rfl) rfl ?_ ?_
    ·go_simp
    refine hK.out _ _ ?_
    clear hK K
    clear x1 xz
    have HRx10 := Aside0.mk (show (wr_.setCell ⟨gr, 3, none⟩ (.slice Ag p.f6.f3.length cg)).heap[gr]? = some (.cells #[(.int .i64 p.f6.f0), (.int .i64 p.f6.f1), (.int .i64 p.f6.f2), (.slice Ag p.f6.f3.length cg), (.slice none 0 0), (.slice A5 p.f6.f5.length c5)] 42 (0, 0)) from blk_set HRx.out 3 _)
    refine pu 11 103 (bq 15 4095) ?_ rfl rfl (by kernel_rfl) (fun _ _ _ h => h) (by rfl) ?_ ?_ ?_ ?_
    rotate_left
    ·intro w'; go_simp; with_reducible rfl
    rotate_left
    ·simp only [Act.put, sqA, sqB, sqC, i64_w, i32_w]
     rfl
    refine last_ (i := 12) (N := none) (bq 15 8191) rfl rfl (by kernel_rfl) (by decide) (fun K hK => ?_)
    have x1 := (blk_cell HRx10.out 4).trans (show _ = some (.slice none 0 0) from rfl)
    have xz := blk_frozen HRx10.out 4
    refine skip_ (w1 := ((wr_.setCell ⟨gr, 3, none⟩ (.slice Ag p.f6.f3.length cg)).setCell ⟨gr, 4, none⟩ (.slice none 0 0))) (by rfl) rfl ?_ ?_
    ·go_simp
    refine hK.out _ _ ?_
    clear hK K
    clear x1 xz
    have HRx12 := Aside0.mk (show ((wr_.setCell ⟨gr, 3, none⟩ (.slice Ag p.f6.f3.length cg)).setCell ⟨gr, 4, none⟩ (.slice none 0 0)).heap[gr]? = some (.cells #[(.int .i64 p.f6.f0), (.int .i64 p.f6.f1), (.int .i64 p.f6.f2), (.slice Ag p.f6.f3.length cg), (.slice none 0 0), (.slice A5 p.f6.f5.length c5)] 42 (0, 0)) from blk_set HRx10.out 4 _)
    refine pu 13 104 (bq 15 16383) ?_ rfl rfl (by kernel_rfl) (fun _ _ _ h => h) (by rfl) ?_ ?_ ?_ ?_
    rotate_left
    ·intro w'; go_simp; with_reducible rfl
    rotate_left
    ·simp only [Act.put, sqA, sqB, sqC, i64_w, i32_w]
     rfl
    refine last_ (i := 14) (N := none) (bq 15 32767) rfl rfl (by kernel_rfl) (by decide) (fun K hK => ?_)
    have x1 := (blk_cell HRx12.out 5).trans (show _ = some (.slice A5 p.f6.f5.length c5) from rfl)
    have xz := blk_frozen HRx12.out 5
    refine skip_ (w1 := (((wr_.setCell ⟨gr, 3, none⟩ (.slice Ag p.f6.f3.length cg)).setCell ⟨gr, 4, none⟩ (.slice none 0 0)).setCell ⟨gr, 5, none⟩ (.slice Ar p.f6.f5.length cr))) (by rfl) rfl ?_ ?_
    ·go_simp
    refine hK.out _ _ ?_
    clear hK K
    clear x1 xz
    have HRx14 := Aside0.mk (show (((wr_.setCell ⟨gr, 3, none⟩ (.slice Ag p.f6.f3.length cg)).setCell ⟨gr, 4, none⟩ (.slice none 0 0)).setCell ⟨gr, 5, none⟩ (.slice Ar p.f6.f5.length cr)).heap[gr]? = some (.cells #[(.int .i64 p.f6.f0), (.int .i64 p.f6.f1), (.int .i64 p.f6.f2), (.slice Ag p.f6.f3.length cg), (.slice none 0 0), (.slice Ar p.f6.f5.length cr)] 42 (0, 0)) from blk_set HRx12.out 5 _)
    refine done_ (by kernel_rfl) ?_
    have US := Aside0.mk ((((Upd.set wr_ ⟨gr, 3, none⟩ (.slice Ag p.f6.f3.length cg)).and (Upd.set _ ⟨gr, 4, none⟩ (.slice none 0 0))).and (Upd.set _ ⟨gr, 5, none⟩ (.slice Ar p.f6.f5.length cr))))
    generalize (((wr_.setCell ⟨gr, 3, none⟩ (.slice Ag p.f6.f3.length cg)).setCell ⟨gr, 4, none⟩ (.slice none 0 0)).setCell ⟨gr, 5, none⟩ (.slice Ar p.f6.f5.length cr)) = wg at HRx14 US ⊢
    go_wp2_with (first | ((with_reducible refine gate_ (.load 42 (.tmp 4)) rfl ?_); refine load_blk rfl 42 _ rfl gr 0 rfl HRx14.out [(.int .i64 p.f6.f0), (.int .i64 p.f6.f1), (.int .i64 p.f6.f2), (.slice Ag p.f6.f3.length cg), (.slice none 0 0), (.slice Ar p.f6.f5.length cr)] rfl Try.underlying42 rfl (by kernel_rfl) ?_) | ((with_reducible refine gate_ (.store 42 (.tmp 4) (.tmp 105)) rfl ?_); refine store_blk rfl 42 _ _ rfl gr 0 [(.int .i64 p.f6.f0), (.int .i64 p.f6.f1), (.int .i64 p.f6.f2), (.slice Ag p.f6.f3.length cg), (.slice none 0 0), (.slice Ar p.f6.f5.length cr)] rfl rfl HRx14.out (Nat.le_of_ble_eq_true rfl) (by kernel_rfl) (by rfl) #[(.int .i64 p.f6.f0), (.int .i64 p.f6.f1), (.int .i64 p.f6.f2), (.slice Ag p.f6.f3.length cg), (.slice none 0 0), (.slice Ar p.f6.f5.length cr)] (by rfl) ?_; intro wh hnb_ hup_; have HRh := Aside0.mk hnb_; have HUh := Aside0.mk hup_; clear hnb_ hup_))
    refine bodyPost_ret (results_ct rfl _ _ gr 42 #[(.int .i64 p.f6.f0), (.int .i64 p.f6.f1), (.int .i64 p.f6.f2), (.slice Ag p.f6.f3.length cg), (.slice none 0 0), (.slice Ar p.f6.f5.length cr)] (0, 0) _ rfl HRh.out Try.underlying42 rfl (by kernel_rfl)) rfl ?_
    rw [HV.out]
    have hu2 : Upd wr_ wh (fun k => k = gr) := US.out.and HUh.out
    have hsz : gr < we.heap.size := blk_lt HRe.out
    have hbr : Below we.heap.size we wr_ := HHx.out
    have hgr : gr < wf.heap.size := Nat.lt_of_lt_of_le hsz Sg.out.size
    have hlow : ∀ k, (fun k => k = gr) k → k < wf.heap.size := fun k hk => by have h3 : k = gr := hk; omega
    have hlow2 : ∀ k, (fun k => k = gr) k → k < wg_.heap.size := fun k hk => by have h3 : k = gr := hk; have := Bg.out.size; omega
    have hww : w.heap.size ≤ we.heap.size := Ue.out.kept.1
    refine ⟨_, _, rfl, Kd.R_lower (R_upd (Kd.R_below Rg.out Br.out) hu2 hlow) (Nat.le_trans hww Sg.out.size), Kd.R_lower (R_upd Rr.out hu2 hlow2) (Nat.le_trans hww (Nat.le_trans Sg.out.size Bg.out.size)), ?_, ?_⟩
    ·have ha := ((HAe.out.below hbr).keep (hu2.kept.2 _ (HAe.out.below hbr).lt.1 NG.out.1) (hu2.kept.2 _ (HAe.out.below hbr).lt.2.1 NG.out.2.1))
     exact ha.mono (Nat.le_succ _)
    ·exact (Ue.out.and (Upd.of_below hbr _)).trans hu2 (fun k hk => Or.inr (by have h3 : k = gr := hk; have := NG.out.2.2.2.2.2; omega))
   case pos =>
    have HV := Aside0.mk (show recvV s p = (leadV s p.f6.f2, z42, false) by unfold recvV; rw [if_pos HIT.out, if_pos e15])
    have f1 : (p.f6.f0 == 15) = true := beq_iff_eq.2 e15
    have p31z : wc.cell? ⟨gp, 31, none⟩ = some (.int .i64 15) := by rw [p31, e15]
    clear p31 f1 e15
    have a25 : wc.cell? ⟨B, 25, none⟩ = some (.bool s.sent) := (blk_cell HAc.out.blk 25).trans rfl
    have az25 := blk_frozen HAc.out.blk 25
    go_upto_region 6 with (fail)
    obtain ⟨wd, hwd⟩ : ∃ wd, wd = wc.setCell ⟨B, 25, none⟩ (.bool false) := ⟨_, rfl⟩
    rw [← hwd]
    have HBd := Aside0.mk (show AskAt wd B bl q { s with sent := false } by rw [hwd]; exact ⟨askSet (s' := { s with sent := false }) HAc.out.blk 25 _ rfl, HAc.out.map.keep (Below.heap_setCell _ ⟨B, 25, none⟩ _ _ HAc.out.lt.2.2.symm) (fun _ _ h => h)⟩)
    have HRd := Aside0.mk (show wd.heap[gr]? = some (.cells #[(.int .i64 0), (.int .i64 0), (.int .i64 0), (.slice none 0 0), (.slice none 0 0), (.slice none 0 0)] 42 (0, 0)) by rw [hwd]; exact blk_far HRc.out (p := ⟨B, 25, none⟩) NG.out.1.symm _)
    have Ud := Aside0.mk (show Upd w wd (SA B bl) by rw [hwd]; exact Uc.out.and ((Upd.set _ ⟨B, 25, none⟩ _).mono (fun k hk => Or.inl hk)))
    clear hwd a25 az25 p31z p33 HAc HPc HRc Uc
    have HKF := Aside0.mk (sentF_ok HK.out)
    have a1 : wd.cell? ⟨B, 1, none⟩ = some (.int .i64 s.nodes) := (blk_cell HBd.out.blk 1).trans rfl
    obtain ⟨nn, hnn⟩ : ∃ nn, nn = p.f6.f2 := ⟨_, rfl⟩
    rw [← hnn] at HV ⊢
    clear hnn
    by_cases hn : 1 ≤ nn ∧ nn ≤ s.nodes
    case pos =>
     have HN := Aside0.mk (And.intro hn.1 hn.2)
     have HLV := Aside0.mk (show leadV s nn = { s with sent := false, lead := putM s.group (nn - 1) s.lead } by unfold leadV; rw [if_pos hn])
     rw [HLV.out] at HV
     have f1 : decide (1 ≤ nn) = true := decide_eq_true hn.1
     have f2 : decide (nn ≤ s.nodes) = true := decide_eq_true hn.2
     clear hn
     have hw1 : wrap64 (nn - 1) = nn - 1 := by have h1 := HN.out; have h2 := HK.out.nodes1; unfold wrap64; omega
     go_upto_region 7 with (fail)
     have HM7 := Aside0.mk HBd.out.map
     refine start_ (n := 11) (S := fun w' => Below wd.heap.size wd w') (ds := [10]) (bq 11 0) (by kernel_rfl) rfl rfl (below_drew (Below.refl _ _)) (fun hHeld => ?_)
     generalize wd.drew = wx at  hHeld ⊢
     refine pu 0 75 (bq 11 1) ?_ rfl rfl (by kernel_rfl) (fun _ _ _ h => h) (by rfl) ?_ ?_ ?_ ?_
     rotate_left
     ·intro w'; go_simp; with_reducible rfl
     rotate_left
     ·simp only [Act.put, sqA, sqB, sqC, i64_w, i32_w]
      rfl
     refine pu 1 76 (bq 11 3) ?_ rfl rfl (by kernel_rfl) (fun _ _ _ h => h) (by rfl) ?_ ?_ ?_ ?_
     rotate_left
     ·intro w'; go_simp; with_reducible rfl
     rotate_left
     ·simp only [Act.put, sqA, sqB, sqC, i64_w, i32_w]
      rfl
     refine pu 2 77 (bq 11 7) ?_ rfl rfl (by kernel_rfl) (fun _ _ _ h => h) (by rfl) ?_ ?_ ?_ ?_
     rotate_left
     ·intro w'; go_simp; with_reducible rfl
     rotate_left
     ·simp only [Act.put, sqA, sqB, sqC, i64_w, i32_w]
      rfl
     refine pu 4 79 (bq 11 23) ?_ rfl rfl (by kernel_rfl) (fun _ _ _ h => h) (by rfl) ?_ ?_ ?_ ?_
     rotate_left
     ·intro w'; go_simp; with_reducible rfl
     rotate_left
     ·simp only [Act.put, sqA, sqB, sqC, i64_w, i32_w]
      rfl
     refine pu 5 80 (bq 11 55) ?_ rfl rfl (by kernel_rfl) (fun _ _ _ h => h) (by rfl) ?_ ?_ ?_ ?_
     rotate_left
     ·intro w'; go_simp; with_reducible rfl
     rotate_left
     ·simp only [Act.put, sqA, sqB, sqC, i64_w, i32_w]
      rfl
     refine pu 6 81 (bq 11 119) ?_ rfl rfl (by kernel_rfl) (fun _ _ _ h => h) (by rfl) ?_ ?_ ?_ ?_
     rotate_left
     ·intro w'; go_simp; with_reducible rfl
     rotate_left
     ·simp only [Act.put, sqA, sqB, sqC, i64_w, i32_w]
      rfl
     refine pu 8 83 (bq 11 375) ?_ rfl rfl (by kernel_rfl) (fun _ _ _ h => h) (by rfl) ?_ ?_ ?_ ?_
     rotate_left
     ·intro w'; go_simp; with_reducible rfl
     rotate_left
     ·simp only [Act.put, sqA, sqB, sqC, i64_w, i32_w]
      rfl
     refine pu 9 84 (bq 11 887) ?_ rfl rfl (by kernel_rfl) (fun _ _ _ h => h) (by rfl) ?_ ?_ ?_ ?_
     rotate_left
     ·intro w'; go_simp; with_reducible rfl
     rotate_left
     ·simp only [Act.put, sqA, sqB, sqC, i64_w, i32_w]
      rfl
     refine tk 3 78 (bq 11 895) ?_ rfl rfl (by kernel_rfl) (fun _ _ _ h => h) (by rfl) ?_ hHeld ?_ ?_ ?_
     rotate_left
     ·intro w' hw'
      have hb_ := blk_below HBd.out.blk hw'
      have s4 := (blk_cell hb_ 4).trans (show _ = some (.int .i64 s.group) from rfl)
      have s27 := (blk_cell hb_ 27).trans (show _ = some (.map (some bl)) from rfl)
      go_simp
      with_reducible rfl
     rotate_left
     ·simp only [Act.put, sqA, sqB, sqC, i64_w, i32_w]
      rfl
     refine tk 7 82 (bq 11 1023) ?_ rfl rfl (by kernel_rfl) (fun _ _ _ h => h) (by rfl) ?_ hHeld ?_ ?_ ?_
     rotate_left
     ·intro w' hw'
      have hb_ := blk_below HBd.out.blk hw'
      have s4 := (blk_cell hb_ 4).trans (show _ = some (.int .i64 s.group) from rfl)
      have s27 := (blk_cell hb_ 27).trans (show _ = some (.map (some bl)) from rfl)
      go_simp
      with_reducible rfl
     rotate_left
     ·simp only [Act.put, sqA, sqB, sqC, i64_w, i32_w]
      rfl
     refine last_ (i := 10) (N := none) (bq 11 2047) rfl rfl (by kernel_rfl) (by decide) (fun K hK => ?_)
     obtain ⟨w2_, hrun, hm2, hg2⟩ := (HM7.out.keep (w' := wx) (P' := NumP) (hHeld.block _ HM7.out.lt) (fun _ _ h => h)).put (t := 95) Try.underlying95 HK.out.q1 s.group (nn - 1) (by have := HK.out.group1; omega)
     refine skip_ (w1 := w2_) (by rfl) rfl ?_ ?_
     ·simp only [execOp, Act.eval, Act.put, List.setIfInBounds_toArray, List.set_cons_zero, List.set_cons_succ]
      go_simp
     refine hK.out _ _ ?_
     clear hK K
     refine done_ (by kernel_rfl) ?_
     have hnb := HBd.out.lt.2.2
     have HBz := Aside0.mk (show AskAt w2_ B bl (q + 1) { s with sent := false, lead := putM s.group (nn - 1) s.lead } from ⟨(hg2.block B (Nat.lt_of_lt_of_le HBd.out.lt.1 hHeld.size) (fun e => hnb (Option.some.inj e))).trans ((hHeld.block B HBd.out.lt.1).trans HBd.out.blk), hm2⟩)
     have Uz := Aside0.mk (Ud.out.and ((Upd.of_below hHeld _).and ((Upd.grown hg2).mono (fun k hk => Or.inr hk))))
     have HRz := Aside0.mk ((Upd.grown hg2).block (blk_below HRd.out hHeld) (fun e => NG.out.2.1 e.symm))
     clear hm2 hg2 hHeld hrun hnb f1 f2 hw1 a1
     go_wp2_with (first | ((with_reducible refine gate_ (.store 42 (.tmp 4) (.tmp 87)) rfl ?_); refine store_blk rfl 42 _ _ rfl gr 0 [(.int .i64 0), (.int .i64 0), (.int .i64 0), (.slice none 0 0), (.slice none 0 0), (.slice none 0 0)] rfl rfl HRz.out (Nat.le_of_ble_eq_true rfl) (by kernel_rfl) (by rfl) #[(.int .i64 0), (.int .i64 0), (.int .i64 0), (.slice none 0 0), (.slice none 0 0), (.slice none 0 0)] (by rfl) ?_; intro wd9 hnb_ hup_; have HR9 := Aside0.mk hnb_; have HU9 := Aside0.mk hup_; clear hnb_ hup_))
     refine bodyPost_ret (results_ct rfl _ _ gr 42 #[(.int .i64 0), (.int .i64 0), (.int .i64 0), (.slice none 0 0), (.slice none 0 0), (.slice none 0 0)] (0, 0) _ rfl HR9.out Try.underlying42 rfl (by kernel_rfl)) rfl ?_
     rw [HV.out]
     exact ⟨_, _, rfl, Kd.R_nil _ _ _ _ _, Kd.R_nil _ _ _ _ _, HBz.out.keep (HU9.out.kept.2 _ HBz.out.lt.1 NG.out.1) (HU9.out.kept.2 _ HBz.out.lt.2.1 NG.out.2.1), Uz.out.trans HU9.out (fun k hk => Or.inr (by have h3 : k = gr := hk; have := NG.out.2.2.2.2.2; omega))⟩
    case neg =>
     have HLV := Aside0.mk (show leadV s nn = nextV { s with sent := false } by unfold leadV; rw [if_neg hn])
     rw [HLV.out] at HV
     have f12 : (decide (1 ≤ nn) && decide (nn ≤ s.nodes)) = false := by simp only [Bool.and_eq_false_iff, decide_eq_false_iff_not]; omega
     by_cases f1 : 1 ≤ nn
     case pos =>
      have f2 : decide (nn ≤ s.nodes) = false := decide_eq_false (fun h => hn ⟨f1, h⟩)
      have f1z : decide (1 ≤ nn) = true := decide_eq_true f1
      clear f1 hn f12
      go_upto_region 9 with (go_at_call 44; (with_reducible refine (askNext _ B bl q { s with sent := false } HBd.out HKF.out).mono ?_); rintro e1 wz ⟨rfl, hn1, hn2⟩; have HBz := Aside0.mk hn1; have Uz := Aside0.mk (Ud.out.and hn2); have HRz := Aside0.mk (hn2.block HRd.out (fun e => by rcases e with e | e; exact NG.out.1 e.symm; exact NG.out.2.1 e.symm)); clear hn1 hn2)
      go_wp2_with (first | ((with_reducible refine gate_ (.store 42 (.tmp 4) (.tmp 87)) rfl ?_); refine store_blk rfl 42 _ _ rfl gr 0 [(.int .i64 0), (.int .i64 0), (.int .i64 0), (.slice none 0 0), (.slice none 0 0), (.slice none 0 0)] rfl rfl HRz.out (Nat.le_of_ble_eq_true rfl) (by kernel_rfl) (by rfl) #[(.int .i64 0), (.int .i64 0), (.int .i64 0), (.slice none 0 0), (.slice none 0 0), (.slice none 0 0)] (by rfl) ?_; intro wd9 hnb_ hup_; have HR9 := Aside0.mk hnb_; have HU9 := Aside0.mk hup_; clear hnb_ hup_))
      refine bodyPost_ret (results_ct rfl _ _ gr 42 #[(.int .i64 0), (.int .i64 0), (.int .i64 0), (.slice none 0 0), (.slice none 0 0), (.slice none 0 0)] (0, 0) _ rfl HR9.out Try.underlying42 rfl (by kernel_rfl)) rfl ?_
      rw [HV.out]
      exact ⟨_, _, rfl, Kd.R_nil _ _ _ _ _, Kd.R_nil _ _ _ _ _, HBz.out.keep (HU9.out.kept.2 _ HBz.out.lt.1 NG.out.1) (HU9.out.kept.2 _ HBz.out.lt.2.1 NG.out.2.1), Uz.out.trans HU9.out (fun k hk => Or.inr (by have h3 : k = gr := hk; have := NG.out.2.2.2.2.2; omega))⟩
     case neg =>
      have f1z : decide (1 ≤ nn) = false := decide_eq_false f1
      clear f1 hn f12
      go_upto_region 9 with (go_at_call 44; (with_reducible refine (askNext _ B bl q { s with sent := false } HBd.out HKF.out).mono ?_); rintro e1 wz ⟨rfl, hn1, hn2⟩; have HBz := Aside0.mk hn1; have Uz := Aside0.mk (Ud.out.and hn2); have HRz := Aside0.mk (hn2.block HRd.out (fun e => by rcases e with e | e; exact NG.out.1 e.symm; exact NG.out.2.1 e.symm)); clear hn1 hn2)
      go_wp2_with (first | ((with_reducible refine gate_ (.store 42 (.tmp 4) (.tmp 87)) rfl ?_); refine store_blk rfl 42 _ _ rfl gr 0 [(.int .i64 0), (.int .i64 0), (.int .i64 0), (.slice none 0 0), (.slice none 0 0), (.slice none 0 0)] rfl rfl HRz.out (Nat.le_of_ble_eq_true rfl) (by kernel_rfl) (by rfl) #[(.int .i64 0), (.int .i64 0), (.int .i64 0), (.slice none 0 0), (.slice none 0 0), (.slice none 0 0)] (by rfl) ?_; intro wd9 hnb_ hup_; have HR9 := Aside0.mk hnb_; have HU9 := Aside0.mk hup_; clear hnb_ hup_))
      refine bodyPost_ret (results_ct rfl _ _ gr 42 #[(.int .i64 0), (.int .i64 0), (.int .i64 0), (.slice none 0 0), (.slice none 0 0), (.slice none 0 0)] (0, 0) _ rfl HR9.out Try.underlying42 rfl (by kernel_rfl)) rfl ?_
      rw [HV.out]
      exact ⟨_, _, rfl, Kd.R_nil _ _ _ _ _, Kd.R_nil _ _ _ _ _, HBz.out.keep (HU9.out.kept.2 _ HBz.out.lt.1 NG.out.1) (HU9.out.kept.2 _ HBz.out.lt.2.1 NG.out.2.1), Uz.out.trans HU9.out (fun k hk => Or.inr (by have h3 : k = gr := hk; have := NG.out.2.2.2.2.2; omega))⟩
end Go.Proofs.Ytonedijkgddepaa.P
namespace Go.Proofs.Ytonedijkgddepaa.P
open Go.Sq
open Go.RowKit Go.Proofs.YtonedijkgddepaaW.PrintWords Go.Proofs.YtonedijkgddepaaW.PrintLast Go.Proofs.YtonedijkgddepaaW.PrintMore
attribute [local go_sem] max2_int min2_int max_two min_two max_three min_three max_four min_four   -- for this text's walks alone
set_option linter.unusedVariables false
set_option linter.unusedSimpArgs false
def front_sweeps.f (a0 : Int) : Option (Bool) := if a0 = 2 then (some true) else (some (a0 == 5))
set_option maxHeartbeats 8000000 in
set_option maxRecDepth 100000 in
theorem front_sweeps.calls (a0 : Int) (r : Bool) (w : World) (h : front_sweeps.f a0 = some r) :
  Calls Try.prog 39 #[.int .i64 a0] w fun e w' => e = .returned (.bool r) ∧ Drawn0 w w' := by
 have H : (if a0 = 2 then (some true) else (some (a0 == 5))) = some r := h
 clear h
 by_cases c2 : a0 = 2
 ·rw [if_pos c2] at H
  have c2b0 : (a0 == 2) = true := beq_iff_eq.mpr c2
  have c2b1 : (a0 != 2) = false := bne_eq_false_iff_eq.mpr c2
  clear c2
  obtain rfl := Option.some.inj H
  go_enter Try.func39, Try.ntmps39
  go_wp2
  go_ret
  exact ⟨by first | rfl | (simp; done) | (simp [*]; done), by repeat (first | exact Drawn0.refl _ | apply Drawn0.step)⟩
 ·rw [if_neg c2] at H
  have c2b0 : (a0 == 2) = false := beq_eq_false_iff_ne.mpr c2
  have c2b1 : (a0 != 2) = true := bne_iff_ne.mpr c2
  obtain rfl := Option.some.inj H
  go_enter Try.func39, Try.ntmps39
  go_wp2
  go_ret
  exact ⟨by first | rfl | (simp; done) | (simp [*]; done), by repeat (first | exact Drawn0.refl _ | apply Drawn0.step)⟩
def cmp_isNaN_int.f (a0 : Int) : Option (Bool) := some (a0 != a0)
def cmp_Less_int.f (a0 : Int) (a1 : Int) : Option (Bool) := (cmp_isNaN_int.f a0).bind fun t101 => (if t101 = true then ((cmp_isNaN_int.f a1).bind fun t102 => (if t102 = true then (some (decide (a0 < a1))) else (some true))) else (some (decide (a0 < a1))))
end Go.Proofs.Ytonedijkgddepaa.P
namespace Go.Proofs.Ytonedijkgddepaa.P
open Go.Sq
open Go.RowKit Go.Maps Go.Proofs.YtonedijkgddepaaW.PrintWords Go.Proofs.YtonedijkgddepaaW.PrintLast Go.Proofs.YtonedijkgddepaaW.PrintMore
set_option linter.unusedVariables false
set_option linter.unusedSimpArgs false
structure Ca where
 kind : Int
 queue : Int
 max : Int
 secs : Int
 attempt : ByteArray
 entries : List S106
/-- A client, beside its asker. -/
structure Cl where
 call : Ca
 works : Bool
 started : Bool
 wants : Bool
 at_ : Int
 epoch : Int
 pieces : List S108
 step : Int
 sweep : List Int
 out : List S42
def cliA (BA : Nat) (c : Cl) (v1 v2 v3 v4 : Value) : Array Value := #[(.pointer (some ⟨BA, 0, none⟩)), (.int .i64 c.call.kind), (.int .i64 c.call.queue), (.int .i64 c.call.max), (.int .i64 c.call.secs), (.string c.call.attempt), v1, (.bool c.works), (.bool c.started), (.bool c.wants), (.int .i64 c.at_), (.int .i64 c.epoch), v2, (.int .i64 c.step), v3, v4]
structure CliAt (w : World) (base BC BA bl q : Nat) (a : As) (c : Cl) (v1 v2 v3 v4 : Value) : Prop where
 blk : w.heap[BC]? = some (.cells (cliA BA c v1 v2 v3 v4) 91 (0, 0))
 ask : AskAt w BA bl q a
 r1 : k106.R 106 w base (fun _ => True) v1 c.call.entries
 r2 : k108.R 108 w base (fun _ => True) v2 c.pieces
 r3 : (Kd.int .i64).R 3 w base (fun _ => True) v3 c.sweep
 r4 : k42.R 42 w base (fun _ => True) v4 c.out
 low : base ≤ w.heap.size
theorem R_types2 {α : Type} {d : Kd α} {e base : Nat} {ok : Nat → Prop} {v : Value} {xs : List α} {w w' : World} {S : Nat → Prop} (h : d.R e w base ok v xs) (hu : Upd w w' S) (hS : ∀ k cells q, S k → w.heap[k]? = some (.cells cells q (0, 0)) → q ∈ e :: d.E → False) : d.R e w' base ok v xs :=
 Kd.R_mono (Kd.R_step (Kd.R_bound h) (fun k hk hl => hu.kept.2 k hl (fun hs => by obtain ⟨_, _, _, q, hq, cells, hc⟩ := hk; exact hS k cells q hs hc hq))) (fun _ hk => hk.1)
theorem SA_types {w : World} {B bl q : Nat} {s : As} (h : AskAt w B bl q s) : ∀ k cells t, SA B bl k → w.heap[k]? = some (.cells cells t (0, 0)) → t = 97 := by
 rintro k cells t (rfl | rfl) hk
 ·rw [h.blk] at hk
  injection hk with hk
  injection hk with _ hk
  exact hk.symm
 ·obtain ⟨D, ⟨es, clock, h3, _⟩, _⟩ := h.map
  rw [h3] at hk
  cases hk
theorem CliAt.ne {w : World} {base BC BA bl q : Nat} {a : As} {c : Cl} {v1 v2 v3 v4 : Value} (h : CliAt w base BC BA bl q a c v1 v2 v3 v4) : BC ≠ BA ∧ BC ≠ bl ∧ BC < w.heap.size := by
 refine ⟨blk_ne h.blk h.ask.blk (by decide), fun e => ?_, blk_lt h.blk⟩
 obtain ⟨D, ⟨es, clock, h3, _⟩, _⟩ := h.ask.map
 rw [← e, h.blk] at h3
 cases h3
/-- The asker has done something. -/
theorem CliAt.asked {w w' : World} {base BC BA bl q q' : Nat} {a a' : As} {c : Cl} {v1 v2 v3 v4 : Value} (h : CliAt w base BC BA bl q a c v1 v2 v3 v4) (hu : Upd w w' (SA BA bl)) (ha : AskAt w' BA bl q' a') : CliAt w' base BC BA bl q' a' c v1 v2 v3 v4 := by
 have hn := h.ne
 refine ⟨hu.block h.blk (fun e => by rcases e with e | e; exact hn.1 e; exact hn.2.1 e), ha, R_types2 h.r1 hu ?_, R_types2 h.r2 hu ?_, R_types2 h.r3 hu ?_, R_types2 h.r4 hu ?_, Nat.le_trans h.low hu.kept.1⟩ <;>
 ·intro k cells t hk hc ht
  have := SA_types h.ask k cells t hk hc
  subst this
  revert ht
  decide
theorem CliAt.below {w w' : World} {base BC BA bl q : Nat} {a : As} {c : Cl} {v1 v2 v3 v4 : Value} (h : CliAt w base BC BA bl q a c v1 v2 v3 v4) (hb : Below w.heap.size w w') : CliAt w' base BC BA bl q a c v1 v2 v3 v4 :=
 ⟨blk_below h.blk hb, h.ask.below hb, Kd.R_below h.r1 hb, Kd.R_below h.r2 hb, Kd.R_below h.r3 hb, Kd.R_below h.r4 hb, Nat.le_trans h.low hb.size⟩
/-- A cell of the client's own is written (none of its rows). -/
theorem CliAt.set {w : World} {base BC BA bl q : Nat} {a : As} {c c' : Cl} {v1 v2 v3 v4 : Value} (h : CliAt w base BC BA bl q a c v1 v2 v3 v4) (i : Nat) (u : Value) (he : (cliA BA c v1 v2 v3 v4).setIfInBounds i u = cliA BA c' v1 v2 v3 v4)
  (e1 : c'.call.entries = c.call.entries := by rfl) (e2 : c'.pieces = c.pieces := by rfl) (e3 : c'.sweep = c.sweep := by rfl) (e4 : c'.out = c.out := by rfl) : CliAt (w.setCell ⟨BC, i, none⟩ u) base BC BA bl q a c' v1 v2 v3 v4 := by
 have hn := h.ne
 refine ⟨by rw [← he]; exact blk_set h.blk i u, h.ask.keep (Below.heap_setCell _ ⟨BC, i, none⟩ _ _ hn.1.symm) (Below.heap_setCell _ ⟨BC, i, none⟩ _ _ hn.2.1.symm), ?_, ?_, ?_, ?_, by simpa using h.low⟩
 ·rw [e1]; exact Kd.R_set h.r1 h.blk (by decide) i u
 ·rw [e2]; exact Kd.R_set h.r2 h.blk (by decide) i u
 ·rw [e3]; exact Kd.R_set h.r3 h.blk (by decide) i u
 ·rw [e4]; exact Kd.R_set h.r4 h.blk (by decide) i u
/-- A block of another type is written. -/
theorem CliAt.far {w w' : World} {base BC BA bl q : Nat} {a : As} {c : Cl} {v1 v2 v3 v4 : Value} (h : CliAt w base BC BA bl q a c v1 v2 v3 v4) {g : Nat} (hu : Upd w w' (fun k => k = g)) {cs : Array Value} {T : Nat} (hg : w.heap[g]? = some (.cells cs T (0, 0))) (hT : T ∉ [91, 97, 106, 108, 3, 42, 115, 9, 35]) : CliAt w' base BC BA bl q a c v1 v2 v3 v4 := by
 have n1 : BC ≠ g := blk_ne h.blk hg (fun e => hT (by rw [← e]; decide))
 have n2 : BA ≠ g := blk_ne h.ask.blk hg (fun e => hT (by rw [← e]; decide))
 have n3 : bl ≠ g := fun e => by
  obtain ⟨D, ⟨es, clock, h3, _⟩, _⟩ := h.ask.map
  rw [e, hg] at h3
  cases h3
 have ht : ∀ (L : List Nat), (∀ x ∈ L, x ∈ [91, 97, 106, 108, 3, 42, 115, 9, 35]) → ∀ k cells q, k = g → w.heap[k]? = some (.cells cells q (0, 0)) → q ∈ L → False := by
  intro L hL k cells q hk hc hq
  subst hk
  rw [hg] at hc
  injection hc with hc
  injection hc with _ hc
  subst hc
  exact hT (hL _ hq)
 exact ⟨hu.block h.blk n1, h.ask.keep (hu.kept.2 _ h.ask.lt.1 n2) (hu.kept.2 _ h.ask.lt.2.1 n3), R_types2 h.r1 hu (ht _ (by decide)), R_types2 h.r2 hu (ht _ (by decide)), R_types2 h.r3 hu (ht _ (by decide)), R_types2 h.r4 hu (ht _ (by decide)), Nat.le_trans h.low hu.kept.1⟩
theorem CliAt.mono {w : World} {base BC BA bl q q' : Nat} {a : As} {c : Cl} {v1 v2 v3 v4 : Value} (h : CliAt w base BC BA bl q a c v1 v2 v3 v4) (hq : q ≤ q') : CliAt w base BC BA bl q' a c v1 v2 v3 v4 := ⟨h.blk, h.ask.mono hq, h.r1, h.r2, h.r3, h.r4, h.low⟩
/-- The client's blocks. -/
def SC (BC BA bl : Nat) : Nat → Prop := fun k => k = BC ∨ SA BA bl k
set_option maxHeartbeats 4000000 in
set_option maxRecDepth 100000 in
theorem cliNobody (w : World) (base BC BA bl q : Nat) (a : As) (c : Cl) (v1 v2 v3 v4 : Value) (h : CliAt w base BC BA bl q a c v1 v2 v3 v4) (hi : a.id ≠ 0) :
  Calls Try.prog 35 #[.pointer (some ⟨BC, 0, none⟩)] w fun e' w' => e' = .returned (.bool false) ∧ w' = w := by
 have H := Aside0.mk h
 have HI := Aside0.mk hi
 have HB := Aside0.mk h.blk
 clear h hi
 have a0 : w.cell? ⟨BC, 0, none⟩ = some (.pointer (some ⟨BA, 0, none⟩)) := (blk_cell HB.out 0).trans rfl
 go_enter Try.func35, Try.ntmps35
 go_wp2_with (go_at_call 50; (with_reducible refine (askNoneOk _ BA bl q a H.out.ask HI.out).mono ?_); rintro e1 w1 ⟨rfl, rfl⟩)
 go_ret
 exact ⟨rfl, rfl⟩
set_option maxHeartbeats 4000000 in
set_option maxRecDepth 100000 in
theorem cliBusy (w : World) (base BC BA bl q : Nat) (a : As) (c : Cl) (v1 v2 v3 v4 : Value) (h : CliAt w base BC BA bl q a c v1 v2 v3 v4) (hi : a.id ≠ 0) :
  Calls Try.prog 16 #[.pointer (some ⟨BC, 0, none⟩)] w fun e' w' => e' = .returned (.bool c.works) ∧ w' = w := by
 have H := Aside0.mk h
 have HI := Aside0.mk hi
 have HB := Aside0.mk h.blk
 clear h hi
 have a7 : w.cell? ⟨BC, 7, none⟩ = some (.bool c.works) := (blk_cell HB.out 7).trans rfl
 go_enter Try.func16, Try.ntmps16
 go_wp2_with (go_at_call 35; (with_reducible refine (cliNobody _ base BC BA bl q a c v1 v2 v3 v4 H.out HI.out).mono ?_); rintro e1 w1 ⟨rfl, rfl⟩)
 go_ret
 exact ⟨rfl, rfl⟩
def newCl : Cl := ⟨⟨0, 0, 0, 0, ⟨#[]⟩, []⟩, false, false, false, 0, 0, [], 0, [], []⟩
set_option maxHeartbeats 4000000 in
set_option maxRecDepth 100000 in
theorem newClient (w : World) (id nodes retry : Int) :
  Calls Try.prog 7 #[.int .i64 id, .int .i64 nodes, .int .i64 retry] w fun e' w' => (confOk id nodes retry ∧ ∃ BC BA bl, e' = .returned (.tuple #[.pointer (some ⟨BC, 0, none⟩), .int .i64 0]) ∧ w.heap.size ≤ BC ∧ w.heap.size ≤ BA ∧ w.heap.size ≤ bl ∧ CliAt w' w.heap.size BC BA bl 0 (newAs id nodes retry) newCl (.slice none 0 0) (.slice none 0 0) (.slice none 0 0) (.slice none 0 0) ∧ Below w.heap.size w w') ∨ (¬ confOk id nodes retry ∧ e' = .returned (.tuple #[.pointer none, .int .i64 2]) ∧ w' = w) := by
 by_cases hc : confOk id nodes retry
 ·have HC := Aside0.mk hc
  clear hc
  go_enter Try.func7, Try.ntmps7
  go_wp2_with (go_at_call 18; (with_reducible refine (newAskerC _ id nodes retry).mono ?_); rintro e1 w1 (⟨_, BA, bl, rfl, h1, h2, h3, h4⟩ | ⟨hn, _⟩); rotate_left; exact (hn HC.out).elim; have H3 := Aside0.mk h3; have H4 := Aside0.mk h4; have H12 := Aside0.mk (And.intro h1 h2); clear h1 h2 h3 h4)
  go_ret2
  have hs := H4.out.size
  refine Or.inl ⟨HC.out, w1.heap.size, BA, bl, rfl, hs, H12.out.1, H12.out.2, ⟨heap_alloc_new w1 (.cells (cliA BA newCl (.slice none 0 0) (.slice none 0 0) (.slice none 0 0) (.slice none 0 0)) 91), H3.out.below (below_alloc (Below.refl _ _) _), Kd.R_nil _ _ _ _ _, Kd.R_nil _ _ _ _ _, Kd.R_nil _ _ _ _ _, Kd.R_nil _ _ _ _ _, Nat.le_trans hs (by simp)⟩, below_alloc H4.out _⟩
 ·have HC := Aside0.mk hc
  clear hc
  go_enter Try.func7, Try.ntmps7
  go_wp2_with (go_at_call 18; (with_reducible refine (newAskerC _ id nodes retry).mono ?_); rintro e1 w1 (⟨hn, _⟩ | ⟨_, rfl, rfl⟩); exact (HC.out hn).elim)
  go_ret2
  exact Or.inr ⟨HC.out, rfl, rfl⟩
end Go.Proofs.Ytonedijkgddepaa.P
namespace Go.Proofs.Ytonedijkgddepaa.P
open Go.Sq
open Go.RowKit Go.Maps Go.Proofs.YtonedijkgddepaaW.PrintWords Go.Proofs.YtonedijkgddepaaW.PrintLast Go.Proofs.YtonedijkgddepaaW.PrintMore
set_option linter.unusedVariables false
set_option linter.unusedSimpArgs false
def sweepsB (k : Int) : Bool := (k == 2) || (k == 5)
theorem sweepsC (w : World) (k : Int) : Calls Try.prog 39 #[.int .i64 k] w fun e' w' => e' = .returned (.bool (sweepsB k)) ∧ Below w.heap.size w w' := by
 refine (front_sweeps.calls k (sweepsB k) w ?_).mono fun e w' h => ⟨h.1, h.2.below⟩
 unfold front_sweeps.f sweepsB
 by_cases h : k = 2
 ·rw [if_pos h, h]; rfl
 ·rw [if_neg h, beq_eq_false_iff_ne.2 h]; rfl
def numB (n : Int) : Prop := 0 ≤ n ∧ n ≤ 1099511627776
def callOk (x : Ca) : Prop := (1 ≤ x.kind ∧ x.kind ≤ 6) ∧ (sweepsB x.kind = true → x.entries.length = 0) ∧ (sweepsB x.kind = false → 1 ≤ x.entries.length ∧ x.entries.length ≤ 10) ∧ numB x.queue ∧ numB x.max ∧ numB x.secs
open Classical in
noncomputable def startV (c : Cl) (x : Ca) : Int × Cl := if c.works = true then (17, c) else (if callOk x then (0, { c with call := x, works := true, started := true, step := 0, sweep := [], out := [], wants := (c.epoch == 0) || sweepsB x.kind }) else (2, c))
end Go.Proofs.Ytonedijkgddepaa.P
