/- slices.SortFunc at []api.Range with place.sorted's comparison, by the library's contract, in the print's own form. No conditions. -/
import Derived.Test.YtonedijkgddepaaP0
import Derived.Test.YtonedijkgddepaaSortRow
import Derived.Test.YtonedijkgddepaaGLay
import Derived.Shelf.SlSortCmp.NoneTotal
namespace Go.Proofs.Ytonedijkgddepaa.P
open Go.RowKit Go.Proofs.YtonedijkgddepaaW.PrintWords Go.Proofs.YtonedijkgddepaaW.PrintLast Go.Proofs.YtonedijkgddepaaW.PrintMore
set_option linter.unusedVariables false
set_option linter.unusedSimpArgs false

/-- Ranges whose Lo is small: of these the difference is a comparison. -/
structure SmallR where
 v : S35
 lo : 0 ≤ v.f0
 hi : v.f0 ≤ 65536
instance : Inhabited SmallR := ⟨⟨⟨0, 0⟩, by decide, by decide⟩⟩
def smallB (x : S35) : Bool := decide (0 ≤ x.f0 ∧ x.f0 ≤ 65536)
def toSmall (x : S35) : SmallR := if h : 0 ≤ x.f0 ∧ x.f0 ≤ 65536 then ⟨x, h.1, h.2⟩ else default
def encR (x : SmallR) : List Value := [.int .i64 x.v.f0, .int .i64 x.v.f1]
def cfR (x y : SmallR) : Int := x.v.f0 - y.v.f0
def sortR (l : List S35) : Array SmallR := Go.Sort.pdq (ltOf cfR) (l.map toSmall).toArray 0 (l.map toSmall).toArray.size (Go.Lib.bitLen (l.map toSmall).toArray.size) true true
/-- What the sort makes of a row, if each Lo is small. -/
def slices_SortFunc_Range.f (l0 : List S35) (a1 : Unit) : Option (List S35) := if l0.all smallB = true ∧ l0.length ≤ 4294967296 then some ((sortR l0).toList.map SmallR.v) else none

theorem toSmall_val (l : List S35) (h : l.all smallB = true) : (l.map toSmall).map SmallR.v = l := by
 rw [List.map_map]
 conv => rhs; rw [← List.map_id l]
 apply List.map_congr_left
 intro x hx
 have h1 := List.all_eq_true.1 h x hx
 unfold smallB at h1
 simp only [decide_eq_true_eq] at h1
 simp [toSmall, h1]

theorem ltR (x y : SmallR) : ltOf cfR x y = decide (x.v.f0 < y.v.f0) := by
 unfold ltOf cfR
 rw [decide_eq_decide]
 omega
theorem swoR : Go.Sort.SWO (ltOf cfR) where
 irrefl x := by rw [ltR]; simp
 trans x y z h1 h2 := by rw [ltR] at *; simp at *; omega
 ntrans x y z h1 h2 := by rw [ltR] at *; simp at *; omega

theorem permR (l : List S35) : (sortR l).toList.Perm (l.map toSmall) ∧ ∀ i j, i < j → j < (sortR l).size → ((sortR l)[i]!).v.f0 ≤ ((sortR l)[j]!).v.f0 := by
 have h := Go.Sort.pdq_sorts (ltOf cfR) swoR (l.map toSmall).toArray 0 (l.map toSmall).toArray.size (Go.Lib.bitLen (l.map toSmall).toArray.size) true true (Nat.zero_le _) (Nat.le_refl _) (Or.inl rfl)
 obtain ⟨⟨hs, _, hp⟩, ho⟩ := h
 change (sortR l).size = _ at hs
 change ((sortR l).extract _ _).toList.Perm _ at hp
 constructor
 ·have e1 : ((sortR l).extract 0 (l.map toSmall).toArray.size).toList = (sortR l).toList := by rw [← hs]; simp
  rw [e1] at hp
  have e2 : ((l.map toSmall).toArray.extract 0 (l.map toSmall).toArray.size).toList = l.map toSmall := by
   rw [Array.extract_size]
  rw [e2] at hp
  exact hp
 ·intro i j hij hj
  have := ho i j (Nat.zero_le _) hij (by rw [← hs]; exact hj)
  change ltOf cfR (sortR l)[j]! (sortR l)[i]! = false at this
  rw [ltR] at this
  simp at this
  exact this

set_option maxHeartbeats 1000000 in
theorem sort_lit (x y : SmallR) (W : World) : Calls Try.prog 81 #[.agg #[.int .i64 x.v.f0, .int .i64 x.v.f1], .agg #[.int .i64 y.v.f0, .int .i64 y.v.f1]] W fun e w' => e = .returned (.int .i64 (cfR x y)) ∧ ∃ q os', w' = Go.Sort.grow (W.drewN q) os' := by
 obtain ⟨x, hx0, hx1⟩ := x
 obtain ⟨y, hy0, hy1⟩ := y
 unfold cfR
 simp only
 go_enter Try.func81, Try.ntmps81
 go_wp2
 go_ret
 exact ⟨rfl, 0, _, by rw [Go.Sort.alloc_eq_grow, Go.Sort.alloc_eq_grow, Go.Sort.grow_grow]; rfl⟩

theorem cmpR (blk off size : Nat) (w : World) : CmpLays Try.prog 81 #[] encR 2 cfR blk off size w := fun _ _ _ _ x y => sort_lit x y _

theorem MR : ∀ (w : World) (base : Nat) (ok : Nat → Prop) (x : SmallR) (cs : List Value), k35.M w base ok x.v cs ↔ cs = encR x := fun w base ok x cs =>
 ⟨fun h => k35_openM h, fun h => by rw [h]; exact k35_mkM w base ok x.v⟩

set_option maxHeartbeats 1000000 in
theorem slices_SortFunc_Range.calls (P0_ : Nat → Prop) (u9000_ : Value) (l0 : List S35) (a1 : Unit) (r : List S35) (w0 w : World) (hB : Below w0.heap.size w0 w) (ho0 : Kd.R k35 35 w w0.heap.size P0_ u9000_ l0) (h : slices_SortFunc_Range.f l0 a1 = some r) :
  Calls Try.prog 80 #[u9000_, .func (.func 81) #[] #[]] w fun e w' => e = .returned (.tuple #[]) ∧ Kd.R k35 35 w' w0.heap.size (fun k_ => (P0_ k_ ∨ w.heap.size ≤ k_)) u9000_ r ∧ Below w0.heap.size w0 w' ∧ Kept w w' (fun k_ => P0_ k_) := by
 unfold slices_SortFunc_Range.f at h
 split at h
 case isFalse => cases h
 case isTrue hc =>
 obtain ⟨hall, hlen⟩ := hc
 have hv := toSmall_val l0 hall
 cases h
 have hkeep := ho0
 obtain ⟨h0, inner, ho, hrr⟩ := ho0
 rcases ho.2 with ⟨hnil, hz⟩ | ⟨g, cap, cur, hs, hg, hb, hn, _⟩
 ·subst hnil
  have hl : l0 = [] := List.eq_nil_of_length_eq_zero hz
  subst hl
  refine (AnyF.slices_SortFunc_none (L := { Try.sortR with }) none 0 (.func (.func 81) #[] #[]) w).mono ?_
  rintro e w' ⟨rfl, rfl⟩
  have e0 : (sortR []).toList.map SmallR.v = [] := by
   have h := (permR []).1.length_eq
   have h2 : (sortR []).toList = [] := List.eq_nil_of_length_eq_zero h
   rw [h2]
   rfl
  rw [e0]
  exact ⟨rfl, Kd.R_mono hkeep (fun _ hk => .inl hk), hB, Kept.refl _ _⟩
 ·subst hs
  generalize hd : (l0.map toSmall).toArray = d at *
  have hsz : d.size = l0.length := by rw [← hd]; simp
  have hdl : d.toList.map SmallR.v = l0 := by rw [← hd]; exact hv
  have hK : Kd.R k35 35 w w0.heap.size P0_ (.slice (some ⟨g, 0, none⟩) d.size cap) (d.toList.map SmallR.v) := by rw [hdl, hsz]; exact hkeep
  have eg : ∀ args w, (callFunc 81 args).run Try.prog w = .ok (.enter 81 args) w := enters_of Try.func81 (by kernel_rfl) rfl
  have hH : Go.Sort.HoldsK encR 2 w g 0 d := Ytonedijkgddepaa.SortRow.R_holds (K := k35) MR (fun _ => rfl) (by decide) hK
  have hcon := AnyQ.slices_SortFunc_eq Try.sortR 2 Try.isAgg35 Try.sizeOf35 encR (fun _ => rfl) (fun x v hv => by simp [encR] at hv; rcases hv with rfl | rfl <;> rfl) cfR swoR 81 #[] g 0 cap d w eg (cmpR g 0 d.size w) hH (blk_lt hb) (by omega)
  rw [hsz] at hcon
  refine hcon.mono ?_
  rintro e w' ⟨rfl, n', os, rfl⟩
  have hss : sortR l0 = Go.Sort.pdq (ltOf cfR) d 0 d.size (Go.Lib.bitLen d.size) true true := by unfold sortR; rw [hd]
  have hps : (sortR l0).size = d.size := by
   have := (permR l0).1.length_eq
   simpa [hsz] using this
  have hgr := Ytonedijkgddepaa.SortRow.grown_sortWorldK (K := k35) (enc := encR) (w := w) (g := g) (d' := sortR l0) n' os
  have hR := Ytonedijkgddepaa.SortRow.R_sorted (K := k35) MR (fun _ => rfl) hK hps n' os
  rw [hsz] at hR
  rw [hss] at hR hgr ⊢
  rw [hsz] at hR hgr ⊢
  exact ⟨rfl, Kd.R_mono hR (fun _ hk => .inl hk), hB.grown hgr hB.size (fun k hk => by cases hk; exact hg), hgr.size, fun i hi hne => hgr.block i hi (fun hk => hne (by injection hk with hk; subst hk; exact h0 _ rfl))⟩
end Go.Proofs.Ytonedijkgddepaa.P
