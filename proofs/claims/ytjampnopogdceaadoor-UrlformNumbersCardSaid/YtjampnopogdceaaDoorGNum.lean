/- urlform.Numbered, by hand, in the print's own form. No conditions. -/
import Derived.Test.YtjampnopogdceaaDoorGParse
import Derived.Test.YtjampnopogdceaaDoorGAtoi
import Derived.Test.YtjampnopogdceaaDoorGLayC
import Derived.Test.YtjampnopogdceaaDoorP15
import Derived.Maps.OwnSet
import Derived.Lib.SlKeysI
import Derived.WalkSpells
namespace Go.Proofs.YtjampnopogdceaaDoor.P
open Go.RowKit Go.Lib Go.Shelf Go.Maps Go.Sort Go.Proofs.YtjampnopogdceaaDoorW.PrintWords Go.Proofs.YtjampnopogdceaaDoorW.PrintLast Go.Proofs.YtjampnopogdceaaDoorW.PrintMore
set_option linter.unusedVariables false
set_option linter.unusedSimpArgs false

def RH (v : Value) : Option (DataW Value × List MemPlace) := some (.held v, [])
theorem law3 : Keyed Tryd.prog 3 := int_keyed Tryd.underlying3
def numAt (x : S45) : Int × Nat := atoi (cut x.f0.data.toList [46]).1
def numGo : List S45 → List Int → Option (List Int)
  | [], ks => some ks
  | x :: r, ks => if (numAt x).2 ≠ 0 ∨ (numAt x).1 < 1 ∨ 1000 < (numAt x).1 then none else numGo r (ks ++ [(numAt x).1])
def numsOf (ks : List Int) : List Int := ((List.range 1000).map (fun n : Nat => (n : Int) + 1)).filter (fun n => decide (n ∈ ks))
def numbered (u : List S45) : List Int × Int := match numGo u [] with
  | none => ([], 5)
  | some ks => (numsOf ks, 0)
def urlform_Numbered.f (k : Nat) (l0 : List S45) (a1 : ByteArray) : Option (List Int × Int) :=
  (urlform_Under.f k l0 a1).bind fun u => if u.length ≤ 1000000 ∧ (∀ x ∈ u, x.f0.size ≤ 1000000) then some (numbered u) else none
theorem urlform_Numbered.mono : ∀ l0 a1 k, LeO (urlform_Numbered.f k l0 a1) (urlform_Numbered.f (k + 1) l0 a1) := by
  intro l0 a1 k
  unfold urlform_Numbered.f
  exact LeO.bind (urlform_Under.mono l0 a1 k) (fun _ => LeO.refl _)
theorem numsOf_pair (ks : List Int) : (numsOf ks).Pairwise (fun x y => x < y) := by
  unfold numsOf
  refine List.Pairwise.filter _ ?_
  rw [List.pairwise_map]
  exact (List.pairwise_lt_range (n := 1000)).imp (fun h => by omega)
theorem numsOf_mem (ks : List Int) (hks : ∀ k ∈ ks, 1 ≤ k ∧ k ≤ 1000) (x : Int) : x ∈ numsOf ks ↔ x ∈ ks := by
  unfold numsOf
  rw [List.mem_filter, decide_eq_true_iff]
  constructor
  · exact fun h => h.2
  · intro h
    have hx := hks x h
    exact ⟨List.mem_map.2 ⟨(x - 1).toNat, List.mem_range.2 (by omega), by omega⟩, h⟩
theorem sort_nums (ks ss : List Int) (hks : ∀ k ∈ ks, 1 ≤ k ∧ k ≤ 1000) (hp : (numsOf ks).Perm ss) : ss.mergeSort (fun x y => decide (x ≤ y)) = numsOf ks := by
  refine List.Perm.eq_of_pairwise (le := fun a b : Int => a ≤ b) (fun a b _ _ h1 h2 => by omega) ?_ ((numsOf_pair ks).imp (fun h => by omega)) ((List.mergeSort_perm ss _).trans hp.symm)
  have := List.pairwise_mergeSort (le := fun x y : Int => decide (x ≤ y)) (fun a b c h1 h2 => by simp at *; omega) (fun a b => by simp; omega) ss
  exact this.imp (fun h => by simpa using h)
theorem lit_ne {a b : Int} (h : a ≠ b) : (Lit.int .i64 a) ≠ (Lit.int .i64 b) := fun e => h (by injection e)
/-- what the map holds -/
structure SetOf (D : DataW Value) (ks : List Int) : Prop where
  isMap : IsMap D
  keys : ∀ k : Int, Maps.has D (.int .i64 k) = true ↔ k ∈ ks
theorem SetOf.start : SetOf (.map []) [] := ⟨isMap_empty, fun k => by simp [Maps.has]⟩
theorem SetOf.put {D : DataW Value} {ks : List Int} (h : SetOf D ks) (k : Int) (d : DataW Value) : SetOf (D.put (.int .i64 k) d) (ks ++ [k]) := by
  refine ⟨h.isMap.put _ _, fun j => ?_⟩
  by_cases e : j = k
  · subst e; rw [has_put_same h.isMap (by trivial)]; simp
  · rw [has_put_other (lit_ne e), h.keys]; simp [e]
theorem numsOf_nodup (ks : List Int) : (numsOf ks).Nodup := (numsOf_pair ks).imp (fun h => by omega)
theorem sortsA (m : Nat) : AnyZI.SortsIn Tryd.prog Tryd.sortedA_ren Fence.wide m :=
  ⟨fun blk off cap ss W hH hblk hsz => callsIn_wide.2 (AnyM.slices_Sort_int Tryd.sortA blk off cap ss W hH hblk hsz),
   fun p cap W => callsIn_wide.2 (AnyM.slices_Sort_int_none Tryd.sortA p cap W)⟩
theorem keysC (mb : Option Nat) (W : World) : Calls Tryd.prog 37 #[.map mb] W fun e w' => e = .returned (.func (.func 50) #[] #[.pointer (some ⟨W.heap.size, 0, none⟩)]) ∧ w' = W.alloc (.cells #[.map mb] 74) :=
  (callsIn_wide (n := 5)).1 (AnyZI.keys_in Tryd.keysA Fence.wide 5 trivial rfl mb W)
set_option maxHeartbeats 1000000 in
theorem sortedC (b nn : Nat) (D0 : DataW Value) (w : World) (hown : w.ownsMap Tryd.prog 3 RH b nn D0) (hmax : Maps.size D0 ≤ maxLen) (hbytes : Maps.size D0 * 8 ≤ 140737488355328) :
    Calls Tryd.prog 36 #[.func (.func 50) #[] #[.pointer (some ⟨w.heap.size, 0, none⟩)]] (w.alloc (.cells #[.map (some b)] 74)) fun e w' => ∃ (v : Value) (ss : List Int), e = .returned v ∧ ss.Perm (intKeys D0) ∧
      w'.ownsRow (w.alloc (.cells #[.map (some b)] 74)).heap.size 3 1 v ss.length ((ss.mergeSort (fun x y => decide (x ≤ y))).map encZ) ∧ (v = .slice none 0 0 ↔ ss = []) ∧ Below (w.alloc (.cells #[.map (some b)] 74)).heap.size (w.alloc (.cells #[.map (some b)] 74)) w' := by
  refine (callsIn_wide (n := 5)).1 ?_
  have hbl := hown.lt
  have hseq : SeqGives Fence.wide 2 Tryd.prog 50 #[.pointer (some ⟨w.heap.size, 0, none⟩)] encZ (fun ss => ss.Perm (intKeys D0)) (Maps.size D0) (w.alloc (.cells #[.map (some b)] 74)) :=
    AnyZI.keys_gives (ρ := Tryd.keysA_ren) { Tryd.keysA with } Fence.wide _ trivial rfl (by omega) w.heap.size b nn D0 _ (by simp) (by simp) (by
      obtain ⟨es, clock, hb, Ft, hs, hD⟩ := hown
      exact ⟨es, clock, (Below.heap_alloc _ _ b hbl).trans hb, Ft, hs, hD⟩)
  have cS := AnyZI.sorted_in Tryd.sortedA Fence.wide 5 trivial trivial trivial trivial rfl (by omega) (sortsA _) (enters_of Tryd.func49 (by kernel_rfl) rfl) 50 #[.pointer (some ⟨w.heap.size, 0, none⟩)] trivial (enters_of Tryd.func50 (by kernel_rfl) rfl) _ _ hmax hbytes _ hseq
  change CallsIn _ _ Tryd.prog 36 _ _ _ at cS
  exact cS
theorem sortedN (b nn : Nat) (D0 : DataW Value) (ks : List Int) (w : World) (hown : w.ownsMap Tryd.prog 3 RH b nn D0) (hS : SetOf D0 ks) (hks : ∀ k ∈ ks, 1 ≤ k ∧ k ≤ 1000) :
    Calls Tryd.prog 36 #[.func (.func 50) #[] #[.pointer (some ⟨w.heap.size, 0, none⟩)]] (w.alloc (.cells #[.map (some b)] 74)) fun e w' => ∃ (v : Value), e = .returned v ∧ Kd.R (Kd.int .i64) 3 w' w.heap.size (fun _ => True) v (numsOf ks) ∧ Below w.heap.size w w' := by
  have p1 : (numsOf ks).Perm (intKeys D0) := CollectedI.perm (left := fun _ => false) ⟨numsOf_nodup ks, fun x => by rw [numsOf_mem ks hks, ← hS.keys x]; simp⟩ hown law3 Tryd.underlying3 (fun _ => rfl)
  have hl : (numsOf ks).length ≤ 1000 := by unfold numsOf; exact Nat.le_trans (List.length_filter_le _ _) (by simp)
  have hsz : Maps.size D0 ≤ 1000 := by
    have := p1.length_eq
    have h2 : (intKeys D0).length = Maps.size D0 := by
      obtain ⟨es, rfl⟩ := hS.isMap
      show (es.map _).length = es.length
      simp
    omega
  refine (sortedC b nn D0 w hown (by unfold maxLen; omega) (by omega)).mono ?_
  rintro e w' ⟨v, ss, rfl, hP, hrow, _, hb⟩
  have he := sort_nums ks ss hks (p1.trans hP.symm)
  rw [he] at hrow
  have hlen : ss.length = (numsOf ks).length := by rw [← he]; exact (List.length_mergeSort ss).symm
  rw [hlen] at hrow
  refine ⟨v, rfl, Kd.R_lower (Kd.R_of_own hrow (fun _ _ => trivial)) (by simp), ((Below.refl _ w).alloc (Nat.le_refl _) _).trans (hb.mono (by simp))⟩
theorem owns_below {P : Program} {k b n : Nat} {R : Value → Option (DataW Value × List MemPlace)} {w w' : World} {D : DataW Value} (h : w.ownsMap P k R b n D) (hb : Below w.heap.size w w') : w'.ownsMap P k R b n D := by
  have hlt := h.lt
  obtain ⟨es, clock, h1, h2⟩ := h
  exact ⟨es, clock, (hb.block b hlt).trans h1, h2⟩
theorem grown_refl (w : World) (row : Option Nat) : w.grownBy w row := ⟨rfl, rfl, rfl, Nat.le_refl _, fun _ _ _ => rfl⟩
theorem grown_of_below {w w' : World} (h : Below w.heap.size w w') (row : Option Nat) : w.grownBy w' row := ⟨h.os, h.tape, h.output, h.size, fun k hk _ => h.block k hk⟩
theorem grown_drewN {a w : World} {row : Option Nat} (h : a.grownBy w row) (n : Nat) : a.grownBy (w.drewN n) row := ⟨h.os, h.tape, h.output, h.size, h.block⟩
set_option maxHeartbeats 4000000 in
set_option maxRecDepth 100000 in
theorem urlform_Numbered.calls (k : Nat) (A0 : Option Addr) (c0 : Nat) (l0 : List S45) (a1 : ByteArray) (r1 : List Int) (r2 : Int) (w : World) (hr0 : Kd.C k45 w A0 l0.length l0) (hc0 : l0.length ≤ c0) (h : urlform_Numbered.f k l0 a1 = some (r1, r2)) :
    Calls Tryd.prog 17 #[.slice A0 l0.length c0, .string a1] w fun e w' => ∃ v0_ : Value, e = .returned (.tuple #[v0_, .int .i64 r2]) ∧ Kd.R (Kd.int .i64) 3 w' w.heap.size (fun _ => True) v0_ r1 ∧ Below w.heap.size w w' := by
  obtain ⟨u, hu, h⟩ := Option.bind_eq_some_iff.1 h
  split at h
  case isFalse => cases h
  rename_i hb
  obtain ⟨hul, hus⟩ := hb
  replace h := Option.some.inj h
  have hm0 := World.ownsMap_made w Tryd.prog 3 RH
  have HU := Aside0.mk (urlform_Under.calls k A0 c0 l0 a1 u (w.alloc (.map #[] 0)) (Kd.C_alloc hr0 _) hc0 hu)
  have HUL := Aside0.mk hul
  have HUS := Aside0.mk hus
  have HM0 := Aside0.mk hm0
  have HH := Aside0.mk h
  have hmm := @run_makeMap Tryd.prog
  clear hr0 hc0 hu hul hus hm0 h
  go_enter Tryd.func17, Tryd.ntmps17
  go_wp2_with (first
    | (go_at_call 20; (with_reducible refine HU.out.mono ?_); rintro e w2 ⟨v0, rfl, hR, hb⟩; obtain ⟨A, c, rfl, hcu, _⟩ := Kd.R_reads hR; have RU := Aside0.mk (Kd.R_bound hR); have B2 := Aside0.mk hb; have M2 := Aside0.mk (HM0.out); clear hR hb))
  have B0 := Aside0.mk (((Below.refl w.heap.size w).alloc (Nat.le_refl _) (.map #[] 0)).trans (B2.out.mono (by simp)))
  have MW := Aside0.mk (owns_below M2.out B2.out)
  have hl2 := Aside0.mk (show w.heap.size < w2.heap.size from MW.out.lt)
  have KK := Aside0.mk (show ∀ w', w2.grownBy w' (some w.heap.size) → Kd.C k45 w' A u.length u from fun w' hg => by
    obtain ⟨A', c', e, _, hC⟩ := Kd.R_reads (Kd.R_grown RU.out hg (fun k hk e => by
      have h1 := hk.2.1
      have h2 : k = w.heap.size := Option.some.inj e
      simp at h1; omega))
    injection e with e1 e2 e3
    subst e1
    exact hC)
  generalize hG : numGo u [] = G
  have HG := Aside0.mk hG
  clear hG RU
  go_loopg [19] u.length (fun kq v19 w' => ∃ (i q : Nat) (ks : List Int) (D : DataW Value), v19 = .int .i64 i ∧ i ≤ u.length ∧ u.length - i ≤ kq ∧ Aside0 (w2.grownBy w' (some w.heap.size)) ∧ Aside0 (w'.ownsMap Tryd.prog 3 RH w.heap.size q D) ∧ Aside0 (q ≤ i) ∧ Aside0 (SetOf D ks) ∧ Aside0 (∀ k ∈ ks, 1 ≤ k ∧ k ≤ 1000) ∧ Aside0 (numGo (u.drop i) ks = G))
  case atStart => exact ⟨0, 0, [], .map [], rfl, Nat.zero_le _, by omega, ⟨grown_refl _ _⟩, MW, ⟨Nat.le_refl _⟩, ⟨SetOf.start⟩, ⟨by simp⟩, HG⟩
  case round =>
    obtain ⟨i, q, ks, D, rfl, hi, hg, HGR, HM, HQ, HS, HKS, HE⟩ := hrel
    have BW := Aside0.mk (B0.out.grown HGR.out B0.out.size (fun k hk => by cases hk; exact Nat.le_refl _))
    by_cases hlt : i < u.length
    · have hw1 := wA i (by have := HUL.out; omega)
      have hC := KK.out wr HGR.out
      obtain ⟨ad, hA, hx0, hx1⟩ := at_T45 hC (i : Int) (by omega) (by omega)
      subst hA
      have hrd : rd_T45 u (i : Int) = u[i]'hlt := by unfold rd_T45; simp [hlt]
      rw [hrd, Int.toNat_natCast] at hx0 hx1
      have hE := HE.out
      rw [List.drop_eq_getElem_cons hlt, numGo] at hE
      have hsz := HUS.out _ (List.getElem_mem hlt)
      generalize hq : u[i]'hlt = x at hx0 hx1 hE hsz
      obtain ⟨x0, x1⟩ := x
      dsimp only at hx0 hx1 hE hsz
      unfold numAt at hE
      dsimp only at hE
      have hcut := fun w => cutC x0 46 w (by omega)
      have hat := fun w => atoiC ⟨(cut x0.data.toList [46]).1.toArray⟩ w
      rw [show (⟨(cut x0.data.toList [46]).1.toArray⟩ : ByteArray).data.toList = (cut x0.data.toList [46]).1 by simp] at hat
      generalize (cut x0.data.toList [46]).1 = cl at hcut hat hE
      generalize (cut x0.data.toList [46]).2.1 = cr at hcut
      generalize (cut x0.data.toList [46]).2.2 = cb at hcut
      generalize (⟨cl.toArray⟩ : ByteArray) = cs at hcut hat
      obtain ⟨nv, ev, hne⟩ : ∃ nv ev, atoi cl = (nv, ev) := ⟨_, _, rfl⟩
      rw [hne] at hat hE
      dsimp only at hat hE
      have HE2 := Aside0.mk hE
      have HCUT := Aside0.mk hcut
      have HAT := Aside0.mk hat
      clear hE hq hrd hC hcut hat hne hsz
      have p1 : (0 : Int) ≤ (i : Int) := by omega
      have q1 : (i : Int) < (u.length : Int) := by omega
      by_cases h1 : ev = 0
      · subst h1
        by_cases h2 : nv < 1
        · have hE := HE2.out
          rw [if_pos (Or.inr (Or.inl h2))] at hE
          subst hE
          clear HE2
          have hr : (r1, r2) = ([], 5) := by rw [← HH.out]; unfold numbered; rw [HG.out]
          obtain ⟨rfl, rfl⟩ := Prod.mk.inj hr
          clear hr HH
          go_wp2_with (first
            | ((with_reducible refine gate_dst (N := 8) rfl ?_); refine box_event ?hg (N := 8) ?hd (cs := #[.string (⟨#[]⟩ : ByteArray), .string (⟨#[]⟩ : ByteArray)]) (t := 45) ?hr ?_; (case hd => rfl); (case hg => rfl); (case hr => first | (go_simp; done) | (go_simp; rfl)); intro gb hgb w10 hbox hbb; have BX := Aside0.mk hbox; have BB := Aside0.mk hbb; have hz0 : w10.cell? ⟨gb, 0, none⟩ = some (.string (⟨#[]⟩ : ByteArray)) := (blk_cell BX.out 0).trans rfl; have hz1 : w10.cell? ⟨gb, 1, none⟩ = some (.string (⟨#[]⟩ : ByteArray)) := (blk_cell BX.out 1).trans rfl; have hf0 := blk_frozen BX.out 0; have hf1 := blk_frozen BX.out 1; have HGB := Aside0.mk hgb; clear hbox hbb hgb)
            | (go_at_call 34; (with_reducible refine (HCUT.out _).mono ?_); rintro e w3 ⟨rfl, nd, rfl⟩)
            | (go_at_call 35; (with_reducible refine (HAT.out _).mono ?_); rintro e w4 ⟨rfl, hw⟩; rw [hw]; clear hw))
          go_ret2
          exact ⟨_, rfl, Kd.R_nil _ _ _ _ _, Words_below_drewN (((BW.out.trans (BB.out.mono BW.out.size)).setCell (p := ⟨gb, 0, none⟩) (by rw [HGB.out]; exact BW.out.size) _).setCell (p := ⟨gb, 1, none⟩) (by rw [HGB.out]; exact BW.out.size) _) nd⟩
        · by_cases h3 : 1000 < nv
          · have hE := HE2.out
            rw [if_pos (Or.inr (Or.inr h3))] at hE
            subst hE
            have h2i : (1 : Int) ≤ nv := by omega
            clear HE2 h2
            have hr : (r1, r2) = ([], 5) := by rw [← HH.out]; unfold numbered; rw [HG.out]
            obtain ⟨rfl, rfl⟩ := Prod.mk.inj hr
            clear hr HH
            go_wp2_with (first
              | ((with_reducible refine gate_dst (N := 8) rfl ?_); refine box_event ?hg (N := 8) ?hd (cs := #[.string (⟨#[]⟩ : ByteArray), .string (⟨#[]⟩ : ByteArray)]) (t := 45) ?hr ?_; (case hd => rfl); (case hg => rfl); (case hr => first | (go_simp; done) | (go_simp; rfl)); intro gb hgb w10 hbox hbb; have BX := Aside0.mk hbox; have BB := Aside0.mk hbb; have hz0 : w10.cell? ⟨gb, 0, none⟩ = some (.string (⟨#[]⟩ : ByteArray)) := (blk_cell BX.out 0).trans rfl; have hz1 : w10.cell? ⟨gb, 1, none⟩ = some (.string (⟨#[]⟩ : ByteArray)) := (blk_cell BX.out 1).trans rfl; have hf0 := blk_frozen BX.out 0; have hf1 := blk_frozen BX.out 1; have HGB := Aside0.mk hgb; clear hbox hbb hgb)
              | (go_at_call 34; (with_reducible refine (HCUT.out _).mono ?_); rintro e w3 ⟨rfl, nd, rfl⟩)
              | (go_at_call 35; (with_reducible refine (HAT.out _).mono ?_); rintro e w4 ⟨rfl, hw⟩; rw [hw]; clear hw))
            go_ret2
            exact ⟨_, rfl, Kd.R_nil _ _ _ _ _, Words_below_drewN (((BW.out.trans (BB.out.mono BW.out.size)).setCell (p := ⟨gb, 0, none⟩) (by rw [HGB.out]; exact BW.out.size) _).setCell (p := ⟨gb, 1, none⟩) (by rw [HGB.out]; exact BW.out.size) _) nd⟩
          · have hE := HE2.out
            rw [if_neg (by rintro (h | h | h); exact h rfl; exact h2 h; exact h3 h)] at hE
            have h2i : (1 : Int) ≤ nv := by omega
            have h3i : nv ≤ 1000 := by omega
            have HE3 := Aside0.mk hE
            have HNV := Aside0.mk (show 1 ≤ nv ∧ nv ≤ 1000 from ⟨h2i, h3i⟩)
            have HKEY := Aside0.mk (keyOf_int_mk (P := Tryd.prog) (k := 3) Tryd.underlying3 (show (Lit.int .i64 nv).wf = true by simp [Lit.wf]; simp [IntKind.min, IntKind.bits]; omega))
            clear HE2 h2 h3 hE
            go_wp2_with (first
              | ((with_reducible refine gate_dst (N := 8) rfl ?_); refine box_event ?hg (N := 8) ?hd (cs := #[.string (⟨#[]⟩ : ByteArray), .string (⟨#[]⟩ : ByteArray)]) (t := 45) ?hr ?_; (case hd => rfl); (case hg => rfl); (case hr => first | (go_simp; done) | (go_simp; rfl)); intro gb hgb w10 hbox hbb; have BX := Aside0.mk hbox; have BB := Aside0.mk hbb; have hz0 : w10.cell? ⟨gb, 0, none⟩ = some (.string (⟨#[]⟩ : ByteArray)) := (blk_cell BX.out 0).trans rfl; have hz1 : w10.cell? ⟨gb, 1, none⟩ = some (.string (⟨#[]⟩ : ByteArray)) := (blk_cell BX.out 1).trans rfl; have hf0 := blk_frozen BX.out 0; have hf1 := blk_frozen BX.out 1; have HGB := Aside0.mk hgb; clear hbox hbb hgb)
              | (go_at_call 34; (with_reducible refine (HCUT.out _).mono ?_); rintro e w3 ⟨rfl, nd, rfl⟩)
              | (go_at_call 35; (with_reducible refine (HAT.out _).mono ?_); rintro e w4 ⟨rfl, hw⟩; rw [hw]; clear hw)
              | (at_mapUpdate; have BX2 := Aside0.mk (Words_below_drewN ((BB.out.setCell (p := ⟨gb, 0, none⟩) (Nat.le_of_eq HGB.out.symm) (.string x0)).setCell (p := ⟨gb, 1, none⟩) (Nat.le_of_eq HGB.out.symm) (.string x1)) nd); refine wpList_mapUpdate_own _ rfl _ _ _ 74 rfl 3 4 law3 Tryd.underlying74 RH w.heap.size q D rfl (owns_below HM.out BX2.out) (by have := HQ.out; have := HUL.out; unfold maxLen; omega) _ _ (.int .i64 nv) rfl rfl HKEY.out (.held (.bool true)) [] rfl ?_; intro w5 hM5 hg5; have G5 := Aside0.mk ((HGR.out.trans (grown_of_below BX2.out (some w.heap.size))).trans hg5); have M5 := Aside0.mk hM5; clear hM5 hg5 BX2))
            go_roundg (u.length - (i + 1))
            case measure => omega
            case rel => exact ⟨i + 1, q + 1, ks ++ [nv], D.put (.int .i64 nv) (.held (.bool true)), by first | rfl | go_num | (rw [hw1]; rfl), hlt, Nat.le_refl _, G5, M5, ⟨Nat.succ_le_succ HQ.out⟩, ⟨HS.out.put nv _⟩, ⟨by intro k hk; rcases List.mem_append.1 hk with hk | hk; exact HKS.out k hk; rw [List.mem_singleton.1 hk]; exact HNV.out⟩, HE3⟩
      · have e1 : ((ev : Int) == 0) = false := by simpa using h1
        have e2 : ¬ ((ev : Int) = 0) := by omega
        have hE := HE2.out
        rw [if_pos (Or.inl h1)] at hE
        subst hE
        clear HE2 h1
        have hr : (r1, r2) = ([], 5) := by rw [← HH.out]; unfold numbered; rw [HG.out]
        obtain ⟨rfl, rfl⟩ := Prod.mk.inj hr
        clear hr HH
        go_wp2_with (first
          | ((with_reducible refine gate_dst (N := 8) rfl ?_); refine box_event ?hg (N := 8) ?hd (cs := #[.string (⟨#[]⟩ : ByteArray), .string (⟨#[]⟩ : ByteArray)]) (t := 45) ?hr ?_; (case hd => rfl); (case hg => rfl); (case hr => first | (go_simp; done) | (go_simp; rfl)); intro gb hgb w10 hbox hbb; have BX := Aside0.mk hbox; have BB := Aside0.mk hbb; have hz0 : w10.cell? ⟨gb, 0, none⟩ = some (.string (⟨#[]⟩ : ByteArray)) := (blk_cell BX.out 0).trans rfl; have hz1 : w10.cell? ⟨gb, 1, none⟩ = some (.string (⟨#[]⟩ : ByteArray)) := (blk_cell BX.out 1).trans rfl; have hf0 := blk_frozen BX.out 0; have hf1 := blk_frozen BX.out 1; have HGB := Aside0.mk hgb; clear hbox hbb hgb)
          | (go_at_call 34; (with_reducible refine (HCUT.out _).mono ?_); rintro e w3 ⟨rfl, nd, rfl⟩)
          | (go_at_call 35; (with_reducible refine (HAT.out _).mono ?_); rintro e w4 ⟨rfl, hw⟩; rw [hw]; clear hw))
        go_ret2
        exact ⟨_, rfl, Kd.R_nil _ _ _ _ _, Words_below_drewN (((BW.out.trans (BB.out.mono BW.out.size)).setCell (p := ⟨gb, 0, none⟩) (by rw [HGB.out]; exact BW.out.size) _).setCell (p := ⟨gb, 1, none⟩) (by rw [HGB.out]; exact BW.out.size) _) nd⟩
    · obtain rfl : i = u.length := by omega
      have hE := HE.out
      rw [List.drop_eq_nil_of_le (Nat.le_refl _), numGo] at hE
      subst hE
      have hr : (r1, r2) = (numsOf ks, 0) := by rw [← HH.out]; unfold numbered; rw [HG.out]
      obtain ⟨rfl, rfl⟩ := Prod.mk.inj hr
      clear hr HH
      have HSO := Aside0.mk (sortedN w.heap.size q D ks wr HM.out HS.out HKS.out)
      go_wp2_with (first
        | (go_at_call 37; (with_reducible refine (keysC _ _).mono ?_); rintro e w6 ⟨rfl, hw⟩; rw [hw]; clear hw)
        | (go_at_call 36; (with_reducible refine HSO.out.mono ?_); rintro e w7 ⟨v, rfl, hR, hb⟩; have R7 := Aside0.mk hR; have B7 := Aside0.mk hb; clear hR hb))
      go_ret2
      exact ⟨_, rfl, Kd.R_lower R7.out BW.out.size, BW.out.trans (B7.out.mono BW.out.size)⟩
end Go.Proofs.YtjampnopogdceaaDoor.P
