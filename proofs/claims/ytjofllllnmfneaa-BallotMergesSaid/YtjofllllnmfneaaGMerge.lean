/- ballot.Merge, by hand, in the print's own form: of all votes, for each slot that of the greatest ballot, rising by slots. No conditions. -/
import Derived.Test.YtjofllllnmfneaaGMergeA
import Derived.Test.YtjofllllnmfneaaGLay
import Derived.Deep.LoopGhost
import Derived.Maps.OwnSet
namespace Go.Proofs.Ytjofllllnmfneaa.P
open Go.RowKit Go.Maps Go.Sort Go.Shelf Go.Proofs.YtjofllllnmfneaaW.PrintWords Go.Proofs.YtjofllllnmfneaaW.PrintLast Go.Proofs.YtjofllllnmfneaaW.PrintMore
set_option linter.unusedVariables false
set_option linter.unusedSimpArgs false

theorem g_info5 : (Try.prog.info? 5).map (fun i => (i.zero, i.size, i.bytes)) = some (some (.int .u8 0), 1, 1) := by kernel_rfl
theorem g_info30 : (Try.prog.info? 30).map (fun i => (i.zero, i.size, i.bytes)) = some (some (.agg #[(.int .i64 0), (.int .i64 0), (.slice none 0 0)]), 3, 40) := by kernel_rfl
theorem law3 : Keyed Try.prog 3 := int_keyed Try.underlying3
theorem zero30 (w : World) : (zeroValue 30).run Try.prog w = .ok zeroV w := by kernel_rfl

theorem look_ok_held {P : Program} (w : World) {ops : Array Oper} {rest : List Oper} {o : Oper} {a : Act} {Q : Exit → Act → World → Prop}
    (hg : o.guard = none) (m x : Operand) (t : TypeId) (hop : o.op = Op.lookup t m x true) (k e : TypeId) (K : Keyed P k) (ht : P.underlying t = some (.map k e)) (z : Value) (hz : (zeroValue e).run P w = .ok z w) (b n : Nat) (D : DataW Value)
    (hm : a.eval m = .map (some b)) (hown : w.ownsMap P k RH b n D) (key : Value) (kl : Lit) (hx : a.eval x = key) (hkey : keyOf P k key = some kl) (V : Value) (hat : D.atKey kl (.held z) = .held V) (ok : Bool) (hok : Maps.has D kl = ok)
    (hK : wpList P ops Q rest (a.put o.dst (.tuple #[V, .bool ok])) w) : wpList P ops Q (o :: rest) a w :=
  wpList_lookup_own_ok w hg m x t hop k e K ht RH hz (.held z) [] rfl b n D hm hown key kl hx hkey (fun v ps hv => by
    rw [hat] at hv
    unfold RH at hv
    injection hv with hv
    injection hv with hv _
    injection hv with hv
    subst hv
    rw [hok]
    exact hK)
theorem look_held {P : Program} (w : World) {ops : Array Oper} {rest : List Oper} {o : Oper} {a : Act} {Q : Exit → Act → World → Prop}
    (hg : o.guard = none) (m x : Operand) (t : TypeId) (hop : o.op = Op.lookup t m x false) (k e : TypeId) (K : Keyed P k) (ht : P.underlying t = some (.map k e)) (z : Value) (hz : (zeroValue e).run P w = .ok z w) (b n : Nat) (D : DataW Value)
    (hm : a.eval m = .map (some b)) (hown : w.ownsMap P k RH b n D) (key : Value) (kl : Lit) (hx : a.eval x = key) (hkey : keyOf P k key = some kl) (V : Value) (hat : D.atKey kl (.held z) = .held V)
    (hK : wpList P ops Q rest (a.put o.dst V) w) : wpList P ops Q (o :: rest) a w := by
  refine wpList_plain hg fun K' hK' => ?_
  obtain ⟨v, ps, hrun, hv⟩ := hown.lookup K ht hz (zd := .held z) (zp := []) rfl hkey
  rw [hat] at hv
  unfold RH at hv
  injection hv with hv
  injection hv with hv _
  injection hv with hv
  subst hv
  unfold Oper.wp
  simp [execOp, hop, hm, hx, hrun, Result.andThen]
  exact hK' _ _ hK

theorem take_flat {α : Type} (l0 : List (List α)) (i : Nat) (hi : i < l0.length) : (l0.take (i + 1)).flatten = (l0.take i).flatten ++ l0.getD i [] := by
  rw [List.take_add_one, List.flatten_append, List.getElem?_eq_getElem hi, List.getD_eq_getElem?_getD, List.getElem?_eq_getElem hi]
  simp
theorem flat_le {α : Type} (l0 : List (List α)) (i : Nat) : (l0.take i).flatten.length ≤ l0.flatten.length := by
  have h : l0.flatten = (l0.take i).flatten ++ (l0.drop i).flatten := by rw [← List.flatten_append, List.take_append_drop]
  rw [h, List.length_append]; omega
theorem take_snoc {α : Type} (l : List α) (j : Nat) (z : α) (hj : j < l.length) : l.take (j + 1) = l.take j ++ [l.getD j z] := by
  rw [List.take_add_one, List.getElem?_eq_getElem hj, List.getD_eq_getElem?_getD, List.getElem?_eq_getElem hj]
  simp
theorem mergeV_append (a b : List S30) : mergeV (a ++ b) = b.foldl (fun m v => putV v m) (mergeV a) := by unfold mergeV; rw [List.foldl_append]
theorem rdT_getD (l : List S30) (k : Nat) : rd_T30 l (k : Int) = l.getD k z30 := by unfold rd_T30; simp
theorem rdL_getD (l : List (List S30)) (k : Nat) : rd_L4 l (k : Int) = l.getD k [] := by unfold rd_L4; simp

/-! the keys, sorted: the library's contracts -/
theorem sortsA (m : Nat) : AnyZI.SortsIn Try.prog Try.sortedA_ren Fence.wide m :=
  ⟨fun blk off cap ss W hH hblk hsz => callsIn_wide.2 (AnyM.slices_Sort_int Try.sortA blk off cap ss W hH hblk hsz),
   fun p cap W => callsIn_wide.2 (AnyM.slices_Sort_int_none Try.sortA p cap W)⟩
theorem keysC (mb : Option Nat) (W : World) : Calls Try.prog 32 #[.map mb] W fun e w' => e = .returned (.func (.func 40) #[] #[.pointer (some ⟨W.heap.size, 0, none⟩)]) ∧ w' = W.alloc (.cells #[.map mb] 52) :=
  (callsIn_wide (n := 5)).1 (AnyZI.keys_in Try.keysA Fence.wide 5 trivial rfl mb W)
set_option maxHeartbeats 1000000 in
theorem sortedC (b nn : Nat) (D0 : DataW Value) (w : World) (hown : w.ownsMap Try.prog 3 RH b nn D0) (hmax : Maps.size D0 ≤ maxLen) (hbytes : Maps.size D0 * 8 ≤ 140737488355328) :
    Calls Try.prog 31 #[.func (.func 40) #[] #[.pointer (some ⟨w.heap.size, 0, none⟩)]] (w.alloc (.cells #[.map (some b)] 52)) fun e w' => ∃ (v : Value) (ss : List Int), e = .returned v ∧ ss.Perm (intKeys D0) ∧
      w'.ownsRow (w.alloc (.cells #[.map (some b)] 52)).heap.size 3 1 v ss.length ((ss.mergeSort (fun x y => decide (x ≤ y))).map encZ) ∧ (v = .slice none 0 0 ↔ ss = []) ∧ Below (w.alloc (.cells #[.map (some b)] 52)).heap.size (w.alloc (.cells #[.map (some b)] 52)) w' := by
  refine (callsIn_wide (n := 5)).1 ?_
  have hbl := hown.lt
  have hseq : SeqGives Fence.wide 2 Try.prog 40 #[.pointer (some ⟨w.heap.size, 0, none⟩)] encZ (fun ss => ss.Perm (intKeys D0)) (Maps.size D0) (w.alloc (.cells #[.map (some b)] 52)) :=
    AnyZI.keys_gives (ρ := Try.keysA_ren) { Try.keysA with } Fence.wide _ trivial rfl (by omega) w.heap.size b nn D0 _ (by simp) (by simp) (by
      obtain ⟨es, clock, hb, Ft, hs, hD⟩ := hown
      exact ⟨es, clock, (Below.heap_alloc _ _ b hbl).trans hb, Ft, hs, hD⟩)
  have cS := AnyZI.sorted_in Try.sortedA Fence.wide 5 trivial trivial trivial trivial rfl (by omega) (sortsA _) (enters_of Try.func39 (by kernel_rfl) rfl) 40 #[.pointer (some ⟨w.heap.size, 0, none⟩)] trivial (enters_of Try.func40 (by kernel_rfl) rfl) _ _ hmax hbytes _ hseq
  change CallsIn _ _ Try.prog 31 _ _ _ at cS
  exact cS

theorem own_slice {w : World} {base e size n : Nat} {v : Value} {xs : List Value} (h : w.ownsRow base e size v n xs) : ∃ A c, v = .slice A n c := by
  rcases h.2 with ⟨rfl, rfl⟩ | ⟨g, cap, cur, rfl, _⟩
  · exact ⟨none, 0, rfl⟩
  · exact ⟨_, cap, rfl⟩
theorem sortedM (b nn : Nat) (D0 : DataW Value) (w0 w : World) (M : List S30) (hown : w.ownsMap Try.prog 3 RH b nn D0) (hV : RelV w0 D0 M) (hmax : nn ≤ 1000000000) :
    Calls Try.prog 31 #[.func (.func 40) #[] #[.pointer (some ⟨w.heap.size, 0, none⟩)]] (w.alloc (.cells #[.map (some b)] 52)) fun e w' => ∃ A c, e = .returned (.slice A M.length c) ∧
      w'.ownsRow w.heap.size 3 1 (.slice A M.length c) M.length (M.map (fun x => .int .i64 x.f0)) ∧ Below w.heap.size w w' := by
  have hsz := hown.size_le
  refine (sortedC b nn D0 w hown (by unfold maxLen; omega) (by omega)).mono ?_
  rintro e w' ⟨v, ss, rfl, hS, hrow, _, hb⟩
  have hk := keys_sorted hV hown law3 Try.underlying3 hS
  have hl : ss.length = M.length := by
    have h1 := congrArg List.length hk
    simpa using h1
  rw [hk, hl, List.map_map] at hrow
  obtain ⟨A, c, rfl⟩ := own_slice hrow
  exact ⟨A, c, rfl, ownsRow_base_a hrow (by simp), ((Below.refl _ w).alloc (Nat.le_refl _) _).trans (hb.mono (by simp))⟩

/-- slices.Clone: the same bytes, in a row of its own. -/
theorem cloneC (A : Option Addr) (c : Nat) (xs : List Int) (w : World) (hr : (Kd.int .u8).C w A xs.length xs) (hc : xs.length ≤ c) (hb : xs.length ≤ 1000000) :
    Calls Try.prog 33 #[.slice A xs.length c] w fun e w' => ∃ v', e = .returned v' ∧ (Kd.int .u8).R 5 w' w.heap.size (fun _ => True) v' xs ∧ Below w.heap.size w w' := by
  have q22 : ∀ (w : World) (a : Option Addr) (n c n' c' : Nat), (binOp .eql 28 (.slice a n c) (.slice none n' c')).run Try.prog w = .ok (.bool a.isNone) w := fun w a n c n' c' => Lib.run_eql_slice_nil w _ _ a n c n' c' Try.underlying28
  cases A with
  | none =>
    have h0 : xs = [] := by
      by_cases h : 0 < xs.length
      · obtain ⟨ad, e, _⟩ := hr.2.2 h; cases e
      · exact List.eq_nil_of_length_eq_zero (by omega)
    subst h0
    clear hr
    go_enter Try.func33, Try.ntmps33
    go_wp2
    go_ret
    exact ⟨_, rfl, Kd.R_nil _ _ _ _ _, Below.refl _ _⟩
  | some ad =>
    have HR := Aside0.mk hr
    clear hr
    go_enter Try.func33, Try.ntmps33
    go_wp2_with (at_builtin; refine Kd.R_append_row (w0 := w) (Value.int .u8) 0 w.heap.size rfl _ _ 28 5 (.int .u8 0) 1 rfl Try.underlying28 g_info5 rfl (by omega) _ [] xs (some ad) xs.length c (fun _ => True) rfl rfl (fun _ _ => trivial) (Kd.R_of_own (World.ownsRow_made w #[] 0 (Nat.le_refl _) (Nat.zero_le _) (by simp)) (fun _ _ => trivial)) (Kd.C_below HR.out (below_alloc (Below.refl _ _) _)) (below_alloc (Below.refl _ _) _) (by simp) (by simp; omega) ?_; intro v1 w1 h1 h2 h3 h4)
    go_wp2
    go_ret
    rw [List.nil_append] at h1
    exact ⟨_, rfl, h1, h2⟩

theorem owns_below {P : Program} {k b n : Nat} {R : Value → Option (DataW Value × List MemPlace)} {w w' : World} {D : DataW Value} (h : w.ownsMap P k R b n D) (hb : Below w.heap.size w w') : w'.ownsMap P k R b n D := by
  have hlt := h.lt
  obtain ⟨es, clock, h1, h2⟩ := h
  exact ⟨es, clock, (hb.block b hlt).trans h1, h2⟩
theorem mem_fold_putV (l : List S30) : ∀ M, Rise M → ∀ a ∈ l.foldl (fun m v => putV v m) M, a ∈ l ∨ a ∈ M := by
  induction l with
  | nil => intro M _ a h; exact .inr h
  | cons x l ih =>
    intro M hM a h
    rcases ih _ (rise_putV x M hM) a h with h | h
    · exact .inl (List.mem_cons_of_mem _ h)
    · rcases (mem_putV x M hM a).1 h with ⟨h, _⟩ | ⟨rfl, _⟩ | ⟨h, _⟩
      · exact .inr h
      · exact .inl List.mem_cons_self
      · exact .inr h
theorem mem_mergeV {l : List S30} {a : S30} (h : a ∈ mergeV l) : a ∈ l := by
  rcases mem_fold_putV l [] rise_nil a h with h | h
  · exact h
  · cases h
/-- A row of keys, read. -/
theorem key_at {w : World} {base : Nat} {A : Option Addr} {c : Nat} {M : List S30} (h : w.ownsRow base 3 1 (.slice A M.length c) M.length (M.map (fun x => .int .i64 x.f0))) {i : Nat} (hi : i < M.length) :
    ∃ ad, A = some ad ∧ w.cell? (ad.add i) = some (.int .i64 (rd_T30 M (i : Int)).f0) := by
  rcases h.2 with ⟨e, h0⟩ | ⟨g, cap, cur, e, _⟩
  · omega
  · injection e with e1 _ _
    subst e1
    refine ⟨_, rfl, World.ownsRow.cells h rfl i _ ?_⟩
    rw [List.getElem?_map, List.getElem?_eq_getElem hi, rdT_getD, List.getD_eq_getElem?_getD, List.getElem?_eq_getElem hi]
    rfl

set_option maxHeartbeats 8000000 in
set_option maxRecDepth 100000 in
theorem ballot_Merge.calls (A0 : Option Addr) (c0 : Nat) (l0 : List (List (S30))) (r : List (S30)) (w : World) (hr0 : Kd.C (Kd.slice 30 k30) w A0 l0.length l0) (hc0 : l0.length ≤ c0) (h : ballot_Merge.f l0 = some r) :
    Calls Try.prog 11 #[.slice A0 l0.length c0] w fun e w' => ∃ v0_ : Value, e = .returned (v0_) ∧ Kd.S k30 30 w' w.heap.size (fun _ => True) v0_ r ∧ Below w.heap.size w w' := by
  have HR0 := Aside0.mk hr0
  have HC0 := Aside0.mk hc0
  obtain ⟨hn, hw, hw2, hr⟩ : l0.flatten.length ≤ 1000000000 ∧ (∀ v ∈ l0.flatten, (Lit.int .i64 v.f0).wf = true) ∧ (∀ v ∈ l0.flatten, v.f2.length ≤ 1000000) ∧ mergeV l0.flatten = r := by
    unfold ballot_Merge.f at h
    by_cases h1 : l0.flatten.length ≤ 1000000000
    · rw [if_pos h1] at h
      by_cases h2 : l0.flatten.all (fun v => (Lit.int .i64 v.f0).wf && decide (v.f2.length ≤ 1000000)) = true
      · rw [if_pos h2] at h
        have h3 := List.all_eq_true.1 h2
        simp only [Bool.and_eq_true, decide_eq_true_eq] at h3
        exact ⟨h1, fun v hv => (h3 v hv).1, fun v hv => (h3 v hv).2, Option.some.inj h⟩
      · rw [if_neg h2] at h; cases h
    · rw [if_neg h1] at h; cases h
  have hbig0 : l0.length ≤ 9223372036854775807 := hr0.2.1
  have HN := Aside0.mk hn
  have HW := Aside0.mk hw
  have HW2 := Aside0.mk hw2
  have HR := Aside0.mk hr
  clear hr0 hc0 h hn hw hw2 hr
  have hmm := @run_makeMap Try.prog
  go_enter Try.func11, Try.ntmps11
  go_wp2
  have HB0 := Aside0.mk (show Below w.heap.size w (w.alloc (Obj.map #[] 0)) from (Below.refl _ w).alloc (Nat.le_refl _) _)
  have HM0 := Aside0.mk (World.ownsMap_made w Try.prog 3 RH)
  go_loopg [17] l0.length (fun kq v17 w' => ∃ (i : Nat) (D : DataW Value), v17 = .int .i64 i ∧ i ≤ l0.length ∧ l0.length - i ≤ kq ∧ Aside0 (w'.ownsMap Try.prog 3 RH w.heap.size (l0.take i).flatten.length D) ∧ Aside0 (RelV w D (mergeV (l0.take i).flatten)) ∧ Aside0 (Below w.heap.size w w'))
  case atStart => exact ⟨0, .map [], rfl, Nat.zero_le _, by omega, ⟨by simpa using HM0.out⟩, ⟨by simpa [mergeV] using RelV.start w⟩, HB0⟩
  case round =>
    clear HB0 HM0 hmm
    obtain ⟨i, D, rfl, hi, hg, HM, HV, HB⟩ := hrel
    by_cases hlt : i < l0.length
    · have hltz : (i : Int) < (l0.length : Int) := by omega
      obtain ⟨ad, A1, c1, rfl, hx, hc1, hr1⟩ := at_L4 HR0.out (i : Int) (by omega) (by omega)
      have hxw := (HB.out.cell (World.block_lt_of_cell? w _ hx)).trans hx
      obtain ⟨l, hl⟩ : ∃ l, l = rd_L4 l0 (i : Int) := ⟨_, rfl⟩
      rw [← hl] at hxw hx hc1 hr1
      have HR1 := Aside0.mk hr1
      have HL := Aside0.mk hl
      have HC1 := Aside0.mk hc1
      clear hx hr1 hc1 hl
      simp only [Int.toNat_natCast] at hxw
      have hlen : (l0.take i).flatten.length + l.length ≤ 1000000000 := by
        have h1 := flat_le l0 (i + 1)
        rw [take_flat l0 i hlt, List.length_append, ← rdL_getD, ← HL.out] at h1
        have h2 := HN.out
        omega
      have hwf : ∀ j : Nat, j < l.length → (Lit.int .i64 (rd_T30 l (j : Int)).f0).wf = true := by
        intro j hj
        refine HW.out _ (List.mem_flatten.2 ⟨l, ?_, ?_⟩)
        · rw [HL.out, rdL_getD, List.getD_eq_getElem?_getD, List.getElem?_eq_getElem hlt]; exact List.getElem_mem hlt
        · rw [rdT_getD, List.getD_eq_getElem?_getD, List.getElem?_eq_getElem hj]; exact List.getElem_mem hj
      have hbig : l.length ≤ 9223372036854775807 := by omega
      have HWF := Aside0.mk hwf
      have HLEN := Aside0.mk hlen
      clear hwf hlen
      go_wp2
      go_loopg [23] l.length (fun kq v23 w' => ∃ (j : Nat) (D : DataW Value), v23 = .int .i64 j ∧ j ≤ l.length ∧ l.length - j ≤ kq ∧ Aside0 (w'.ownsMap Try.prog 3 RH w.heap.size ((l0.take i).flatten.length + j) D) ∧ Aside0 (RelV w D ((l.take j).foldl (fun m v => putV v m) (mergeV (l0.take i).flatten))) ∧ Aside0 (Below w.heap.size w w'))
      case atStart => exact ⟨0, D, rfl, Nat.zero_le _, by omega, ⟨by simpa using HM.out⟩, ⟨by simpa using HV.out⟩, HB⟩
      case round =>
        clear HM HV HB
        clear D
        obtain ⟨j, D, rfl, hj, hg2, HM, HV, HB⟩ := hrel
        by_cases hltj : j < l.length
        · have hltjz : (j : Int) < (l.length : Int) := by omega
          obtain ⟨ad2, A2, c2, rfl, hx0, hx1, hx2, hc2, hr2⟩ := at_T30 HR1.out (j : Int) (by omega) (by omega)
          have hv : Vt w (rd_T30 l (j : Int)) (.agg #[.int .i64 (rd_T30 l (j : Int)).f0, .int .i64 (rd_T30 l (j : Int)).f1, .slice A2 (rd_T30 l (j : Int)).f2.length c2]) := ⟨A2, c2, rfl, hc2, hr2⟩
          have hw0 := HWF.out j hltj
          have hkey := keyOf_int_mk (P := Try.prog) Try.underlying3 hw0
          replace hx0 := (HB.out.cell (World.block_lt_of_cell? w _ hx0)).trans hx0
          replace hx1 := (HB.out.cell (World.block_lt_of_cell? w _ hx1)).trans hx1
          replace hx2 := (HB.out.cell (World.block_lt_of_cell? w _ hx2)).trans hx2
          simp only [Int.toNat_natCast] at hx0 hx1 hx2
          have HTK := Aside0.mk (take_snoc l j z30 hltj)
          rw [← rdT_getD] at HTK
          obtain ⟨x, hX⟩ : ∃ x, x = rd_T30 l (j : Int) := ⟨_, rfl⟩
          rw [← hX] at hx0 hx1 hx2 hv hw0 hkey HTK
          clear hX hr2 hc2
          have HVt := Aside0.mk hv
          have HK := Aside0.mk hkey
          clear hv hkey hw0
          have hbn : (l0.take i).flatten.length + j < maxLen := by have := HLEN.out; unfold maxLen; omega
          obtain ⟨N, hN⟩ : ∃ N, N = (l0.take i).flatten.length + j := ⟨_, rfl⟩
          rw [← hN] at hbn HM
          have HN2 := Aside0.mk hN
          clear hN
          have HBN := Aside0.mk hbn
          clear hbn
          by_cases hhas : Maps.has D (.int .i64 x.f0) = true
          · obtain ⟨y, hy, hyx⟩ := (HV.out.keys x.f0).1 hhas
            obtain ⟨V, hat, A3, c3, rfl, hc3, hr3⟩ := HV.out.vals y hy
            rw [hyx] at hat
            have HAT := Aside0.mk hat
            have HNO := Aside0.mk hhas
            have HY := Aside0.mk hy
            clear hhas hat hc3 hr3 hy
            by_cases hlow : y.f1 < x.f1
            · have hbest : ∀ z ∈ (List.foldl (fun m v => putV v m) (mergeV (l0.take i).flatten) (l.take j)), z.f0 = x.f0 → z.f1 < x.f1 := by
                intro z hz e
                rw [rise_inj HV.out.rise hz HY.out (e.trans hyx.symm)]; exact hlow
              have HBE := Aside0.mk hbest
              have hlowb : decide (y.f1 < x.f1) = true := decide_eq_true hlow
              clear hbest hyx
              go_wp2_with (first
                | (at_lookup; refine look_ok_held _ rfl _ _ 52 rfl 3 30 law3 Try.underlying52 zeroV (zero30 _) w.heap.size N D rfl (HM.out.alloc _) _ (.int .i64 x.f0) rfl HK.out _ HAT.out true HNO.out ?_)
                | (at_mapUpdate; refine wpList_mapUpdate_own _ rfl _ _ _ 52 rfl 3 30 law3 Try.underlying52 RH w.heap.size N D rfl ((HM.out.alloc _).alloc _) HBN.out _ _ (.int .i64 x.f0) rfl rfl HK.out (.held (.agg #[.int .i64 x.f0, .int .i64 x.f1, .slice A2 x.f2.length c2])) [] rfl ?_; intro w1 hown1 hgrow1))
              go_roundg (l.length - (j + 1))
              case measure => omega
              case rel =>
                refine ⟨j + 1, D.put (.int .i64 x.f0) (.held (.agg #[.int .i64 x.f0, .int .i64 x.f1, .slice A2 x.f2.length c2])), by go_num, by omega, by omega, ⟨?_⟩, ⟨?_⟩, ⟨?_⟩⟩
                · rw [← Nat.add_assoc, ← HN2.out]; exact hown1
                · rw [HTK.out, List.foldl_append]
                  exact HV.out.put HVt.out (HBE.out)
                · exact ((HB.out.alloc HB.out.size _).alloc (by simp; have := HB.out.size; omega) _).grown hgrow1 (by simp; have := HB.out.size; omega) (fun k hk => by cases hk; exact Nat.le_refl _)
            · have hlowb : decide (y.f1 < x.f1) = false := decide_eq_false hlow
              have HYX := Aside0.mk hyx
              clear hyx
              go_wp2_with (first
                | (at_lookup; refine look_ok_held _ rfl _ _ 52 rfl 3 30 law3 Try.underlying52 zeroV (zero30 _) w.heap.size N D rfl (HM.out.alloc _) _ (.int .i64 x.f0) rfl HK.out _ HAT.out true HNO.out ?_)
                | (at_mapUpdate; refine wpList_mapUpdate_own _ rfl _ _ _ 52 rfl 3 30 law3 Try.underlying52 RH w.heap.size N D rfl ((HM.out.alloc _).alloc _) HBN.out _ _ (.int .i64 x.f0) rfl rfl HK.out (.held (.agg #[.int .i64 x.f0, .int .i64 x.f1, .slice A2 x.f2.length c2])) [] rfl ?_; intro w1 hown1 hgrow1))
              go_roundg (l.length - (j + 1))
              case measure => omega
              case rel =>
                refine ⟨j + 1, D, by go_num, by omega, by omega, ⟨?_⟩, ⟨?_⟩, ⟨?_⟩⟩
                · rw [← Nat.add_assoc, ← HN2.out]; exact ((HM.out.alloc _).alloc _).mono (Nat.le_succ _)
                · rw [HTK.out, List.foldl_append]
                  show RelV w D (putV x _)
                  rw [putV_same HV.out.rise HY.out HYX.out (by omega)]
                  exact HV.out
                · exact (HB.out.alloc HB.out.size _).alloc (by simp; have := HB.out.size; omega) _
          · have hno : Maps.has D (.int .i64 x.f0) = false := by simpa using hhas
            have HNO := Aside0.mk hno
            have HAT := Aside0.mk (HV.out.new x hno)
            clear hhas hno
            go_wp2_with (first
              | (at_lookup; refine look_ok_held _ rfl _ _ 52 rfl 3 30 law3 Try.underlying52 zeroV (zero30 _) w.heap.size N D rfl (HM.out.alloc _) _ (.int .i64 x.f0) rfl HK.out zeroV HAT.out false HNO.out ?_; unfold zeroV)
              | (at_mapUpdate; refine wpList_mapUpdate_own _ rfl _ _ _ 52 rfl 3 30 law3 Try.underlying52 RH w.heap.size N D rfl ((HM.out.alloc _).alloc _) HBN.out _ _ (.int .i64 x.f0) rfl rfl HK.out (.held (.agg #[.int .i64 x.f0, .int .i64 x.f1, .slice A2 x.f2.length c2])) [] rfl ?_; intro w1 hown1 hgrow1))
            go_roundg (l.length - (j + 1))
            case measure => omega
            case rel =>
              refine ⟨j + 1, D.put (.int .i64 x.f0) (.held (.agg #[.int .i64 x.f0, .int .i64 x.f1, .slice A2 x.f2.length c2])), by go_num, by omega, by omega, ⟨?_⟩, ⟨?_⟩, ⟨?_⟩⟩
              · rw [← Nat.add_assoc, ← HN2.out]; exact hown1
              · rw [HTK.out, List.foldl_append]
                exact HV.out.put HVt.out (fun y hy e => absurd ((HV.out.keys x.f0).2 ⟨y, hy, e⟩) (by rw [HNO.out]; decide))
              · exact ((HB.out.alloc HB.out.size _).alloc (by simp; have := HB.out.size; omega) _).grown hgrow1 (by simp; have := HB.out.size; omega) (fun k hk => by cases hk; exact Nat.le_refl _)
        · have hje : j = l.length := by omega
          have hltjz : ¬ (j : Int) < (l.length : Int) := by omega
          have HJE := Aside0.mk hje
          clear hje
          go_wp2
          go_roundg (l0.length - (i + 1))
          case measure => omega
          case rel =>
            refine ⟨i + 1, D, by go_num, by omega, by omega, ⟨?_⟩, ⟨?_⟩, HB⟩
            · rw [take_flat l0 i hlt, List.length_append, ← rdL_getD, ← HL.out, ← HJE.out]; exact HM.out
            · rw [take_flat l0 i hlt, mergeV_append, ← rdL_getD, ← HL.out]
              have := HV.out
              rw [HJE.out, List.take_length] at this
              exact this
    · have hie : i = l0.length := by omega
      have hltz : ¬ (i : Int) < (l0.length : Int) := by omega
      subst hie
      rw [List.take_length] at HM HV
      rw [HR.out] at HV
      have cS := sortedM w.heap.size _ D w wr r HM.out HV.out HN.out
      go_wp2_with (first
        | (go_at_call 32; refine (keysC _ _).mono ?_; rintro e w' ⟨rfl, rfl⟩)
        | (go_at_call 31; refine cS.mono ?_; rintro e w2 ⟨A5, c5, rfl, hrow, hb2⟩; clear cS))
      have HM2 := Aside0.mk (owns_below HM.out hb2)
      have HB2 := Aside0.mk (HB.out.trans (hb2.mono HB.out.size))
      have HROW := Aside0.mk (own_weaken hrow HB.out.size)
      have hbigr : r.length ≤ 9223372036854775807 := by
        have h1 := length_mergeV l0.flatten
        have h2 := HN.out
        rw [HR.out] at h1
        omega
      have HNR := Aside0.mk (show r.length ≤ 1000000000 by
        have h1 := length_mergeV l0.flatten
        have h2 := HN.out
        rw [HR.out] at h1
        omega)
      clear HM HB hrow hb2
      obtain ⟨N, hN⟩ : ∃ N, N = l0.flatten.length := ⟨_, rfl⟩
      rw [← hN] at HM2
      clear hN
      go_loopg [10, 53] r.length (fun kq v10 v53 w' => ∃ i : Nat, v53 = .int .i64 i ∧ i ≤ r.length ∧ r.length - i ≤ kq ∧ Aside0 (w'.ownsMap Try.prog 3 RH w.heap.size N D) ∧ Aside0 (w'.ownsRow w.heap.size 3 1 (.slice A5 r.length c5) r.length (r.map (fun x => .int .i64 x.f0))) ∧ Aside0 (Kd.S k30 30 w' w.heap.size (fun _ => True) v10 (r.take i)) ∧ Aside0 (Below w.heap.size w w'))
      case atStart => exact ⟨0, rfl, Nat.zero_le _, by omega, HM2, HROW, ⟨Kd.S_nil _ _ _ _ _⟩, HB2⟩
      case round =>
        clear HM2 HB2 HROW
        obtain ⟨i, rfl, hi, hg2, HM, HROW, HS, HB⟩ := hrel
        by_cases hlt : i < r.length
        · have hltz2 : (i : Int) < (r.length : Int) := by omega
          obtain ⟨ad, rfl, hx⟩ := key_at HROW.out hlt
          have hmem : rd_T30 r (i : Int) ∈ r := by
            rw [rdT_getD, List.getD_eq_getElem?_getD, List.getElem?_eq_getElem hlt]; exact List.getElem_mem hlt
          have HTK := Aside0.mk (take_snoc r i z30 hlt)
          rw [← rdT_getD] at HTK
          obtain ⟨x, hX⟩ : ∃ x, x = rd_T30 r (i : Int) := ⟨_, rfl⟩
          rw [← hX] at hx hmem HTK
          clear hX
          have hfl : x ∈ l0.flatten := mem_mergeV (by rw [HR.out]; exact hmem)
          have HK := Aside0.mk (keyOf_int_mk (P := Try.prog) Try.underlying3 (HW.out x hfl))
          have hlen : x.f2.length ≤ 1000000 := HW2.out x hfl
          obtain ⟨V, hat, A3, c3, rfl, hc3, hr3⟩ := HV.out.vals x hmem
          have HAT := Aside0.mk hat
          have HR3 := Aside0.mk hr3
          have HC3 := Aside0.mk hc3
          have HLN := Aside0.mk hlen
          clear hat hr3 hc3 hlen hfl hmem
          go_wp2_with (first
            | (at_lookup; refine look_held _ rfl _ _ 52 rfl 3 30 law3 Try.underlying52 zeroV (zero30 _) w.heap.size N D rfl HM.out _ (.int .i64 x.f0) rfl HK.out _ HAT.out ?_)
            | (go_at_call 33; refine (cloneC A3 c3 x.f2 _ (Kd.C_below HR3.out (below_alloc HB.out _)) HC3.out HLN.out).mono ?_; rintro e w3 ⟨v3, rfl, hR, hbel⟩
               have hb0 : w3.heap[wr.heap.size]? = some (.cells #[.int .i64 x.f0, .int .i64 x.f1, .slice A3 x.f2.length c3] 30 (0, 0)) := (hbel.block _ (by simp)).trans (heap_alloc_new _ _)
               have hk0 : w3.cell? ⟨wr.heap.size, 0, none⟩ = some (.int .i64 x.f0) := (blk_cell hb0 0).trans rfl
               have hk1 : w3.cell? ⟨wr.heap.size, 1, none⟩ = some (.int .i64 x.f1) := (blk_cell hb0 1).trans rfl
               have hk2 : w3.cell? ⟨wr.heap.size, 2, none⟩ = some (.slice A3 x.f2.length c3) := (blk_cell hb0 2).trans rfl
               have hf2 : w3.frozen? ⟨wr.heap.size, 2, none⟩ = false := blk_frozen hb0 2
               obtain ⟨A4, c4, rfl⟩ := Kd.R_slice hR
               have hbW := Aside0.mk ((((Below.refl _ wr).alloc (Nat.le_refl _) _).trans (hbel.mono (by simp))).setCell (p := ⟨wr.heap.size, 2, none⟩) (Nat.le_refl _) (.slice A4 x.f2.length c4))
               have hS3 := Aside0.mk (Kd.S_elder' HS.out (fun k hk => by have := Kd.R_base hR k hk; simp at this; omega) hbW.out)
               have hR3 := Aside0.mk (Kd.R_mono (Kd.R_tight rfl (Kd.R_lower (base' := w.heap.size) (Kd.R_set hR hb0 (by decide) 2 (.slice A4 x.f2.length c4)) (by have := HB.out.size; simp; omega))) (fun _ h_ => h_))
               have hNE : Aside0 (∀ k, some k = (Value.slice A4 x.f2.length c4).ownBlock → some k ≠ u10.ownBlock) := ⟨fun k hk hk2 => by
                 have h1 := Kd.R_base hR k hk.symm
                 have h2 := Kd.S_lt HS.out k hk2.symm
                 simp at h1
                 omega⟩
               clear hb0 hR hbel)
            | (at_builtin; refine Kd.S_append k30 (w0 := w) w.heap.size rfl (.tmp 64) (.tmp 66) 22 30 (.agg #[(.int .i64 0), (.int .i64 0), (.slice none 0 0)]) 40 rfl Try.underlying22 g_info30 rfl (by decide) (by omega) u10 (r.take i) x [.int .i64 x.f0, .int .i64 x.f1, .slice A4 x.f2.length c4] (fun _ => True) (fun k_ => some k_ = (.slice A4 x.f2.length c4 : Value).ownBlock) rfl (by show Value.slice (some ⟨w3.heap.size, 0, none⟩) 1 1 = _; simp [World.setCell]) (k30_mkM _ _ _ x hR3.out) (fun k hk => ⟨trivial, hNE.out k hk⟩) (fun _ _ => trivial) (Kd.S_mono hS3.out (fun k hk => ⟨trivial, fun e => hk.2 e⟩)) (HB.out.trans (hbW.out.mono HB.out.size)) (Nat.le_trans HB.out.size hbW.out.size) (by have := HNR.out; simp; omega) ?_; intro v10 w5 ho hb hg hat))
          go_roundg (r.length - (i + 1))
          case measure => omega
          case rel =>
            refine ⟨i + 1, by go_num, by omega, by omega, ⟨?_⟩, ⟨?_⟩, ⟨?_⟩, ⟨hb⟩⟩
            · refine (owns_below HM.out hbW.out).kept hg fun e => ?_
              obtain ⟨cells, h1⟩ := Kd.S_typed HS.out _ e.symm
              obtain ⟨es, clock, h2, _⟩ := HM.out
              rw [h1] at h2
              cases h2
            · refine own_move HROW.out fun k hk => ?_
              have hlt1 := own_lt HROW.out k hk
              refine (hg.block k (Nat.lt_of_lt_of_le hlt1 hbW.out.size) fun e => ?_).trans (hbW.out.block k hlt1)
              obtain ⟨cells, h1⟩ := Kd.S_typed HS.out _ e.symm
              obtain ⟨cells2, h2⟩ := own_typed HROW.out k hk
              rw [h1] at h2
              cases h2
            · rw [HTK.out]; exact ho
        · have hir : i = r.length := by omega
          have hltz2 : ¬ (i : Int) < (r.length : Int) := by omega
          subst hir
          rw [List.take_length] at HS
          go_wp2
          go_ret
          exact ⟨_, rfl, HS.out, HB.out⟩
end Go.Proofs.Ytjofllllnmfneaa.P
