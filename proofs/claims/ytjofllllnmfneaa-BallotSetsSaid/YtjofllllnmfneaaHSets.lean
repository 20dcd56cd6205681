/- The law BallotSets, walked by hand: it returns true. No conditions. -/
import Derived.Test.YtjofllllnmfneaaHSet
import Derived.Test.YtjofllllnmfneaaPArith09
import Derived.Deep.LoopGhost
namespace Go.Proofs.Ytjofllllnmfneaa.P
open Go.RowKit Go.Maps Go.Proofs.YtjofllllnmfneaaW.PrintWords Go.Proofs.YtjofllllnmfneaaW.PrintLast Go.Proofs.YtjofllllnmfneaaW.PrintMore
set_option linter.unusedVariables false
set_option linter.unusedSimpArgs false

theorem add_in (w : World) (B : Nat) (mb : Option Nat) (u : List Int) (x : Int) (h : SetAt w B mb u) (hx : (Lit.int .i64 x).wf = true) (hl : u.length < 1000000) (hin : x ∈ u) :
    Calls Try.prog 26 #[.pointer (some ⟨B, 0, none⟩), .int .i64 x] w fun e w' => e = .returned (.bool false) ∧ Below w.heap.size w w' := by
  refine (add_calls w B mb u x h hx hl).mono ?_
  rintro e w' ⟨rfl, ⟨_, hb⟩ | ⟨hn, _⟩⟩
  · exact ⟨by rw [decide_eq_false (fun h => h hin)], hb⟩
  · exact absurd hin hn
theorem add_out (w : World) (B : Nat) (mb : Option Nat) (u : List Int) (x : Int) (h : SetAt w B mb u) (hx : (Lit.int .i64 x).wf = true) (hl : u.length < 1000000) (hin : x ∉ u) :
    Calls Try.prog 26 #[.pointer (some ⟨B, 0, none⟩), .int .i64 x] w fun e w' => e = .returned (.bool true) ∧ ∃ mb', SetAt w' B mb' (u ++ [x]) ∧ But w w' B mb ∧ (∀ b, mb' = some b → mb = some b ∨ w.heap.size ≤ b) := by
  refine (add_calls w B mb u x h hx hl).mono ?_
  rintro e w' ⟨rfl, ⟨hi, _⟩ | ⟨_, h⟩⟩
  · exact absurd hi hin
  · exact ⟨by rw [decide_eq_true hin], h⟩
theorem has_in (w : World) (B : Nat) (mb : Option Nat) (u : List Int) (x : Int) (r : Bool) (h : SetAt w B mb u) (hx : (Lit.int .i64 x).wf = true) (hr : decide (x ∈ u) = r) :
    Calls Try.prog 25 #[.pointer (some ⟨B, 0, none⟩), .int .i64 x] w fun e w' => e = .returned (.bool r) ∧ Below w.heap.size w w' := hr ▸ has_calls w B mb u x h hx
theorem int_at {w : World} {A : Option Addr} {xs : List Int} (h : (Kd.int .i64).C w A xs.length xs) {i : Nat} (hi : i < xs.length) : ∃ ad, A = some ad ∧ w.cell? (ad.add i) = some (.int .i64 (xs.getD i 0)) := by
  obtain ⟨ad, c, e, hl, hK, hc⟩ := Kd.C_get h 0 (i : Int) (by omega) (by omega)
  refine ⟨ad, e, ?_⟩
  have hK' : c = [.int .i64 (xs.getD i 0)] := hK
  have h2 := hc 0 (.int .i64 (xs.getD i 0)) (by rw [hK']; rfl)
  simpa [Kd.int, Kd.scalar] using h2
theorem nil_has (x : ByteArray) (w : World) : Calls Try.prog 29 #[.pointer none, .string x] w fun e w' => e = .returned (.bool false) ∧ w' = w := by
  go_enter Try.func29, Try.ntmps29
  go_wp2
  go_ret
  exact ⟨rfl, rfl⟩
theorem nil_add (x : ByteArray) (w : World) : Calls Try.prog 28 #[.pointer none, .string x] w fun e w' => e = .returned (.bool false) ∧ w' = w := by
  go_enter Try.func28, Try.ntmps28
  go_wp2
  go_ret
  exact ⟨rfl, rfl⟩
theorem nil_len (w : World) : Calls Try.prog 30 #[.pointer none] w fun e w' => e = .returned (.int .i64 0) ∧ w' = w := by
  go_enter Try.func30, Try.ntmps30
  go_wp2
  go_ret
  exact ⟨rfl, rfl⟩
theorem take_mem (u : List Int) (j : Nat) (y : Int) (hj : j < u.length) : decide (y ∈ u.take (j + 1)) = (decide (y ∈ u.take j) || (u.getD j 0 == y)) := by
  have e : y ∈ u.take (j + 1) ↔ (y ∈ u.take j ∨ u.getD j 0 = y) := by
    rw [List.take_add_one, List.mem_append, List.getElem?_eq_getElem hj, List.getD_eq_getElem?_getD, List.getElem?_eq_getElem hj]
    simp only [Option.toList_some, List.mem_singleton, Option.getD_some]
    exact or_congr Iff.rfl eq_comm
  by_cases h1 : y ∈ u.take j
  · rw [decide_eq_true (e.2 (.inl h1)), decide_eq_true h1]; rfl
  · by_cases h2 : u.getD j 0 = y
    · rw [decide_eq_true (e.2 (.inr h2)), decide_eq_false h1, h2]; simp
    · rw [decide_eq_false (fun h => (e.1 h).elim h1 h2), decide_eq_false h1, beq_eq_false_iff_ne.mpr h2]; rfl

theorem R_but {w w' : World} {B base : Nat} {mb : Option Nat} {ok : Nat → Prop} {v : Value} {u u0 : List Int} (h : (Kd.int .i64).R 3 w base ok v u) (hS : SetAt w B mb u0) (hb : But w w' B mb) : (Kd.int .i64).R 3 w' base ok v u := by
  refine Kd.R_mono (Kd.R_move (Kd.R_bound h) (fun k hk => ?_)) (fun _ hk => hk.1)
  obtain ⟨_, _, hlt, q, hq, cells, hc⟩ := hk
  refine hb.block k hlt (fun e => ?_) (fun e => ?_)
  · subst e
    rw [hS.block] at hc
    injection hc with hc
    injection hc with _ hq2 _
    subst hq2
    simp [Kd.int, Kd.scalar] at hq
  · obtain ⟨D, ⟨es, clock, h3, _⟩, _⟩ := hS.full k e.symm
    rw [h3] at hc
    cases hc
theorem but_below {w0 w w' : World} {B base : Nat} {mb : Option Nat} (h : Below base w0 w) (hb : But w w' B mb) (hB : base ≤ B) (hm : ∀ b, mb = some b → base ≤ b) (hs : base ≤ w.heap.size) : Below base w0 w' :=
  h.trans ⟨hb.os, hb.tape, hb.output, hb.size, fun k hk => hb.block k (by omega) (by omega) (fun e => by have := hm k e.symm; omega)⟩
theorem But.cell {w w' : World} {B : Nat} {mb : Option Nat} {u0 : List Int} {a : Addr} {v : Int} (hb : But w w' B mb) (hS : SetAt w B mb u0) (h : w.cell? a = some (.int .i64 v)) : w'.cell? a = some (.int .i64 v) := by
  have hlt := World.block_lt_of_cell? _ _ h
  rw [World.cell?_of_block (hb.block a.block hlt (fun e => ?_) (fun e => ?_))]
  · exact h
  · unfold World.cell? at h
    rw [e, hS.block] at h
    revert h
    rcases a.off with _ | n <;> rcases a.spot with _ | s <;> simp
  · obtain ⟨D, ⟨es, clock, h3, _⟩, _⟩ := hS.full _ e.symm
    unfold World.cell? at h
    rw [h3] at h
    simp at h
theorem len_out (w : World) (B : Nat) (mb : Option Nat) (u : List Int) (y : Int) (h : SetAt w B mb (u ++ [y])) (hw : wrap64 ((u.length : Int) + 1) = (u.length : Int) + 1) :
    Calls Try.prog 27 #[.pointer (some ⟨B, 0, none⟩)] w fun e w' => e = .returned (.int .i64 ((u.length : Int) + 1)) ∧ w' = w := by
  have h1 := len_calls w B mb (u ++ [y]) h
  rw [show ((u ++ [y]).length : Int) = (u.length : Int) + 1 from by simp] at h1
  exact h1

set_option maxHeartbeats 8000000 in
set_option maxRecDepth 100000 in
theorem sets.calls (A : Option Addr) (c : Nat) (l : List Int) (x : Int) (w : World) (hr : (Kd.int .i64).C w A l.length l) (hc : l.length ≤ c) (hw : ∀ y ∈ l, (Lit.int .i64 y).wf = true) (hx : (Lit.int .i64 x).wf = true) :
    Calls Try.prog 9 #[.slice A l.length c, .int .i64 x] w fun e w' => e = .returned (.bool true) ∧ Below w.heap.size w w' := by
  have hbig0 : l.length ≤ 9223372036854775807 := hr.2.1
  have HR0 := Aside0.mk hr
  have HC0 := Aside0.mk hc
  have HWF := Aside0.mk hw
  have HX := Aside0.mk hx
  have hW := fun W => racewaylaw09_works.calls true W works_f
  have HS0 := Aside0.mk (show SetAt (w.alloc (.cells #[.map none] 46)) w.heap.size none [] from ⟨heap_alloc_new w _, fun _ => rfl, fun b e => (by cases e)⟩)
  have HB0 := Aside0.mk ((Below.refl w.heap.size w).alloc (Nat.le_refl _) (.cells #[.map none] 46))
  clear hr hc hw hx
  go_enter Try.func9, Try.ntmps9
  go_wp2
  go_loopg [6, 7] l.length (fun kq v6 v7 w' => ∃ (i : Nat) (u : List Int) (mb : Option Nat), v7 = .int .i64 i ∧ i ≤ l.length ∧ l.length - i ≤ kq ∧ u.length ≤ i ∧ i ≤ 60 ∧ Aside0 (SetAt w' w.heap.size mb u) ∧ Aside0 (∀ b, mb = some b → w.heap.size ≤ b) ∧ Aside0 ((Kd.int .i64).R 3 w' w.heap.size (fun _ => True) v6 u) ∧ Aside0 (Below w.heap.size w w'))
  case atStart => exact ⟨0, [], none, rfl, Nat.zero_le _, by omega, Nat.le_refl _, by omega, HS0, ⟨fun b e => (by cases e)⟩, ⟨Kd.R_nil _ _ _ _ _⟩, HB0⟩
  case round =>
    clear HS0 HB0
    obtain ⟨i, u, mb, rfl, hi, hg, hui, hi60, HS, HMB, HU, HB⟩ := hrel
    obtain ⟨A6, c6, rfl⟩ := Kd.R_slice HU.out
    have hucl : (Kd.int .i64).C wr A6 u.length u := (Kd.R_reads' HU.out).2.2
    have huc : u.length ≤ c6 := (Kd.R_reads' HU.out).2.1
    have HUC := Aside0.mk hucl
    clear hucl
    by_cases hlt : i < l.length
    · have hltz : (i : Int) < (l.length : Int) := by omega
      by_cases h60 : i < 60
      · have h60z : (i : Int) < 60 := by omega
        obtain ⟨ad, rfl, hy⟩ := int_at (Kd.C_below HR0.out HB.out) hlt
        have hwy := HWF.out (l.getD i 0) (by rw [List.getD_eq_getElem?_getD, List.getElem?_eq_getElem hlt]; exact List.getElem_mem hlt)
        obtain ⟨y, hyy⟩ : ∃ y, y = l.getD i 0 := ⟨_, rfl⟩
        rw [← hyy] at hy hwy
        have HWY := Aside0.mk hwy
        clear hyy hwy
        have hubig : u.length ≤ 9223372036854775807 := by omega
        go_wp2
        go_loopg [8, 27] u.length (fun kq v8 v27 w' => ∃ (j : Nat) (b : Bool), v27 = .int .i64 j ∧ v8 = .bool b ∧ j ≤ u.length ∧ u.length - j ≤ kq ∧ Aside0 (decide (y ∈ u.take j) = b) ∧ Aside0 (w' = wr))
        case atStart => exact ⟨0, false, rfl, rfl, Nat.zero_le _, by omega, ⟨by simp⟩, ⟨rfl⟩⟩
        case round =>
          obtain ⟨j, b, rfl, rfl, hj, hg2, HD, HWR⟩ := hrel
          obtain rfl := HWR.out
          clear HWR
          by_cases hltj : j < u.length
          · have hltjz : (j : Int) < (u.length : Int) := by omega
            obtain ⟨ad2, rfl, hz⟩ := int_at HUC.out hltj
            have HTM := Aside0.mk (take_mem u j y hltj)
            rw [HD.out] at HTM
            obtain ⟨z, hzz⟩ : ∃ z, z = u.getD j 0 := ⟨_, rfl⟩
            rw [← hzz] at hz HTM
            clear hzz
            cases b with
            | true =>
              go_wp2
              go_roundg (u.length - (j + 1))
              case measure => omega
              case rel => exact ⟨j + 1, true, by go_num, rfl, by omega, by omega, ⟨by rw [HTM.out]; rfl⟩, ⟨rfl⟩⟩
            | false =>
              obtain ⟨q, hq⟩ : ∃ q, (z == y) = q := ⟨_, rfl⟩
              go_wp2
              go_roundg (u.length - (j + 1))
              case measure => omega
              case rel => exact ⟨j + 1, q, by go_num, rfl, by omega, by omega, ⟨by rw [HTM.out, hq]; rfl⟩, ⟨rfl⟩⟩
          · have hltjz : ¬ (j : Int) < (u.length : Int) := by omega
            obtain rfl : j = u.length := by omega
            rw [List.take_length] at HD
            have hul : u.length < 1000000 := by omega
            have hxl := HB.out
            cases b with
            | true =>
              have hin : y ∈ u := of_decide_eq_true HD.out
              have h1 := has_in wr w.heap.size mb u y true HS.out HWY.out HD.out
              have HH1 := Aside0.mk h1
              have HIN := Aside0.mk hin
              clear h1 hin hxl
              go_wp2_with (first
                | (go_at_call 25; (with_reducible refine HH1.out.mono ?_); rintro e w1 ⟨rfl, hb1⟩
                   have hy1 := (hb1.cell (World.block_lt_of_cell? _ _ hy)).trans hy
                   have HB1 := Aside0.mk hb1
                   have HS1 := Aside0.mk (HS.out.below hb1)
                   clear hb1)
                | (go_at_call 26; (with_reducible refine (add_in w1 w.heap.size mb u y HS1.out HWY.out hul HIN.out).mono ?_); rintro e w2 ⟨rfl, hb2⟩
                   have hy2 := (hb2.cell (World.block_lt_of_cell? _ _ hy1)).trans hy1
                   have HB2 := Aside0.mk (HB1.out.trans (hb2.mono HB1.out.size))
                   have HS2 := Aside0.mk (HS1.out.below hb2)
                   clear hb2)
                | (go_at_call 27; (with_reducible refine (len_calls w2 w.heap.size mb u HS2.out).mono ?_); rintro e w3 ⟨rfl, rfl⟩)
                | (go_at_call 25; (with_reducible refine (has_in _ w.heap.size mb u y true HS2.out HWY.out (decide_eq_true HIN.out)).mono ?_); rintro e w3 ⟨rfl, hb3⟩
                   have HB3 := Aside0.mk (HB2.out.trans (hb3.mono HB2.out.size))
                   have HS3 := Aside0.mk (HS2.out.below hb3)
                   clear hb3))
              go_roundg (l.length - (i + 1))
              case measure => omega
              case rel => exact ⟨i + 1, u, mb, by go_num, by omega, by omega, by omega, by omega, HS3, HMB, ⟨Kd.R_below HU.out HB3.out⟩, ⟨HB.out.trans (HB3.out.mono HB.out.size)⟩⟩
            | false =>
              have hin : y ∉ u := of_decide_eq_false HD.out
              have h1 := has_in wr w.heap.size mb u y false HS.out HWY.out HD.out
              have HH1 := Aside0.mk h1
              have HIN := Aside0.mk hin
              have hwr1 : wrap64 ((u.length : Int) + 1) = (u.length : Int) + 1 := by unfold wrap64; omega
              have HWR1 := Aside0.mk hwr1
              clear h1 hin hxl hwr1
              go_wp2_with (first
                | (go_at_call 25; (with_reducible refine HH1.out.mono ?_); rintro e w1 ⟨rfl, hb1⟩
                   have hy1 := (hb1.cell (World.block_lt_of_cell? _ _ hy)).trans hy
                   have HB1 := Aside0.mk hb1
                   have HS1 := Aside0.mk (HS.out.below hb1)
                   have HU1 := Aside0.mk (Kd.R_below HU.out hb1)
                   clear hb1)
                | (go_at_call 26; (with_reducible refine (add_out w1 w.heap.size mb u y HS1.out HWY.out hul HIN.out).mono ?_); rintro e w2 ⟨rfl, mb2, hs2, hbut, hmb2⟩
                   have HS2 := Aside0.mk hs2
                   have HU2 := Aside0.mk (R_but HU1.out HS1.out hbut)
                   have HBB := Aside0.mk (but_below (HB.out.trans (HB1.out.mono HB.out.size)) hbut (Nat.le_refl _) HMB.out (Nat.le_trans HB.out.size HB1.out.size))
                   have HMB2 := Aside0.mk (show ∀ b, mb2 = some b → w.heap.size ≤ b from fun b hb => (hmb2 b hb).elim (HMB.out b) (fun h => Nat.le_trans (Nat.le_trans HB.out.size HB1.out.size) h))
                   have hy2 := (hbut.cell HS1.out hy1)
                   clear hs2 hbut hmb2)
                | (go_at_call 27; (with_reducible refine (len_out w2 w.heap.size mb2 u y HS2.out HWR1.out).mono ?_); rintro e w3 ⟨rfl, rfl⟩)
                | (go_at_call 25; (with_reducible refine (has_in _ w.heap.size mb2 (u ++ [y]) y true HS2.out HWY.out (decide_eq_true (by simp))).mono ?_); rintro e w4 ⟨rfl, hb3⟩
                   have HB3 := Aside0.mk (HBB.out.trans (hb3.mono HBB.out.size))
                   have HS3 := Aside0.mk (HS2.out.below hb3)
                   have HU3 := Aside0.mk (Kd.R_below HU2.out hb3)
                   have hy4 := (hb3.cell (World.block_lt_of_cell? _ _ hy2)).trans hy2
                   clear hb3)
                | (at_builtin; refine Kd.R_append (Kd.int .i64) (w0 := w) w.heap.size rfl _ _ 43 3 (.int .i64 0) 8 rfl Try.underlying43 (by kernel_rfl) rfl (by decide) (by omega) (.slice A6 u.length c6) u y [.int .i64 y] (fun _ => True) (fun _ => False) rfl rfl rfl (fun _ h => h.elim) (fun _ _ => trivial) HU3.out HB3.out HB3.out.size (by have := hul; omega) ?_; intro v6 w5 ho hb hg hat))
              go_roundg (l.length - (i + 1))
              case measure => omega
              case rel =>
                refine ⟨i + 1, u ++ [y], mb2, by go_num, by omega, by omega, by simp; omega, by omega, ⟨HS3.out.keep ?_ ?_⟩, HMB2, ⟨ho⟩, ⟨hb⟩⟩
                · refine hg.block _ (blk_lt HS3.out.block) (fun e => ?_)
                  obtain ⟨cells, hc1⟩ := Kd.R_typed HU3.out _ e.symm
                  rw [HS3.out.block] at hc1
                  injection hc1 with hc1
                  injection hc1 with _ hc1 _
                  cases hc1
                · intro b hb'
                  obtain ⟨D, hD, _⟩ := HS3.out.full b hb'
                  refine hg.block _ hD.lt (fun e => ?_)
                  obtain ⟨cells, hc1⟩ := Kd.R_typed HU3.out _ e.symm
                  obtain ⟨es, clock, h3, _⟩ := hD
                  rw [h3] at hc1
                  cases hc1
      · have h60z : ¬ (i : Int) < 60 := by omega
        have hubig : u.length ≤ 9223372036854775807 := by omega
        go_wp2
        go_loopg [11, 87] u.length (fun kq v11 v87 w' => ∃ (j : Nat) (b : Bool), v87 = .int .i64 j ∧ v11 = .bool b ∧ j ≤ u.length ∧ u.length - j ≤ kq ∧ Aside0 (decide (x ∈ u.take j) = b) ∧ Aside0 (w' = wr))
        case atStart => exact ⟨0, false, rfl, rfl, Nat.zero_le _, by omega, ⟨by simp⟩, ⟨rfl⟩⟩
        case round =>
          obtain ⟨j, b, rfl, rfl, hj, hg2, HD, HWR⟩ := hrel
          obtain rfl := HWR.out
          clear HWR
          by_cases hltj : j < u.length
          · have hltjz : (j : Int) < (u.length : Int) := by omega
            obtain ⟨ad2, rfl, hz⟩ := int_at HUC.out hltj
            have HTM := Aside0.mk (take_mem u j x hltj)
            rw [HD.out] at HTM
            obtain ⟨z, hzz⟩ : ∃ z, z = u.getD j 0 := ⟨_, rfl⟩
            rw [← hzz] at hz HTM
            clear hzz
            cases b with
            | true =>
              go_wp2
              go_roundg (u.length - (j + 1))
              case measure => omega
              case rel => exact ⟨j + 1, true, by go_num, rfl, by omega, by omega, ⟨by rw [HTM.out]; rfl⟩, ⟨rfl⟩⟩
            | false =>
              obtain ⟨q, hq⟩ : ∃ q, (z == x) = q := ⟨_, rfl⟩
              go_wp2
              go_roundg (u.length - (j + 1))
              case measure => omega
              case rel => exact ⟨j + 1, q, by go_num, rfl, by omega, by omega, ⟨by rw [HTM.out, hq]; rfl⟩, ⟨rfl⟩⟩
          · have hltjz : ¬ (j : Int) < (u.length : Int) := by omega
            obtain rfl : j = u.length := by omega
            rw [List.take_length] at HD
            have HH1 := Aside0.mk (has_in _ w.heap.size mb u x b HS.out HX.out HD.out)
            go_wp2_with (first
              | (go_at_call 25; (with_reducible refine HH1.out.mono ?_); rintro e w1 ⟨rfl, hb1⟩
                 have HB1 := Aside0.mk (HB.out.trans (hb1.mono HB.out.size))
                 have HS1 := Aside0.mk (HS.out.below hb1)
                 clear hb1)
              | (go_at_call 27; (with_reducible refine (len_calls _ w.heap.size mb u HS1.out).mono ?_); rintro e w3 ⟨rfl, rfl⟩)
              | (go_at_call 28; (with_reducible refine (nil_add _ _).mono ?_); rintro e w3 ⟨rfl, rfl⟩)
              | (go_at_call 29; (with_reducible refine (nil_has _ _).mono ?_); rintro e w3 ⟨rfl, rfl⟩)
              | (go_at_call 30; (with_reducible refine (nil_len _).mono ?_); rintro e w3 ⟨rfl, rfl⟩)
              | (go_at_call 14; (with_reducible refine (hW _).mono ?_); rintro e w9 ⟨rfl, hb9⟩))
            go_ret
            exact ⟨rfl, HB1.out.trans (hb9.mono HB1.out.size)⟩
    · have hltz : ¬ (i : Int) < (l.length : Int) := by omega
      have hubig : u.length ≤ 9223372036854775807 := by omega
      go_wp2
      go_loopg [11, 87] u.length (fun kq v11 v87 w' => ∃ (j : Nat) (b : Bool), v87 = .int .i64 j ∧ v11 = .bool b ∧ j ≤ u.length ∧ u.length - j ≤ kq ∧ Aside0 (decide (x ∈ u.take j) = b) ∧ Aside0 (w' = wr))
      case atStart => exact ⟨0, false, rfl, rfl, Nat.zero_le _, by omega, ⟨by simp⟩, ⟨rfl⟩⟩
      case round =>
        obtain ⟨j, b, rfl, rfl, hj, hg2, HD, HWR⟩ := hrel
        obtain rfl := HWR.out
        clear HWR
        by_cases hltj : j < u.length
        · have hltjz : (j : Int) < (u.length : Int) := by omega
          obtain ⟨ad2, rfl, hz⟩ := int_at HUC.out hltj
          have HTM := Aside0.mk (take_mem u j x hltj)
          rw [HD.out] at HTM
          obtain ⟨z, hzz⟩ : ∃ z, z = u.getD j 0 := ⟨_, rfl⟩
          rw [← hzz] at hz HTM
          clear hzz
          cases b with
          | true =>
            go_wp2
            go_roundg (u.length - (j + 1))
            case measure => omega
            case rel => exact ⟨j + 1, true, by go_num, rfl, by omega, by omega, ⟨by rw [HTM.out]; rfl⟩, ⟨rfl⟩⟩
          | false =>
            obtain ⟨q, hq⟩ : ∃ q, (z == x) = q := ⟨_, rfl⟩
            go_wp2
            go_roundg (u.length - (j + 1))
            case measure => omega
            case rel => exact ⟨j + 1, q, by go_num, rfl, by omega, by omega, ⟨by rw [HTM.out, hq]; rfl⟩, ⟨rfl⟩⟩
        · have hltjz : ¬ (j : Int) < (u.length : Int) := by omega
          obtain rfl : j = u.length := by omega
          rw [List.take_length] at HD
          have HH1 := Aside0.mk (has_in _ w.heap.size mb u x b HS.out HX.out HD.out)
          go_wp2_with (first
            | (go_at_call 25; (with_reducible refine HH1.out.mono ?_); rintro e w1 ⟨rfl, hb1⟩
               have HB1 := Aside0.mk (HB.out.trans (hb1.mono HB.out.size))
               have HS1 := Aside0.mk (HS.out.below hb1)
               clear hb1)
            | (go_at_call 27; (with_reducible refine (len_calls _ w.heap.size mb u HS1.out).mono ?_); rintro e w3 ⟨rfl, rfl⟩)
            | (go_at_call 28; (with_reducible refine (nil_add _ _).mono ?_); rintro e w3 ⟨rfl, rfl⟩)
            | (go_at_call 29; (with_reducible refine (nil_has _ _).mono ?_); rintro e w3 ⟨rfl, rfl⟩)
            | (go_at_call 30; (with_reducible refine (nil_len _).mono ?_); rintro e w3 ⟨rfl, rfl⟩)
            | (go_at_call 14; (with_reducible refine (hW _).mono ?_); rintro e w9 ⟨rfl, hb9⟩))
          go_ret
          exact ⟨rfl, HB1.out.trans (hb9.mono HB1.out.size)⟩
end Go.Proofs.Ytjofllllnmfneaa.P
