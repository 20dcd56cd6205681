/- The document's own merging of votes, by hand: one vote put into those that count; all votes of some lists. No conditions. -/
import Derived.Test.YtjofllllnmfneaaHFew
import Derived.Deep.QuietTactic
import Derived.BigQuiet
import Derived.Deep.LoopGhost
namespace Go.Proofs.Ytjofllllnmfneaa.P
open Go.RowKit Go.Proofs.YtjofllllnmfneaaW.PrintWords Go.Proofs.YtjofllllnmfneaaW.PrintLast Go.Proofs.YtjofllllnmfneaaW.PrintMore
set_option linter.unusedVariables false
set_option linter.unusedSimpArgs false

/-! the plain side -/
theorem putV_less (v x : S30) : ∀ M : List S30, (∀ y ∈ M, y.f0 < v.f0) → v.f0 < x.f0 → putV v (M ++ [x]) = M ++ [v, x] := by
  intro M
  induction M with
  | nil => intro _ h; show putV v [x] = [v, x]; unfold putV; rw [if_pos h]
  | cons y M ih =>
    intro h hx
    have h1 := h y List.mem_cons_self
    show putV v (y :: (M ++ [x])) = _
    unfold putV
    rw [if_neg (by omega), if_neg (by omega), ih (fun z hz => h z (List.mem_cons_of_mem _ hz)) hx]
    rfl
theorem putV_eq (v x : S30) : ∀ M : List S30, (∀ y ∈ M, y.f0 < v.f0) → v.f0 = x.f0 → putV v (M ++ [x]) = M ++ [if x.f1 < v.f1 then v else x] := by
  intro M
  induction M with
  | nil => intro _ h; show putV v [x] = [_]; unfold putV; rw [if_neg (by omega), if_pos h]; split <;> rfl
  | cons y M ih =>
    intro h hx
    have h1 := h y List.mem_cons_self
    show putV v (y :: (M ++ [x])) = _
    unfold putV
    rw [if_neg (by omega), if_neg (by omega), ih (fun z hz => h z (List.mem_cons_of_mem _ hz)) hx]
    rfl
theorem putV_past (v x : S30) : ∀ M : List S30, Rise (M ++ [x]) → (∃ y ∈ M, v.f0 ≤ y.f0) → putV v (M ++ [x]) = putV v M ++ [x] := by
  intro M
  induction M with
  | nil => rintro _ ⟨y, hy, _⟩; cases hy
  | cons y M ih =>
    rintro hr ⟨z, hz, hvz⟩
    have hr2 : Rise (y :: (M ++ [x])) := hr
    obtain ⟨h1, h2⟩ := List.pairwise_cons.1 hr2
    show putV v (y :: (M ++ [x])) = _
    unfold putV
    by_cases c1 : v.f0 < y.f0
    · rw [if_pos c1, if_pos c1]; rfl
    · rw [if_neg c1, if_neg c1]
      by_cases c2 : v.f0 = y.f0
      · rw [if_pos c2, if_pos c2]; split <;> rfl
      · rw [if_neg c2, if_neg c2]
        rcases List.mem_cons.1 hz with rfl | hz
        · omega
        · rw [ih h2 ⟨z, hz, hvz⟩]; rfl
/-- What Add has of the first i votes. -/
structure AddAt (v : S30) (l : List S30) (i : Nat) (put : Bool) (out : List S30) : Prop where
  no : put = false → out = l.take i ∧ ∀ y ∈ l.take i, y.f0 < v.f0
  yes : put = true → out = putV v (l.take i) ∧ ∃ y ∈ l.take i, v.f0 ≤ y.f0
theorem AddAt.len {v : S30} {l : List S30} {i : Nat} {put : Bool} {out : List S30} (h : AddAt v l i put out) : out.length ≤ i + 1 := by
  cases put with
  | false => rw [(h.no rfl).1, List.length_take]; omega
  | true => rw [(h.yes rfl).1]; have := length_putV v (l.take i); rw [List.length_take] at this; omega
theorem AddAt.go {v : S30} {l : List S30} (hr : Rise l) {i : Nat} (hi : i < l.length) {out : List S30} (h : AddAt v l i true out) : AddAt v l (i + 1) true (out ++ [l.getD i z30]) := by
  obtain ⟨h1, y, hy, hvy⟩ := h.yes rfl
  refine ⟨fun e => (by cases e), fun _ => ?_⟩
  rw [take_snoc l i z30 hi]
  have hr2 : Rise (l.take i ++ [l.getD i z30]) := by rw [← take_snoc l i z30 hi]; exact hr.sublist (List.take_sublist _ _)
  exact ⟨by rw [putV_past v _ _ hr2 ⟨y, hy, hvy⟩, h1], y, List.mem_append_left _ hy, hvy⟩
theorem AddAt.less {v : S30} {l : List S30} {i : Nat} (hi : i < l.length) {out : List S30} (h : AddAt v l i false out) (hx : (l.getD i z30).f0 < v.f0) : AddAt v l (i + 1) false (out ++ [l.getD i z30]) := by
  obtain ⟨h1, h2⟩ := h.no rfl
  refine ⟨fun _ => ?_, fun e => (by cases e)⟩
  rw [take_snoc l i z30 hi, h1]
  refine ⟨rfl, fun y hy => ?_⟩
  rcases List.mem_append.1 hy with hy | hy
  · exact h2 y hy
  · rw [List.mem_singleton] at hy; subst hy; exact hx
theorem AddAt.past {v : S30} {l : List S30} {i : Nat} (hi : i < l.length) {out : List S30} (h : AddAt v l i false out) (hx : v.f0 < (l.getD i z30).f0) : AddAt v l (i + 1) true (out ++ [v] ++ [l.getD i z30]) := by
  obtain ⟨h1, h2⟩ := h.no rfl
  refine ⟨fun e => (by cases e), fun _ => ?_⟩
  rw [take_snoc l i z30 hi, h1]
  exact ⟨by rw [putV_less v _ _ h2 hx, List.append_assoc]; rfl, _, List.mem_append_right _ List.mem_cons_self, by omega⟩
theorem AddAt.best {v : S30} {l : List S30} {i : Nat} (hi : i < l.length) {out : List S30} (h : AddAt v l i false out) (hx : v.f0 = (l.getD i z30).f0) (hb : (l.getD i z30).f1 < v.f1) : AddAt v l (i + 1) true (out ++ [v]) := by
  obtain ⟨h1, h2⟩ := h.no rfl
  refine ⟨fun e => (by cases e), fun _ => ?_⟩
  rw [take_snoc l i z30 hi, h1]
  exact ⟨by rw [putV_eq v _ _ h2 hx, if_pos hb], _, List.mem_append_right _ List.mem_cons_self, by omega⟩
theorem AddAt.stay {v : S30} {l : List S30} {i : Nat} (hi : i < l.length) {out : List S30} (h : AddAt v l i false out) (hx : v.f0 = (l.getD i z30).f0) (hb : ¬ (l.getD i z30).f1 < v.f1) : AddAt v l (i + 1) true (out ++ [l.getD i z30]) := by
  obtain ⟨h1, h2⟩ := h.no rfl
  refine ⟨fun e => (by cases e), fun _ => ?_⟩
  rw [take_snoc l i z30 hi, h1]
  exact ⟨by rw [putV_eq v _ _ h2 hx, if_neg hb], _, List.mem_append_right _ List.mem_cons_self, by omega⟩
theorem AddAt.endNo {v : S30} {l : List S30} {out : List S30} (h : AddAt v l l.length false out) : out ++ [v] = putV v l := by
  obtain ⟨h1, h2⟩ := h.no rfl
  rw [List.take_length] at h1 h2
  rw [h1, putV_end v l h2]
theorem AddAt.endYes {v : S30} {l : List S30} {out : List S30} (h : AddAt v l l.length true out) : out = putV v l := by
  have := (h.yes rfl).1
  rw [List.take_length] at this
  exact this

theorem atF30 {w : World} {ok : Nat → Prop} {A : Option Addr} {n : Nat} {xs : List S30} (h : Kd.F k30 w ok A n xs) {i : Nat} (hi : i < n) : ∃ ad A2 c2, A = some ad ∧ w.cell? (ad.add (i * 3)) = some (.int .i64 (xs.getD i z30).f0) ∧ w.cell? ⟨(ad.add (i * 3)).block, (ad.add (i * 3)).off + 1, none⟩ = some (.int .i64 (xs.getD i z30).f1) ∧ w.cell? ⟨(ad.add (i * 3)).block, (ad.add (i * 3)).off + 2, none⟩ = some (.slice A2 (xs.getD i z30).f2.length c2) ∧ Kd.FK k30 w ok (xs.getD i z30) [.int .i64 (xs.getD i z30).f0, .int .i64 (xs.getD i z30).f1, .slice A2 (xs.getD i z30).f2.length c2] := by
  obtain ⟨ad, c, e, _, hK, hc0, _⟩ := Kd.F_get h z30 (i : Int) (by omega) (by omega)
  simp only [Int.toNat_natCast] at hK hc0
  have hc : ∀ j u, c[j]? = some u → w.cell? (ad.add (i * 3 + j)) = some u := hc0
  obtain ⟨A2, c2, rfl, l2, g2⟩ := k30_openF hK
  exact ⟨ad, A2, c2, e, hc 0 _ rfl, by rw [← add_field _ _ 1 (by omega)]; exact hc 1 _ rfl, by rw [← add_field _ _ 2 (by omega)]; exact hc 2 _ rfl, hK⟩
set_option maxHeartbeats 8000000 in
set_option maxRecDepth 100000 in
theorem addC (A0 : Option Addr) (c0 : Nat) (l : List S30) (A1 : Option Addr) (c1 : Nat) (v : S30) (w : World) (hr : Kd.C k30 w A0 l.length l) (hc : l.length ≤ c0) (hv : (Kd.int .u8).C w A1 v.f2.length v.f2) (hc1 : v.f2.length ≤ c1) (hrise : Rise l) (hl : l.length ≤ 100000) :
    Calls Try.prog 34 #[.slice A0 l.length c0, .agg #[.int .i64 v.f0, .int .i64 v.f1, .slice A1 v.f2.length c1]] w fun e w' => ∃ (A' : Option Addr) (c' : Nat), e = .returned (.slice A' (putV v l).length c') ∧ (putV v l).length ≤ c' ∧ Kd.C k30 w' A' (putV v l).length (putV v l) ∧ Below w.heap.size w w' := by
  have HRISE := Aside0.mk hrise
  have HL := Aside0.mk hl
  have hbig : l.length ≤ 9223372036854775807 := by omega
  obtain ⟨W0, hW0⟩ : ∃ W0, W0 = w.alloc (.cells #[.int .i64 v.f0, .int .i64 v.f1, .slice A1 v.f2.length c1] 30) := ⟨_, rfl⟩
  have HBW := Aside0.mk (show Below w.heap.size w W0 by rw [hW0]; exact below_alloc (Below.refl _ _) _)
  have FV := Aside0.mk (show Kd.FK k30 W0 (fun k => k < W0.heap.size) v [.int .i64 v.f0, .int .i64 v.f1, .slice A1 v.f2.length c1] from fun W' hW => k30_heap.K (fun k hk => hW k hk hk) (by rw [hW0]; exact k30_mk _ v hc1 (Kd.C_alloc hv _)))
  have FL := Aside0.mk (Kd.C_F k30_heap (show Kd.C k30 W0 A0 l.length l by rw [hW0]; exact Kd.C_alloc hr _))
  have HBOX := Aside0.mk (show W0.heap[w.heap.size]? = some (.cells #[.int .i64 v.f0, .int .i64 v.f1, .slice A1 v.f2.length c1] 30 (0, 0)) by rw [hW0]; exact heap_alloc_new w _)
  clear hr hv hc hc1 hrise hl
  go_enter Try.func34, Try.ntmps34
  go_wp2
  rw [← hW0]
  have HLT := Aside0.mk (show w.heap.size < W0.heap.size by rw [hW0]; simp)
  clear hW0
  go_loopg [5, 6, 7] l.length (fun kq v5 v6 v7 w' => ∃ (i : Nat) (put : Bool) (out : List S30), v7 = .int .i64 i ∧ v6 = .bool put ∧ i ≤ l.length ∧ l.length - i ≤ kq ∧ Aside0 (AddAt v l i put out) ∧ Aside0 (Kd.N k30 30 w' W0.heap.size (fun _ => True) v5 out) ∧ Aside0 (Below W0.heap.size W0 w'))
  case atStart => exact ⟨0, false, [], rfl, rfl, Nat.zero_le _, by omega, ⟨⟨fun _ => ⟨rfl, fun y hy => by simp at hy⟩, fun e => (by cases e)⟩⟩, ⟨Kd.N_nil _ _ _ _ _⟩, ⟨Below.refl _ _⟩⟩
  case round =>
    obtain ⟨i, put, out, rfl, rfl, hi, hg, HAD, HN, HB⟩ := hrel
    have HVB := Aside0.mk ((HB.out.block _ HLT.out).trans HBOX.out)
    have hv0 : wr.cell? ⟨w.heap.size, 0, none⟩ = some (.int .i64 v.f0) := (blk_cell HVB.out 0).trans rfl
    have hv1 : wr.cell? ⟨w.heap.size, 1, none⟩ = some (.int .i64 v.f1) := (blk_cell HVB.out 1).trans rfl
    have hv2 : wr.cell? ⟨w.heap.size, 2, none⟩ = some (.slice A1 v.f2.length c1) := (blk_cell HVB.out 2).trans rfl
    have hvl := blk_lt HVB.out
    have hvn := Nat.ne_of_lt hvl
    by_cases hlt : i < l.length
    · have hltz : (i : Int) < (l.length : Int) := by omega
      obtain ⟨ad, A2, c2, rfl, hx0, hx1, hx2, hfx⟩ := atF30 FL.out hlt
      have HX0 := Aside0.mk hx0
      have HX1 := Aside0.mk hx1
      have HX2 := Aside0.mk hx2
      replace hx0 := (HB.out.cell (World.block_lt_of_cell? W0 _ hx0)).trans hx0
      replace hx1 := (HB.out.cell (World.block_lt_of_cell? W0 _ hx1)).trans hx1
      replace hx2 := (HB.out.cell (World.block_lt_of_cell? W0 _ hx2)).trans hx2
      have FX := Aside0.mk hfx
      obtain ⟨x, hx⟩ : ∃ x, x = l.getD i z30 := ⟨_, rfl⟩
      rw [← hx] at hx0 hx1 hx2 FX HX0 HX1 HX2
      clear hfx
      cases put with
      | true =>
        have HA2 := Aside0.mk (HAD.out.go HRISE.out hlt)
        rw [← hx] at HA2
        clear hx
        go_wp2
        go_quiet (fail)
        go_wp2_with (at_builtin; refine Kd.N_append k30 (w0 := W0) W0.heap.size rfl _ _ 22 30 (.agg #[(.int .i64 0), (.int .i64 0), (.slice none 0 0)]) 40 rfl Try.underlying22 g_info30 rfl (by decide) (by omega) u5 out x [.int .i64 x.f0, .int .i64 x.f1, .slice A2 x.f2.length c2] (fun _ => True) (fun k => k < W0.heap.size) rfl rfl (Kd.FK_below FX.out (by repeat (first | exact HB.out | refine pw_below_drewN ?_ _))) (fun k hk => ⟨trivial, fun e => by have h1 := Kd.N_base HN.out k e.symm; omega⟩) (fun _ _ => trivial) (by repeat (first | exact HN.out | refine Kd.N_drewN ?_ _)) (by repeat (first | exact HB.out | refine pw_below_drewN ?_ _)) HB.out.size (by have h1 := HL.out; have h2 := HAD.out.len; simp; omega) ?_; intro v5 w5 ho_ hb_ hg_ hat_; have Nv5 := Aside0.mk ho_; have Bv5 := Aside0.mk hb_; clear ho_ hb_ hg_ hat_)
        go_roundg (l.length - (i + 1))
        case measure => omega
        case rel => exact ⟨i + 1, true, out ++ [x], by go_num, rfl, by omega, by omega, HA2, Nv5, Bv5⟩
      | false =>
        by_cases e1 : v.f0 ≤ x.f0
        · have f1 : decide (v.f0 ≤ x.f0) = true := decide_eq_true e1
          by_cases e2 : v.f0 < x.f0
          · have f2 : decide (v.f0 < x.f0) = true := decide_eq_true e2
            have HA2 := Aside0.mk (HAD.out.past hlt (by rw [← hx]; exact e2))
            rw [← hx] at HA2
            clear hx e1 e2
            go_wp2
            go_quiet (fail)
            go_wp2
            go_quiet (fail)
            go_wp2_with (first | (at_builtin; refine Kd.N_append k30 (w0 := W0) W0.heap.size rfl _ _ 22 30 (.agg #[(.int .i64 0), (.int .i64 0), (.slice none 0 0)]) 40 rfl Try.underlying22 g_info30 rfl (by decide) (by omega) u5 out v [.int .i64 v.f0, .int .i64 v.f1, .slice A1 v.f2.length c1] (fun _ => True) (fun k => k < W0.heap.size) rfl rfl (Kd.FK_below FV.out (by repeat (first | exact HB.out | refine pw_below_drewN ?_ _))) (fun k hk => ⟨trivial, fun e => by have h1 := Kd.N_base HN.out k e.symm; omega⟩) (fun _ _ => trivial) (by repeat (first | exact HN.out | refine Kd.N_drewN ?_ _)) (by repeat (first | exact HB.out | refine pw_below_drewN ?_ _)) HB.out.size (by have h1 := HL.out; have h2 := HAD.out.len; simp; omega) ?_; intro v5 w5 ho_ hb_ hg_ hat_; have Nv5 := Aside0.mk ho_; have Bv5 := Aside0.mk hb_; clear ho_ hb_ hg_ hat_; have hz0 := (Bv5.out.cell (World.block_lt_of_cell? W0 _ HX0.out)).trans HX0.out; have hz1 := (Bv5.out.cell (World.block_lt_of_cell? W0 _ HX1.out)).trans HX1.out; have hz2 := (Bv5.out.cell (World.block_lt_of_cell? W0 _ HX2.out)).trans HX2.out) | (at_builtin; refine Kd.N_append k30 (w0 := W0) W0.heap.size rfl _ _ 22 30 (.agg #[(.int .i64 0), (.int .i64 0), (.slice none 0 0)]) 40 rfl Try.underlying22 g_info30 rfl (by decide) (by omega) v5 (out ++ [v]) x [.int .i64 x.f0, .int .i64 x.f1, .slice A2 x.f2.length c2] (fun _ => True) (fun k => k < W0.heap.size) rfl rfl (Kd.FK_below FX.out (by repeat (first | exact Bv5.out | refine pw_below_drewN ?_ _))) (fun k hk => ⟨trivial, fun e => by have h1 := Kd.N_base Nv5.out k e.symm; omega⟩) (fun _ _ => trivial) (by repeat (first | exact Nv5.out | refine Kd.N_drewN ?_ _)) (by repeat (first | exact Bv5.out | refine pw_below_drewN ?_ _)) Bv5.out.size (by have h1 := HL.out; have h2 := HAD.out.len; simp; omega) ?_; intro v6 w6 ho_ hb_ hg_ hat_; have Nv6 := Aside0.mk ho_; have Bv6 := Aside0.mk hb_; clear ho_ hb_ hg_ hat_))
            go_roundg (l.length - (i + 1))
            case measure => omega
            case rel => exact ⟨i + 1, true, out ++ [v] ++ [x], by go_num, rfl, by omega, by omega, HA2, Nv6, Bv6⟩
          · have f2 : decide (v.f0 < x.f0) = false := decide_eq_false e2
            by_cases e3 : x.f1 < v.f1
            · have f3 : decide (x.f1 < v.f1) = true := decide_eq_true e3
              have HA2 := Aside0.mk (HAD.out.best hlt (by rw [← hx]; omega) (by rw [← hx]; exact e3))
              clear hx e1 e2 e3
              go_wp2
              go_quiet (fail)
              go_wp2
              go_quiet (fail)
              go_wp2
              go_quiet (fail)
              go_wp2_with (at_builtin; refine Kd.N_append k30 (w0 := W0) W0.heap.size rfl _ _ 22 30 (.agg #[(.int .i64 0), (.int .i64 0), (.slice none 0 0)]) 40 rfl Try.underlying22 g_info30 rfl (by decide) (by omega) u5 out v [.int .i64 v.f0, .int .i64 v.f1, .slice A1 v.f2.length c1] (fun _ => True) (fun k => k < W0.heap.size) rfl rfl (Kd.FK_below FV.out (by repeat (first | exact HB.out | refine pw_below_drewN ?_ _))) (fun k hk => ⟨trivial, fun e => by have h1 := Kd.N_base HN.out k e.symm; omega⟩) (fun _ _ => trivial) (by repeat (first | exact HN.out | refine Kd.N_drewN ?_ _)) (by repeat (first | exact HB.out | refine pw_below_drewN ?_ _)) HB.out.size (by have h1 := HL.out; have h2 := HAD.out.len; simp; omega) ?_; intro v5 w5 ho_ hb_ hg_ hat_; have Nv5 := Aside0.mk ho_; have Bv5 := Aside0.mk hb_; clear ho_ hb_ hg_ hat_)
              go_roundg (l.length - (i + 1))
              case measure => omega
              case rel => exact ⟨i + 1, true, out ++ [v], by go_num, rfl, by omega, by omega, HA2, Nv5, Bv5⟩
            · have f3 : decide (x.f1 < v.f1) = false := decide_eq_false e3
              have HA2 := Aside0.mk (HAD.out.stay hlt (by rw [← hx]; omega) (by rw [← hx]; exact e3))
              rw [← hx] at HA2
              clear hx e1 e2 e3
              go_wp2
              go_quiet (fail)
              go_wp2
              go_quiet (fail)
              go_wp2
              go_quiet (fail)
              go_wp2_with (at_builtin; refine Kd.N_append k30 (w0 := W0) W0.heap.size rfl _ _ 22 30 (.agg #[(.int .i64 0), (.int .i64 0), (.slice none 0 0)]) 40 rfl Try.underlying22 g_info30 rfl (by decide) (by omega) u5 out x [.int .i64 x.f0, .int .i64 x.f1, .slice A2 x.f2.length c2] (fun _ => True) (fun k => k < W0.heap.size) rfl rfl (Kd.FK_below FX.out (by repeat (first | exact HB.out | refine pw_below_drewN ?_ _))) (fun k hk => ⟨trivial, fun e => by have h1 := Kd.N_base HN.out k e.symm; omega⟩) (fun _ _ => trivial) (by repeat (first | exact HN.out | refine Kd.N_drewN ?_ _)) (by repeat (first | exact HB.out | refine pw_below_drewN ?_ _)) HB.out.size (by have h1 := HL.out; have h2 := HAD.out.len; simp; omega) ?_; intro v5 w5 ho_ hb_ hg_ hat_; have Nv5 := Aside0.mk ho_; have Bv5 := Aside0.mk hb_; clear ho_ hb_ hg_ hat_)
              go_roundg (l.length - (i + 1))
              case measure => omega
              case rel => exact ⟨i + 1, true, out ++ [x], by go_num, rfl, by omega, by omega, HA2, Nv5, Bv5⟩
        · have f1 : decide (v.f0 ≤ x.f0) = false := decide_eq_false e1
          have HA2 := Aside0.mk (HAD.out.less hlt (by rw [← hx]; omega))
          rw [← hx] at HA2
          clear hx e1
          go_wp2
          go_quiet (fail)
          go_wp2_with (at_builtin; refine Kd.N_append k30 (w0 := W0) W0.heap.size rfl _ _ 22 30 (.agg #[(.int .i64 0), (.int .i64 0), (.slice none 0 0)]) 40 rfl Try.underlying22 g_info30 rfl (by decide) (by omega) u5 out x [.int .i64 x.f0, .int .i64 x.f1, .slice A2 x.f2.length c2] (fun _ => True) (fun k => k < W0.heap.size) rfl rfl (Kd.FK_below FX.out (by repeat (first | exact HB.out | refine pw_below_drewN ?_ _))) (fun k hk => ⟨trivial, fun e => by have h1 := Kd.N_base HN.out k e.symm; omega⟩) (fun _ _ => trivial) (by repeat (first | exact HN.out | refine Kd.N_drewN ?_ _)) (by repeat (first | exact HB.out | refine pw_below_drewN ?_ _)) HB.out.size (by have h1 := HL.out; have h2 := HAD.out.len; simp; omega) ?_; intro v5 w5 ho_ hb_ hg_ hat_; have Nv5 := Aside0.mk ho_; have Bv5 := Aside0.mk hb_; clear ho_ hb_ hg_ hat_)
          go_roundg (l.length - (i + 1))
          case measure => omega
          case rel => exact ⟨i + 1, false, out ++ [x], by go_num, rfl, by omega, by omega, HA2, Nv5, Bv5⟩
    · have hltz : ¬ (i : Int) < (l.length : Int) := by omega
      obtain rfl : i = l.length := by omega
      cases put with
      | true =>
        go_wp2
        go_ret
        rw [← HAD.out.endYes]
        obtain ⟨A', c', rfl, h1, h2⟩ := Kd.N_reads HN.out
        exact ⟨A', c', rfl, h1, h2, HBW.out.trans (HB.out.mono HBW.out.size)⟩
      | false =>
        go_wp2_with (at_builtin; refine Kd.N_append k30 (w0 := W0) W0.heap.size rfl _ _ 22 30 (.agg #[(.int .i64 0), (.int .i64 0), (.slice none 0 0)]) 40 rfl Try.underlying22 g_info30 rfl (by decide) (by omega) u5 out v [.int .i64 v.f0, .int .i64 v.f1, .slice A1 v.f2.length c1] (fun _ => True) (fun k => k < W0.heap.size) rfl rfl (Kd.FK_below FV.out (by repeat (first | exact HB.out | refine pw_below_drewN ?_ _))) (fun k hk => ⟨trivial, fun e => by have h1 := Kd.N_base HN.out k e.symm; omega⟩) (fun _ _ => trivial) (by repeat (first | exact HN.out | refine Kd.N_drewN ?_ _)) (by repeat (first | exact HB.out | refine pw_below_drewN ?_ _)) HB.out.size (by have h1 := HL.out; have h2 := HAD.out.len; simp; omega) ?_; intro v5 w5 ho_ hb_ hg_ hat_; have Nv5 := Aside0.mk ho_; have Bv5 := Aside0.mk hb_; clear ho_ hb_ hg_ hat_)
        go_ret
        rw [← HAD.out.endNo]
        obtain ⟨A', c', rfl, h1, h2⟩ := Kd.N_reads Nv5.out
        exact ⟨A', c', rfl, h1, h2, HBW.out.trans (Bv5.out.mono HBW.out.size)⟩
end Go.Proofs.Ytjofllllnmfneaa.P
