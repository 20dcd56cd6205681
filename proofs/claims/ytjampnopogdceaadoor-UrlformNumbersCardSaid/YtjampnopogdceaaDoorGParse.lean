/- urlform.Parse, by hand, in the print's own form. No conditions. -/
import Derived.Test.YtjampnopogdceaaDoorGEsc
namespace Go.Proofs.YtjampnopogdceaaDoor.P
open Go.RowKit Go.Lib Go.Shelf Go.Proofs.YtjampnopogdceaaDoorW.PrintWords Go.Proofs.YtjampnopogdceaaDoorW.PrintLast Go.Proofs.YtjampnopogdceaaDoorW.PrintMore
set_option linter.unusedVariables false
set_option linter.unusedSimpArgs false

def toS (p : Pr) : S45 := ⟨ofL p.1, ofL p.2⟩
def urlform_Parse.f (a0 : ByteArray) : Option (List S45 × Int × Int) := some ((parse a0.data.toList).1.map toS, ((parse a0.data.toList).2.1 : Int), ((parse a0.data.toList).2.2 : Int))
theorem wrapS {x : Int} (h1 : -9223372036854775808 ≤ x) (h2 : x ≤ 9223372036854775807) : wrap64 x = x := by unfold wrap64; omega
theorem wA (x : Nat) (h : x ≤ 4300000000) : wrap64 ((x : Int) + 1) = (x : Int) + 1 := wrapS (by omega) (by omega)
theorem wB (x y : Nat) (h : x ≤ 4300000000) (h2 : y ≤ 4300000000) : wrap64 ((x : Int) + ((y : Int) + 1)) = (x : Int) + ((y : Int) + 1) := wrapS (by omega) (by omega)
theorem wC (x y : Nat) (h : x ≤ 4300000000) (h2 : y ≤ 4300000000) : wrap64 ((x : Int) + (y : Int)) = (x : Int) + (y : Int) := wrapS (by omega) (by omega)
theorem wD (x y : Nat) (h : x ≤ 4300000000) (h2 : y ≤ 4300000000) : wrap64 ((x : Int) + (y : Int) + 1) = (x : Int) + (y : Int) + 1 := wrapS (by omega) (by omega)
theorem wE (x y z : Nat) (h : x ≤ 4300000000) (h2 : y ≤ 4300000000) (h3 : z ≤ 4300000000) : wrap64 ((x : Int) + (y : Int) + 1 + (z : Int)) = (x : Int) + (y : Int) + 1 + (z : Int) := wrapS (by omega) (by omega)
theorem unC (l : L8) (n : L8) (b e0 : Nat) (hl : l.length ≤ 35184372088832) (hu : un l 0 [] = (n, b, e0)) (w : World) :
    Calls Tryd.prog 9 #[.string ⟨l.toArray⟩] w fun e w' => e = .returned (.tuple #[.string (ofL n), .int .i64 b, .int .i64 e0]) ∧ Below w.heap.size w w' :=
  urlform_Unescape.calls ⟨l.toArray⟩ _ _ _ w (by
    unfold urlform_Unescape.f
    rw [if_pos (by rw [← size_list]; simpa using hl)]
    simp [hu])
theorem segs_le (c : UInt8) (l : L8) : ∀ p ∈ segs c l, p.length ≤ l.length := by
  induction l with
  | nil => intro p hp; simp [segs] at hp; subst hp; simp
  | cons b r ih =>
    intro p hp
    rw [segs] at hp
    split at hp
    · rcases List.mem_cons.1 hp with rfl | hp
      · simp
      · have := ih p hp; simp; omega
    · split at hp
      · rename_i h; simp at hp; subst hp; simp
      · rename_i q qs h
        rw [h] at ih
        rcases List.mem_cons.1 hp with rfl | hp
        · have := ih q (by simp); simp; omega
        · have := ih p (List.mem_cons_of_mem _ hp); simp; omega
theorem cut_le (l sep : L8) : (cut l sep).1.length ≤ l.length ∧ (cut l sep).2.1.length ≤ l.length := by
  unfold cut; split
  · simp; omega
  · simp
def psOf (a0 : ByteArray) : List ByteArray := splitB ⟨#[38]⟩ 0 (a0.data.toList.count 38) a0
theorem psOf_list (a0 : ByteArray) : (psOf a0).map (·.data.toList) = segs 38 a0.data.toList := by
  unfold psOf; rw [splitB_data, show (⟨#[38]⟩ : ByteArray).data.toList = [38] from rfl, splitK_segs]
theorem psOf_len (a0 : ByteArray) : (psOf a0).length = a0.data.toList.count 38 + 1 := by
  have h := splitB_all ⟨#[38]⟩ (Nat.le_refl 1) 0 (a0.data.toList.count 38) a0 (by rw [countB_one])
  exact h
theorem drop_seg (a0 : ByteArray) (i : Nat) (h : i < (psOf a0).length) : (segs 38 a0.data.toList).drop i = ((psOf a0)[i]'h).data.toList :: (segs 38 a0.data.toList).drop (i + 1) := by
  rw [← psOf_list, List.drop_eq_getElem_cons (by simpa using h)]; simp
theorem seg_size (a0 : ByteArray) (i : Nat) (h : i < (psOf a0).length) : ((psOf a0)[i]'h).data.toList.length ≤ a0.size := by
  rw [← size_list a0]
  refine segs_le 38 _ _ ?_
  rw [← psOf_list]
  exact List.mem_map_of_mem (List.getElem_mem h)

set_option maxHeartbeats 4000000 in
set_option maxRecDepth 100000 in
theorem urlform_Parse.calls (a0 : ByteArray) (r1 : List S45) (r2 r3 : Int) (w : World) (h : urlform_Parse.f a0 = some (r1, r2, r3)) :
    Calls Tryd.prog 14 #[.string a0] w fun e w' => ∃ v0_ : Value, e = .returned (.tuple #[v0_, .int .i64 r2, .int .i64 r3]) ∧ Kd.R k45 45 w' w.heap.size (fun _ => True) v0_ r1 ∧ Below w.heap.size w w' := by
  obtain ⟨rfl, rfl, rfl⟩ : (parse a0.data.toList).1.map toS = r1 ∧ ((parse a0.data.toList).2.1 : Int) = r2 ∧ ((parse a0.data.toList).2.2 : Int) = r3 := by simpa [urlform_Parse.f] using h
  clear h
  have hu45 := Tryd.underlying45
  by_cases h1 : 65536 < a0.size
  · have hp : parse a0.data.toList = ([], 0, 3) := by unfold parse; rw [if_pos (by rw [size_list]; exact h1)]
    rw [hp]
    have c1 : (65536 : Int) < (a0.size : Int) := by omega
    go_enter Tryd.func14, Tryd.ntmps14
    go_wp2
    go_ret3
    exact ⟨_, rfl, Kd.R_nil _ _ _ _ _, Below.refl _ _⟩
  · by_cases h2 : a0.size = 0
    · have he : a0 = ⟨#[]⟩ := by
        have hl : a0.data.toList = [] := List.eq_nil_of_length_eq_zero (by rw [size_list]; exact h2)
        have := Lib.mk_data a0
        rw [hl] at this
        exact this.symm
      subst he
      have hp : parse (⟨#[]⟩ : ByteArray).data.toList = ([], 0, 0) := by decide
      rw [hp]
      go_enter Tryd.func14, Tryd.ntmps14
      go_wp2
      go_ret3
      exact ⟨_, rfl, Kd.R_nil _ _ _ _ _, Below.refl _ _⟩
    · have hne : a0.data.toList ≠ [] := by intro e; have := size_list a0; rw [e] at this; simp at this; omega
      have hp : parse a0.data.toList = parseGo (segs 38 a0.data.toList) 0 [] := by unfold parse; rw [if_neg (by rw [size_list]; exact h1), if_neg hne]
      rw [hp]
      generalize hU : parseGo (segs 38 a0.data.toList) 0 [] = U
      have HU := Aside0.mk hU
      clear hU hp
      have HN := Aside0.mk hne
      have c1 : (a0.size : Int) ≤ 65536 := by omega
      have hS := fun w => splitC a0 38 w (by omega)
      have hpl := psOf_len a0
      change ∀ w, Calls Tryd.prog 33 #[.string a0, .string ⟨#[38]⟩] w fun e w' => e = .returned (.slice (some ⟨w.heap.size, 0, none⟩) (a0.data.toList.count 38 + 1) (a0.data.toList.count 38 + 1)) ∧ w' = w.alloc (.cells ((psOf a0).map Value.string).toArray 9) at hS
      rw [← hpl] at hS
      have hcl : (psOf a0).length ≤ 65537 := by
        have := segs_len 38 a0.data.toList
        rw [← psOf_list, List.length_map, size_list] at this; omega
      have HD := Aside0.mk (fun i h => drop_seg a0 i h)
      have HZ := Aside0.mk (fun i h => seg_size a0 i h)
      generalize hps : psOf a0 = ps at hS hcl HD HZ hpl
      have HS := Aside0.mk hS
      have HCL := Aside0.mk hcl
      have HSL := Aside0.mk (show (segs 38 a0.data.toList).length = ps.length by rw [← hps, ← psOf_list, List.length_map])
      clear hS hpl hps h1 h2 hcl hne
      go_enter Tryd.func14, Tryd.ntmps14
      have he0 : a0.toList.isEmpty = false := by
        rw [Lib.toList_data]
        cases h : a0.data.toList with
        | nil => exact absurd h HN.out
        | cons _ _ => rfl
      go_wp2_with (first
        | (go_at_call 33; (with_reducible refine (HS.out _).mono ?_); rintro e w' ⟨rfl, rfl⟩))
      clear HS he0
      generalize hw1 : w.alloc (.cells (ps.map Value.string).toArray 9) = w1
      have hbk : w1.heap[w.heap.size]? = some (.cells (ps.map Value.string).toArray 9 (0, 0)) := by rw [← hw1]; exact heap_alloc_new w _
      have B1 := Aside0.mk (show Below w.heap.size w w1 by rw [← hw1]; exact below_alloc (Below.refl _ _) _)
      have BK := Aside0.mk hbk
      clear hw1 hbk
      go_loopg [5, 6, 26] ps.length (fun kq v5 v6 v26 w' => ∃ (i : Nat) (out : List Pr) (a : Nat), v26 = .int .i64 i ∧ v6 = .int .i64 a ∧ i ≤ ps.length ∧ ps.length - i ≤ kq ∧ Aside0 (Kd.R k45 45 w' w1.heap.size (fun _ => True) v5 (out.map toS)) ∧ Aside0 (Below w1.heap.size w1 w') ∧ Aside0 (parseGo ((segs 38 a0.data.toList).drop i) a out = U) ∧ Aside0 (out.length ≤ 1024 ∧ a ≤ i * 65537))
      case atStart => exact ⟨0, [], 0, rfl, rfl, Nat.zero_le _, by omega, ⟨Kd.R_nil _ _ _ _ _⟩, ⟨Below.refl _ _⟩, HU, ⟨by simp⟩⟩
      case round =>
        obtain ⟨i, out, a, rfl, rfl, hi, hg, HO, HB, HE, HA⟩ := hrel
        have hr5 := Kd.R_reads HO.out
        obtain ⟨A5, c5, rfl, hc5, hC5⟩ := hr5
        rw [List.length_map] at hc5 hC5
        clear hC5
        have hlo : (out.map toS).length = out.length := List.length_map _
        have hO := HO.out
        rw [hlo] at hO
        have HO := Aside0.mk hO
        clear hO
        by_cases hlt : i < ps.length
        · have hcell : wr.cell? ⟨w.heap.size, i, none⟩ = some (.string (ps[i]'hlt)) := by
            have hb := (HB.out.block w.heap.size (blk_lt BK.out)).trans BK.out
            exact (blk_cell hb i).trans (by simp [hlt])
          have hsz := HZ.out i hlt
          have hE := HE.out
          rw [HD.out i hlt, parseGo] at hE
          have BW := Aside0.mk (B1.out.trans (HB.out.mono B1.out.size))
          have hai : a ≤ 4300000000 := by have := HA.out; have := HCL.out; omega
          have hii : i ≤ 65537 := by have := HCL.out; omega
          by_cases hF : out.length = 1024
          · have cF : ((out.length : Int) == 1024) = true := by rw [hF]; rfl
            rw [if_pos hF] at hE
            subst hE
            clear HE HU
            go_wp2
            go_ret3
            exact ⟨_, rfl, Kd.R_nil _ _ _ _ _, BW.out⟩
          · have cF : ((out.length : Int) == 1024) = false := by simpa using (show ¬ ((out.length : Int) = 1024) by omega)
            rw [if_neg hF] at hE
            have hcut := fun w => cutC (ps[i]'hlt) 61 w (by rw [← size_list]; omega)
            have hcl := cut_le (ps[i]'hlt).data.toList [61]
            generalize hq : ps[i]'hlt = q at hcell hsz hE hcut hcl
            have hqs : q.data.toList.length = q.size := size_list q
            rw [hqs] at hsz hE hcl
            generalize hnl : (cut q.data.toList [61]).1 = nl at hE hcut hcl
            generalize hvl : (cut q.data.toList [61]).2.1 = vl at hE hcut hcl
            generalize hfl : (cut q.data.toList [61]).2.2 = fl at hcut
            clear hnl hvl hfl hq hqs
            obtain ⟨n1, b1, e1, hu1⟩ : ∃ n1 b1 e1, un nl 0 [] = (n1, b1, e1) := ⟨_, _, _, rfl⟩
            obtain ⟨n2, b2, e2, hu2⟩ : ∃ n2 b2 e2, un vl 0 [] = (n2, b2, e2) := ⟨_, _, _, rfl⟩
            have hc1 := fun w => unC nl n1 b1 e1 (by omega) hu1 w
            have hc2 := fun w => unC vl n2 b2 e2 (by omega) hu2 w
            have hk1 := un_code nl nl.length (Nat.le_refl _) 0 []
            have hk2 := un_code vl vl.length (Nat.le_refl _) 0 []
            rw [hu1] at hE hk1
            rw [hu2] at hE hk2
            have hns : (⟨nl.toArray⟩ : ByteArray).size = nl.length := by rw [← size_list]
            dsimp only at hE hk1 hk2
            have HC := Aside0.mk hcut
            have HC1 := Aside0.mk hc1
            have HC2 := Aside0.mk hc2
            have hqi : q.size ≤ 65536 := by omega
            have hnq : nl.length ≤ 65536 := by omega
            generalize hnb : (⟨nl.toArray⟩ : ByteArray) = nb at HC HC1 hns
            generalize hvb : (⟨vl.toArray⟩ : ByteArray) = vb at HC HC2
            have hnb2 : nb.size ≤ 4300000000 := by rw [hns]; exact Nat.le_trans hnq (by decide)
            have hvq : vl.length ≤ 65536 := by omega
            have HNS := Aside0.mk hns
            clear hcut hc1 hc2 hu1 hu2 hcl hsz hnb hvb hns
            rcases hk1 with ⟨rfl, rfl⟩ | ⟨rfl, rfl, hb1⟩
            · rw [if_neg (by simp)] at hE
              rcases hk2 with ⟨rfl, rfl⟩ | ⟨rfl, rfl, hb2⟩
              · rw [if_neg (by simp)] at hE
                have HA2 := Aside0.mk (show (out ++ [(n1, n2)]).length ≤ 1024 ∧ a + q.size + 1 ≤ (i + 1) * 65537 by
                  have h1 := HA.out.1
                  have h2 := HA.out.2
                  clear hai hii
                  rw [Nat.add_mul, List.length_append]
                  simp only [List.length_singleton]
                  exact ⟨by omega, by omega⟩)
                have f1 := wA q.size (Nat.le_trans hqi (by decide))
                have f2 := wB a q.size hai (Nat.le_trans hqi (by decide))
                have f3 := wA i (Nat.le_trans hii (by decide))
                have HE2 := Aside0.mk hE
                have HQI := Aside0.mk hqi
                clear hE HE hnb2 hvq hnq hqi hai hii
                go_wp2_with (first
                  | (go_at_call 34; (with_reducible refine (HC.out _).mono ?_); rintro e w2 ⟨rfl, nd, rfl⟩; have O2 := Aside0.mk (Kd.R_drewN HO.out nd); have X2 := Aside0.mk (Words_below_drewN HB.out nd); have Z2 := Aside0.mk (Words_below_drewN BW.out nd))
                  | (go_at_call 9; (with_reducible refine (HC1.out _).mono ?_); rintro e w3 ⟨rfl, hb⟩; have O3 := Aside0.mk (Kd.R_below O2.out hb); have X3 := Aside0.mk (X2.out.trans (hb.mono X2.out.size)); have Z3 := Aside0.mk (Z2.out.trans (hb.mono Z2.out.size)); clear hb)
                  | (go_at_call 9; (with_reducible refine (HC2.out _).mono ?_); rintro e w4 ⟨rfl, hb⟩; have O4 := Aside0.mk (Kd.R_below O3.out hb); have X4 := Aside0.mk (X3.out.trans (hb.mono X3.out.size)); have Z4 := Aside0.mk (Z3.out.trans (hb.mono Z3.out.size)); clear hb)
                  | (at_builtin; refine Kd.R_append k45 (w0 := w1) w1.heap.size rfl _ _ 30 45 (.agg #[(.string ⟨#[]⟩), (.string ⟨#[]⟩)]) 32 rfl Tryd.underlying30 info45 rfl (by decide) (by omega) (.slice A5 out.length c5) (out.map toS) (toS (n1, n2)) [.string (ofL n1), .string (ofL n2)] (fun _ => True) (fun _ => False) rfl rfl (k45_mkM _ _ _ (toS (n1, n2))) (fun _ h => h.elim) (fun _ _ => trivial) O4.out X4.out X4.out.size (by rw [hlo]; have := HA.out; omega) ?_; intro v5 w5 hO5 hX5 hg5 hat5))
                rw [show out.map toS ++ [toS (n1, n2)] = (out ++ [(n1, n2)]).map toS by simp] at hO5
                have O5 := Aside0.mk hO5
                have X5 := Aside0.mk hX5
                clear hO5 hX5 hg5 hat5
                go_roundg (ps.length - (i + 1))
                case measure => clear f1 f2 f3 cF; omega
                case rel => exact ⟨i + 1, out ++ [(n1, n2)], a + q.size + 1, by rw [f3]; rfl, by rw [f2, ← Int.add_assoc]; rfl, hlt, Nat.le_refl _, O5, X5, HE2, HA2⟩
              · have hb2q : b2 ≤ 4300000000 := by rw [Nat.zero_add] at hb2; exact Nat.le_trans (Nat.le_of_lt hb2) (Nat.le_trans hvq (by decide))
                rw [if_pos (by decide)] at hE
                subst hE
                clear HE HU
                have f1 := wC a nb.size hai hnb2
                have f2 := wD a nb.size hai hnb2
                have f3 := wE a nb.size b2 hai hnb2 hb2q
                clear hb2 hb2q hnb2 hvq hnq hqi hai hii
                go_wp2_with (first
                  | (go_at_call 34; (with_reducible refine (HC.out _).mono ?_); rintro e w2 ⟨rfl, nd, rfl⟩; have O2 := Aside0.mk (Kd.R_drewN HO.out nd); have X2 := Aside0.mk (Words_below_drewN HB.out nd); have Z2 := Aside0.mk (Words_below_drewN BW.out nd))
                  | (go_at_call 9; (with_reducible refine (HC1.out _).mono ?_); rintro e w3 ⟨rfl, hb⟩; have O3 := Aside0.mk (Kd.R_below O2.out hb); have X3 := Aside0.mk (X2.out.trans (hb.mono X2.out.size)); have Z3 := Aside0.mk (Z2.out.trans (hb.mono Z2.out.size)); clear hb)
                  | (go_at_call 9; (with_reducible refine (HC2.out _).mono ?_); rintro e w4 ⟨rfl, hb⟩; have O4 := Aside0.mk (Kd.R_below O3.out hb); have X4 := Aside0.mk (X3.out.trans (hb.mono X3.out.size)); have Z4 := Aside0.mk (Z3.out.trans (hb.mono Z3.out.size)); clear hb))
                go_ret3
                exact ⟨_, by rw [← HNS.out]; rfl, Kd.R_nil _ _ _ _ _, Z4.out⟩
            · have hb1q : b1 ≤ 4300000000 := by rw [Nat.zero_add] at hb1; exact Nat.le_trans (Nat.le_of_lt hb1) (Nat.le_trans hnq (by decide))
              rw [if_pos (by decide)] at hE
              subst hE
              clear HE HU
              have f1 := wC a b1 hai hb1q
              clear hb1 hb1q hnb2 hvq hnq hqi hai hii hk2
              go_wp2_with (first
                  | (go_at_call 34; (with_reducible refine (HC.out _).mono ?_); rintro e w2 ⟨rfl, nd, rfl⟩; have O2 := Aside0.mk (Kd.R_drewN HO.out nd); have X2 := Aside0.mk (Words_below_drewN HB.out nd); have Z2 := Aside0.mk (Words_below_drewN BW.out nd))
                  | (go_at_call 9; (with_reducible refine (HC1.out _).mono ?_); rintro e w3 ⟨rfl, hb⟩; have O3 := Aside0.mk (Kd.R_below O2.out hb); have X3 := Aside0.mk (X2.out.trans (hb.mono X2.out.size)); have Z3 := Aside0.mk (Z2.out.trans (hb.mono Z2.out.size)); clear hb))
              go_ret3
              exact ⟨_, rfl, Kd.R_nil _ _ _ _ _, Z3.out⟩
        · obtain rfl : i = ps.length := by omega
          have BW := Aside0.mk (B1.out.trans (HB.out.mono B1.out.size))
          have hE := HE.out
          rw [List.drop_eq_nil_of_le (by rw [HSL.out]; exact Nat.le_refl _), parseGo] at hE
          subst hE
          go_wp2
          go_ret3
          exact ⟨_, rfl, Kd.R_lower HO.out B1.out.size, BW.out⟩
end Go.Proofs.YtjampnopogdceaaDoor.P
