/- racewayref15.Load, by hand, in the print's own form: all numbers are read, then held against their dump. No conditions. -/
import Derived.Test.YteppmdafdopehaaP21
import Derived.Test.YteppmdafdopehaaP23
import Derived.Deep.LoopGhost
import Derived.IntWalk
import Derived.Lib.Strings
namespace Go.Proofs.Yteppmdafdopehaa.P
open Go.RowKit Go.Proofs.YteppmdafdopehaaW.PrintWords Go.Proofs.YteppmdafdopehaaW.PrintLast Go.Proofs.YteppmdafdopehaaW.PrintMore
set_option linter.unusedVariables false
set_option linter.unusedSimpArgs false
def racewayref15_Load.l0 : Nat → List Int → Int → List Int → Option (Option (List Int))
  | 0, _, _, _ => none
  | k + 1, b, x, acc => if x < (b.length : Int) then (if 0 ≤ x then (racewayref01_ReadNum.f k (b.drop x.toNat)).bind fun t => (if t.2.2 = 0 then (if acc.length ≤ 1000000 ∧ 0 ≤ t.2.1 ∧ t.2.1 ≤ 1000 then racewayref15_Load.l0 k b (x + t.2.1) (acc ++ [t.1]) else none) else some none) else none) else some (some acc)
theorem racewayref15_Load.mono_l : ∀ k b x acc, LeO (racewayref15_Load.l0 k b x acc) (racewayref15_Load.l0 (k + 1) b x acc)
  | 0, _, _, _ => fun r h => by simp [racewayref15_Load.l0] at h
  | k + 1, b, x, acc => by
    simp only [racewayref15_Load.l0]
    exact LeO.ite (LeO.ite (LeO.bind (racewayref01_ReadNum.mono _ k) (fun t => LeO.ite (LeO.ite (racewayref15_Load.mono_l k _ _ _) (LeO.refl _)) (LeO.refl _))) (LeO.refl _)) (LeO.refl _)
/-- numbers, three by three -/
def pcs : List Int → List S43
  | a :: b :: c :: r => ⟨⟨a, b⟩, c⟩ :: pcs r
  | _ => []
def racewayref15_Load.f (k : Nat) (a0 : ByteArray) : Option (Int × List S43 × Int) := if a0.size ≤ 1000000000 then (racewayref15_Load.l0 k (bytesOf a0) 0 []).bind fun q => match q with
    | none => some (0, [], 5)
    | some l => if l.length ≤ 1000000 then (if l.length < 2 ∨ (l.length - 2) % 3 ≠ 0 then some (0, [], 5) else (racewayref15_Dump.f k (rd l 0) (pcs (l.drop 2))).bind fun d => if d.2 = 0 ∧ d.1 = a0 then some (rd l 0, pcs (l.drop 2), 0) else some (0, [], 5)) else none
  else none
theorem racewayref15_Load.mono : ∀ a0 k, LeO (racewayref15_Load.f k a0) (racewayref15_Load.f (k + 1) a0) := by
  intro a0 k
  unfold racewayref15_Load.f
  refine LeO.ite (LeO.bind (racewayref15_Load.mono_l k _ _ _) (fun q => ?_)) (LeO.refl _)
  cases q with
  | none => exact LeO.refl _
  | some l => exact LeO.ite (LeO.ite (LeO.refl _) (LeO.bind (racewayref15_Dump.mono _ _ k) (fun d => LeO.refl _))) (LeO.refl _)
theorem pcs_step (l : List Int) (i : Nat) (h : i + 2 < l.length) : pcs (l.drop i) = ⟨⟨rd l (i : Int), rd l ((i : Int) + 1)⟩, rd l ((i : Int) + 2)⟩ :: pcs (l.drop (i + 3)) := by
  have e1 : rd l (i : Int) = l[i] := by unfold rd; simp [show i < l.length by omega]
  have e2 : rd l ((i : Int) + 1) = l[i + 1] := by
    unfold rd
    rw [show ((i : Int) + 1).toNat = i + 1 by omega]
    simp [show i + 1 < l.length by omega]
  have e3 : rd l ((i : Int) + 2) = l[i + 2] := by
    unfold rd
    rw [show ((i : Int) + 2).toNat = i + 2 by omega]
    simp [h]
  rw [e1, e2, e3, List.drop_eq_getElem_cons (show i < l.length by omega), List.drop_eq_getElem_cons (show i + 1 < l.length by omega), List.drop_eq_getElem_cons h, pcs]
set_option maxHeartbeats 8000000 in
set_option maxRecDepth 100000 in
theorem racewayref15_Load.calls (k : Nat) (a0 : ByteArray) (r1 : Int) (r2 : List S43) (r3 : Int) (w : World) (h : racewayref15_Load.f k a0 = some (r1, r2, r3)) :
    Calls Try.prog 20 #[.string a0] w fun e w' => ∃ v1_ : Value, e = .returned (.tuple #[.agg #[.int .i64 r1, v1_], .int .i64 r3]) ∧ Kd.R k43 43 w' w.heap.size (fun _ => True) v1_ r2 ∧ Below w.heap.size w w' := by
  unfold racewayref15_Load.f at h
  by_cases hsz : a0.size ≤ 1000000000
  · rw [if_pos hsz] at h
    obtain ⟨q, hq, hfin⟩ := Option.bind_eq_some_iff.1 h
    have HQ := Aside0.mk hq
    have HE := Aside0.mk hfin
    have hcv := fun W => print_bytes (P := Try.prog) 9 61 5 Try.underlying9 Try.underlying61 Try.underlying5 a0 W
    obtain ⟨W0, hW0⟩ : ∃ W0, W0 = w.alloc (.cells #[.int .i64 0, .slice none 0 0] 24) := ⟨_, rfl⟩
    have B0 := Aside0.mk (show Below w.heap.size w W0 by rw [hW0]; exact below_alloc (Below.refl _ _) _)
    have K0 := Aside0.mk (show W0.heap[w.heap.size]? = some (.cells #[.int .i64 0, .slice none 0 0] 24 (0, 0)) by rw [hW0]; exact heap_alloc_new w _)
    clear hq hfin h
    go_enter Try.func20, Try.ntmps20
    go_wp2
    rw [← hW0]
    have hs0 : W0.heap.size = w.heap.size + 1 := by rw [hW0]; simp
    clear hW0 hcv
    obtain ⟨WB, hWB⟩ : ∃ WB, WB = Lib.bytesWorld W0 5 a0 := ⟨_, rfl⟩
    have B1 := Aside0.mk (show Below w.heap.size w WB by rw [hWB]; exact bytes_below B0.out B0.out.size 5 a0)
    have K1 := Aside0.mk (show WB.heap[w.heap.size]? = some (.cells #[.int .i64 0, .slice none 0 0] 24 (0, 0)) by rw [hWB]; exact (Lib.bytesWorld_at_old W0 5 a0 w.heap.size (by omega)).trans K0.out)
    have C1 := Aside0.mk (show Kd.C (Kd.int .u8) WB (some ⟨w.heap.size + 1, 0, none⟩) (bytesOf a0).length (bytesOf a0) by rw [hWB, ← hs0, bytesOf_length]; exact Kd.C_of_reads (bytes_reads W0 5 a0 (by omega)))
    rw [← hWB]
    have hcap : a0.size ≤ grownCap W0 a0.size 0 5 := grownCap_ge _ _ _ _
    generalize grownCap W0 a0.size 0 5 = cap at hcap ⊢
    have hbl : (bytesOf a0).length = a0.size := bytesOf_length a0
    rw [← hbl] at hcap ⊢
    have hszb : (bytesOf a0).length ≤ 1000000000 := by omega
    generalize bytesOf a0 = b at HQ C1 hcap hszb ⊢
    have hltW : w.heap.size < WB.heap.size := blk_lt K1.out
    clear hWB hs0 B0 K0 hbl
    go_loopg [5, 6] k (fun kq v5 v6 w' => ∃ (x : Int) (acc : List Int) (u : Value), v6 = .int .i64 x ∧ v5 = u ∧ kq ≤ k ∧ 0 ≤ x ∧ Aside0 (racewayref15_Load.l0 kq b x acc = some q) ∧ Aside0 (Kd.R (Kd.int .i64) 3 w' WB.heap.size (fun _ => True) u acc) ∧ Aside0 (Below WB.heap.size WB w'))
    case atStart => exact ⟨0, [], _, rfl, rfl, Nat.le_refl _, by omega, HQ, ⟨Kd.R_nil _ _ _ _ _⟩, ⟨Below.refl _ _⟩⟩
    case round =>
      obtain ⟨x, acc, u, rfl, rfl, hkq, hx0, HL, HR, HX⟩ := hrel
      have HB := Aside0.mk (B1.out.trans (HX.out.mono B1.out.size))
      have HK := Aside0.mk (blk_below K1.out HX.out)
      have HC := Aside0.mk (Kd.C_below C1.out HX.out)
      obtain ⟨Au, cu, rfl⟩ := Kd.R_slice HR.out
      have e5 : wr.cell? ⟨w.heap.size, 0, none⟩ = some (.int .i64 0) := (blk_cell HK.out 0).trans rfl
      have e6 : wr.cell? ⟨w.heap.size, 1, none⟩ = some (.slice none 0 0) := (blk_cell HK.out 1).trans rfl
      have e7 := blk_frozen HK.out 0
      have e8 := blk_frozen HK.out 1
      cases gk with
      | zero => exact absurd HL.out (by simp [racewayref15_Load.l0])
      | succ k1 =>
        have hl := HL.out
        simp only [racewayref15_Load.l0] at hl
        by_cases hlt : x < (b.length : Int)
        · rw [if_pos hlt, if_pos hx0] at hl
          obtain ⟨⟨t1, t2, t3⟩, ht, hl⟩ := Option.bind_eq_some_iff.1 hl
          obtain ⟨i5, hi5, _, hs5, _⟩ := info_parts info5
          obtain ⟨A', hrun, hrd, hcp⟩ := print_drop_of (P := Try.prog) (Value.int .u8) (0 : Int) 61 5 .i64 Try.underlying61 hi5 hs5 (some ⟨w.heap.size + 1, 0, none⟩) cap b x hx0 (by omega) hcap
          have hcall := racewayref01_ReadNum.calls k1 A' (cap - x.toNat) (b.drop x.toNat) t1 t2 t3 wr (Kd.C_of_reads (hrd _ (Kd.reads_of_C (d := (0 : Int)) HC.out))) hcp ht
          have hlen : (b.drop x.toNat).length = b.length - x.toNat := List.length_drop
          rw [hlen] at hrun hcall
          have hxl : x ≤ (b.length : Int) := by omega
          have hxt : x.toNat ≤ b.length := by omega
          have hxc : x ≤ (cap : Int) := by omega
          clear hi5 hs5 hrd hcp ht hlen HL
          by_cases h3 : t3 = 0
          · have f3 : (t3 != 0) = false := by simp [h3]
            rw [if_pos h3] at hl
            by_cases ha : acc.length ≤ 1000000 ∧ 0 ≤ t2 ∧ t2 ≤ 1000
            · rw [if_pos ha] at hl
              have HLN := Aside0.mk hl
              obtain ⟨ha1, ha2, ha3⟩ := ha
              have hxx : x + t2 ≤ 1000001000 := by omega
              clear h3 hl e5 e6 e7 e8
              go_wp2_with (first
                | (go_at_call 34; (with_reducible refine hcall.mono ?_); rintro e w4 ⟨rfl, nd, rfl⟩; have HR4 := Aside0.mk (Kd.R_drewN HR.out nd); have HX4 := Aside0.mk (pw_below_drewN HX.out nd); clear hcall)
                | (at_builtin; refine Kd.R_append (Kd.int .i64) (w0 := WB) WB.heap.size rfl _ _ 46 3 (.int .i64 0) 8 rfl Try.underlying46 info3 rfl (by decide) (by omega) (.slice Au acc.length cu) acc t1 [.int .i64 t1] (fun _ => True) (fun _ => False) rfl rfl rfl (fun _ h => h.elim) (fun _ _ => trivial) HR4.out HX4.out HX4.out.size (by omega) ?_; intro v5 w5 hO5 hX5 hg5 hat5; have O5 := Aside0.mk hO5; have X5 := Aside0.mk hX5; clear hO5 hX5 hg5 hat5))
              go_roundg k1
              case measure => omega
              case rel => exact ⟨x + t2, acc ++ [t1], _, rfl, rfl, by omega, by omega, HLN, O5, X5⟩
            · rw [if_neg ha] at hl; cases hl
          · have f3 : (t3 != 0) = true := by simpa using h3
            rw [if_neg h3] at hl
            obtain rfl := Option.some.inj hl
            have he := HE.out
            obtain ⟨rfl, rfl, rfl⟩ : 0 = r1 ∧ [] = r2 ∧ 5 = r3 := by simpa using he
            clear h3 hl he
            go_wp2_with (go_at_call 34; (with_reducible refine hcall.mono ?_); rintro e w4 ⟨rfl, nd, rfl⟩; have HK4 := Aside0.mk (blk_drewN HK.out nd); have HB4 := Aside0.mk (pw_below_drewN HB.out nd); clear hcall)
            refine bodyPost_ret (results_ct rfl _ _ w.heap.size 24 #[.int .i64 0, .slice none 0 0] (0, 0) _ rfl ?_ Try.underlying24 rfl (by kernel_rfl)) rfl ?_
            · refine blk_put (cs := #[.int .i64 0, .slice none 0 0]) ?_ 1 _ rfl
              exact blk_put (cs := #[.int .i64 0, .slice none 0 0]) HK4.out 0 _ rfl
            · exact ⟨_, rfl, Kd.R_nil _ _ _ _ _, (HB4.out.setCell (p := ⟨w.heap.size, 0, none⟩) (Nat.le_refl _) _).setCell (p := ⟨w.heap.size, 1, none⟩) (Nat.le_refl _) _⟩
        · rw [if_neg hlt] at hl
          obtain rfl := Option.some.inj hl
          clear HL
          have he := HE.out
          simp only at he
          by_cases hla : acc.length ≤ 1000000
          · rw [if_pos hla] at he
            by_cases hbad : acc.length < 2 ∨ (acc.length - 2) % 3 ≠ 0
            · rw [if_pos hbad] at he
              obtain ⟨rfl, rfl, rfl⟩ : 0 = r1 ∧ [] = r2 ∧ 5 = r3 := by simpa using he
              clear he HE
              by_cases h2 : acc.length < 2
              · have f1 : decide (acc.length < 2) = true := decide_eq_true h2
                have f2 : decide ((acc.length : Int) < 2) = true := decide_eq_true (by omega)
                clear hbad
                go_wp2
                refine bodyPost_ret (results_ct rfl _ _ w.heap.size 24 #[.int .i64 0, .slice none 0 0] (0, 0) _ rfl ?_ Try.underlying24 rfl (by kernel_rfl)) rfl ?_
                · refine blk_put (cs := #[.int .i64 0, .slice none 0 0]) ?_ 1 _ rfl
                  exact blk_put (cs := #[.int .i64 0, .slice none 0 0]) HK.out 0 _ rfl
                · exact ⟨_, rfl, Kd.R_nil _ _ _ _ _, (HB.out.setCell (p := ⟨w.heap.size, 0, none⟩) (Nat.le_refl _) _).setCell (p := ⟨w.heap.size, 1, none⟩) (Nat.le_refl _) _⟩
              · have f1 : decide (acc.length < 2) = false := decide_eq_false h2
                have f2 : decide ((acc.length : Int) < 2) = false := decide_eq_false (by omega)
                have hr3 : ((acc.length : Int) - 2) % 3 ≠ 0 := by omega
                have f3 : (((acc.length : Int) - 2) % 3 != 0) = true := by simpa using hr3
                have hl2 : (0 : Int) ≤ (acc.length : Int) - 2 := by omega
                have hl2b : (2 : Int) ≤ (acc.length : Int) := by omega
                clear hbad hr3
                go_wp2
                refine bodyPost_ret (results_ct rfl _ _ w.heap.size 24 #[.int .i64 0, .slice none 0 0] (0, 0) _ rfl ?_ Try.underlying24 rfl (by kernel_rfl)) rfl ?_
                · refine blk_put (cs := #[.int .i64 0, .slice none 0 0]) ?_ 1 _ rfl
                  exact blk_put (cs := #[.int .i64 0, .slice none 0 0]) HK.out 0 _ rfl
                · exact ⟨_, rfl, Kd.R_nil _ _ _ _ _, (HB.out.setCell (p := ⟨w.heap.size, 0, none⟩) (Nat.le_refl _) _).setCell (p := ⟨w.heap.size, 1, none⟩) (Nat.le_refl _) _⟩
            · rw [if_neg hbad] at he
              obtain ⟨d, hd, he⟩ := Option.bind_eq_some_iff.1 he
              have HD := Aside0.mk hd
              have HE2 := Aside0.mk he
              have h2 : 2 ≤ acc.length := by omega
              have f1 : decide (acc.length < 2) = false := decide_eq_false (by omega)
              have f2 : decide ((acc.length : Int) < 2) = false := decide_eq_false (by omega)
              have f3 : (((acc.length : Int) - 2) % 3 != 0) = false := by
                have : ((acc.length : Int) - 2) % 3 = 0 := by omega
                simp [this]
              have HM := Aside0.mk (show (acc.length - 2) % 3 = 0 by omega)
              have hl2 : (0 : Int) ≤ (acc.length : Int) - 2 := by omega
              have hl2b : (2 : Int) ≤ (acc.length : Int) := by omega
              have hl0 : (0 : Int) < (acc.length : Int) := by omega
              have hl00 : 0 < acc.length := by omega
              have HACC := Aside0.mk (Kd.R_reads' HR.out).2.2
              obtain ⟨ac, hAc, hc0⟩ := Kd.at_int HACC.out 0 (by omega) (by omega)
              subst hAc
              rw [show ac.add (0 : Int).toNat = ac by simp [Addr.add]] at hc0
              generalize hep : rd acc 0 = ep at hc0 HD HE2
              have HBG := Aside0.mk hbad
              clear he hd hbad hep HE
              go_wp2
              obtain ⟨W4, hW4⟩ : ∃ W4, W4 = wr.alloc (.cells #[.int .i64 ep, .slice none 0 0] 24) := ⟨_, rfl⟩
              obtain ⟨Bc, hBc⟩ : ∃ Bc, Bc = wr.heap.size := ⟨_, rfl⟩
              rw [← hW4, ← hBc]
              have X4 := Aside0.mk (show Below wr.heap.size wr W4 by rw [hW4]; exact below_alloc (Below.refl _ _) _)
              have C4 := Aside0.mk (show W4.heap[Bc]? = some (.cells #[.int .i64 ep, .slice none 0 0] 24 (0, 0)) by rw [hW4, hBc]; exact heap_alloc_new wr _)
              rw [← hBc] at X4
              have hBW : w.heap.size < Bc := by rw [hBc]; exact blk_lt HK.out
              have HCE := Aside0.mk (fun (W : World) (h : Below Bc wr W) => (show Below wr.heap.size wr W by rw [← hBc]; exact h))
              have HBE := Aside0.mk (fun (W : World) (h : Below Bc wr W) => (show Below w.heap.size w W from HB.out.trans (h.mono (Nat.le_of_lt hBW))))
              clear hW4 hBc hc0 e5 e6 e7 e8
              go_loopg [11] acc.length (fun kq v11 w' => ∃ (i : Nat) (o : List S43) (u : Value), v11 = .int .i64 i ∧ 2 ≤ i ∧ i ≤ acc.length ∧ (acc.length - i) % 3 = 0 ∧ acc.length - i ≤ kq ∧ Aside0 (o ++ pcs (acc.drop i) = pcs (acc.drop 2)) ∧ Aside0 (o.length ≤ i) ∧ Aside0 (w'.heap[Bc]? = some (.cells #[.int .i64 ep, u] 24 (0, 0))) ∧ Aside0 (Kd.R k43 43 w' Bc (fun k => k ≠ Bc) u o) ∧ Aside0 (Below Bc wr w'))
              case atStart => exact ⟨2, [], _, rfl, Nat.le_refl _, h2, HM.out, by omega, ⟨by simp⟩, ⟨by simp⟩, C4, ⟨Kd.R_nil _ _ _ _ _⟩, X4⟩
              case round =>
                obtain ⟨i, o, u, rfl, hi2, hil, hi3, hg, HP, HOL, HC2, HR2, HX2⟩ := hrel
                have HB2 := Aside0.mk (HBE.out _ HX2.out)
                have HK2 := Aside0.mk (blk_below HK.out (HCE.out _ HX2.out))
                have HA2 := Aside0.mk (Kd.C_below HACC.out (HCE.out _ HX2.out))
                have hz2 := blk_lt HC2.out
                obtain ⟨Au, cu, rfl⟩ := Kd.R_slice HR2.out
                by_cases hlt : i < acc.length
                · have hlt3 : i + 2 < acc.length := by omega
                  have HI3 := Aside0.mk hi3
                  have HLT := Aside0.mk hlt3
                  have hp := HP.out
                  rw [pcs_step acc i hlt3] at hp
                  obtain ⟨ab, hAb, hy0⟩ := Kd.at_int HACC.out (i : Int) (by omega) (by omega)
                  cases hAb
                  obtain ⟨ab1, hAb, hy1⟩ := Kd.at_int HACC.out ((i : Int) + 1) (by omega) (by omega)
                  cases hAb
                  obtain ⟨ab2, hAb, hy2⟩ := Kd.at_int HACC.out ((i : Int) + 2) (by omega) (by omega)
                  cases hAb
                  generalize rd acc (i : Int) = x1 at hy0 hp
                  generalize rd acc ((i : Int) + 1) = x2 at hy1 hp
                  generalize rd acc ((i : Int) + 2) = x3 at hy2 hp
                  rw [show ((i : Int) + 1).toNat = i + 1 by omega, show ac.add (i + 1) = ⟨ac.block, ac.off + (i + 1), none⟩ by unfold Addr.add; rw [if_neg (by omega)]] at hy1
                  rw [show ((i : Int) + 2).toNat = i + 2 by omega, show ac.add (i + 2) = ⟨ac.block, ac.off + (i + 2), none⟩ by unfold Addr.add; rw [if_neg (by omega)]] at hy2
                  rw [Int.toNat_natCast] at hy0
                  have HPP := Aside0.mk hp
                  clear hp hi3
                  have HYW := Aside0.mk (fun (W : World) (h : Below Bc _ W) => (show W.cell? (ac.add i) = some (.int .i64 x1) ∧ W.cell? ⟨ac.block, ac.off + (i + 1), none⟩ = some (.int .i64 x2) ∧ W.cell? ⟨ac.block, ac.off + (i + 2), none⟩ = some (.int .i64 x3) from ⟨pw_cell_below (HCE.out W h) hy0, pw_cell_below (HCE.out W h) hy1, pw_cell_below (HCE.out W h) hy2⟩))
                  have hol : o.length ≤ 1000000 := by have := HOL.out; omega
                  have hi1 : (0 : Int) ≤ (i : Int) := by omega
                  have hil1 : (i : Int) < (acc.length : Int) := by omega
                  have hil2 : (i : Int) + 1 < (acc.length : Int) := by omega
                  have hil3 : (i : Int) + 2 < (acc.length : Int) := by omega
                  have hi1' : i + 1 < acc.length := by omega
                  have hi9 : (i : Int) ≤ 1000000 := by omega
                  have hi0 : i ≠ 0 := by omega
                  clear hy0 hy1 hy2
                  go_wp2
                  have sw1 : IntKind.i64.wrap ((i : Int) + 1) = (i : Int) + 1 := IntWalk.i64_in _ (by omega)
                  have sw2 : (0 : Int) ≤ (i : Int) + 1 := by omega
                  have sw3 : ((i : Int) + 1).toNat = i + 1 := by omega
                  have sx1 : IntKind.i64.wrap ((i : Int) + 2) = (i : Int) + 2 := IntWalk.i64_in _ (by omega)
                  have sx2 : (0 : Int) ≤ (i : Int) + 2 := by omega
                  have sx3 : ((i : Int) + 2).toNat = i + 2 := by omega
                  have HC9 := Aside0.mk (blk_drew HC2.out)
                  have HR9 := Aside0.mk (Kd.R_drew HR2.out)
                  have HX9 := Aside0.mk (below_drew HX2.out)
                  refine start_ (n := 22) (S := fun w' => w'.cell? ⟨Bc, 1, none⟩ = some (.slice Au o.length cu) ∧ w'.cell? (ac.add i) = some (.int .i64 x1) ∧ w'.cell? ⟨ac.block, ac.off + (i + 1), none⟩ = some (.int .i64 x2) ∧ w'.cell? ⟨ac.block, ac.off + (i + 2), none⟩ = some (.int .i64 x3)) (ds := [21]) #[false, false, false, false, false, false, false, false, false, false, false, false, false, false, false, false, false, false, false, false, false, false] (by kernel_rfl) rfl rfl ⟨(blk_cell HC9.out 1).trans rfl, (HYW.out _ HX9.out).1, (HYW.out _ HX9.out).2.1, (HYW.out _ HX9.out).2.2⟩ (fun hHeld => ?_)
                  generalize wr.drew = w9 at HC9 HR9 HX9 hHeld ⊢
                  have hz9 : Bc < w9.heap.size := blk_lt HC9.out
                  clear HC2 HR2 HX2 hz2
                  refine pure_ (i := 0) (N := some 59) (v := ?_) (a' := ?_) #[true, false, false, false, false, false, false, false, false, false, false, false, false, false, false, false, false, false, false, false, false, false] rfl rfl (by kernel_rfl) (fun _ _ _ h => h) (Or.inl ⟨by rfl, ?_⟩) ?_ ?_
                  rotate_left
                  · intro w'
                    go_simp
                    with_reducible rfl
                  rotate_left
                  · simp only [Act.put, List.setIfInBounds_toArray, List.set_cons_zero, List.set_cons_succ, i64_w, i32_w]
                    rfl
                  refine take_ (i := 1) (N := some 60) (v := ?_) (a' := ?_) #[true, true, false, false, false, false, false, false, false, false, false, false, false, false, false, false, false, false, false, false, false, false] rfl rfl (by kernel_rfl) (fun _ _ _ h => h) (Or.inl ⟨by rfl, ?_⟩) hHeld ?_ ?_
                  rotate_left
                  · rintro w' ⟨s0, s1, s2, s3⟩
                    go_simp
                    with_reducible rfl
                  rotate_left
                  · simp only [Act.put, List.setIfInBounds_toArray, List.set_cons_zero, List.set_cons_succ, i64_w, i32_w]
                    rfl
                  refine pure_ (i := 2) (N := some 61) (v := ?_) (a' := ?_) #[true, true, true, false, false, false, false, false, false, false, false, false, false, false, false, false, false, false, false, false, false, false] rfl rfl (by kernel_rfl) (fun _ _ _ h => h) (Or.inl ⟨by rfl, ?_⟩) ?_ ?_
                  rotate_left
                  · intro w'
                    go_simp
                    with_reducible rfl
                  rotate_left
                  · simp only [Act.put, List.setIfInBounds_toArray, List.set_cons_zero, List.set_cons_succ, i64_w, i32_w]
                    rfl
                  refine pure_ (i := 3) (N := some 62) (v := ?_) (a' := ?_) #[true, true, true, true, false, false, false, false, false, false, false, false, false, false, false, false, false, false, false, false, false, false] rfl rfl (by kernel_rfl) (fun _ _ _ h => h) (Or.inl ⟨by rfl, ?_⟩) ?_ ?_
                  rotate_left
                  · intro w'
                    go_simp
                    with_reducible rfl
                  rotate_left
                  · simp only [Act.put, List.setIfInBounds_toArray, List.set_cons_zero, List.set_cons_succ, i64_w, i32_w]
                    rfl
                  refine pure_ (i := 4) (N := some 63) (v := ?_) (a' := ?_) #[true, true, true, true, true, false, false, false, false, false, false, false, false, false, false, false, false, false, false, false, false, false] rfl rfl (by kernel_rfl) (fun _ _ _ h => h) (Or.inl ⟨by rfl, ?_⟩) ?_ ?_
                  rotate_left
                  · intro w'
                    go_simp
                    with_reducible rfl
                  rotate_left
                  · simp only [Act.put, List.setIfInBounds_toArray, List.set_cons_zero, List.set_cons_succ, i64_w, i32_w]
                    rfl
                  refine take_ (i := 5) (N := some 64) (v := ?_) (a' := ?_) #[true, true, true, true, true, true, false, false, false, false, false, false, false, false, false, false, false, false, false, false, false, false] rfl rfl (by kernel_rfl) (fun _ _ _ h => h) (Or.inl ⟨by rfl, ?_⟩) hHeld ?_ ?_
                  rotate_left
                  · rintro w' ⟨s0, s1, s2, s3⟩
                    go_simp
                    with_reducible rfl
                  rotate_left
                  · simp only [Act.put, List.setIfInBounds_toArray, List.set_cons_zero, List.set_cons_succ, i64_w, i32_w]
                    rfl
                  refine pure_ (i := 6) (N := some 65) (v := ?_) (a' := ?_) #[true, true, true, true, true, true, true, false, false, false, false, false, false, false, false, false, false, false, false, false, false, false] rfl rfl (by kernel_rfl) (fun _ _ _ h => h) (Or.inl ⟨by rfl, ?_⟩) ?_ ?_
                  rotate_left
                  · intro w'
                    go_simp
                    with_reducible rfl
                  rotate_left
                  · simp only [Act.put, List.setIfInBounds_toArray, List.set_cons_zero, List.set_cons_succ, i64_w, i32_w]
                    rfl
                  refine pure_ (i := 7) (N := some 66) (v := ?_) (a' := ?_) #[true, true, true, true, true, true, true, true, false, false, false, false, false, false, false, false, false, false, false, false, false, false] rfl rfl (by kernel_rfl) (fun _ _ _ h => h) (Or.inl ⟨by rfl, ?_⟩) ?_ ?_
                  rotate_left
                  · intro w'
                    go_simp
                    with_reducible rfl
                  rotate_left
                  · simp only [Act.put, List.setIfInBounds_toArray, List.set_cons_zero, List.set_cons_succ, i64_w, i32_w]
                    rfl
                  refine pure_ (i := 8) (N := some 67) (v := ?_) (a' := ?_) #[true, true, true, true, true, true, true, true, true, false, false, false, false, false, false, false, false, false, false, false, false, false] rfl rfl (by kernel_rfl) (fun _ _ _ h => h) (Or.inl ⟨by rfl, ?_⟩) ?_ ?_
                  rotate_left
                  · intro w'
                    go_simp
                    with_reducible rfl
                  rotate_left
                  · simp only [Act.put, List.setIfInBounds_toArray, List.set_cons_zero, List.set_cons_succ, i64_w, i32_w]
                    rfl
                  refine pure_ (i := 9) (N := some 68) (v := ?_) (a' := ?_) #[true, true, true, true, true, true, true, true, true, true, false, false, false, false, false, false, false, false, false, false, false, false] rfl rfl (by kernel_rfl) (fun _ _ _ h => h) (Or.inl ⟨by rfl, ?_⟩) ?_ ?_
                  rotate_left
                  · intro w'
                    go_simp
                    with_reducible rfl
                  rotate_left
                  · simp only [Act.put, List.setIfInBounds_toArray, List.set_cons_zero, List.set_cons_succ, i64_w, i32_w]
                    rfl
                  refine take_ (i := 10) (N := some 69) (v := ?_) (a' := ?_) #[true, true, true, true, true, true, true, true, true, true, true, false, false, false, false, false, false, false, false, false, false, false] rfl rfl (by kernel_rfl) (fun _ _ _ h => h) (Or.inl ⟨by rfl, ?_⟩) hHeld ?_ ?_
                  rotate_left
                  · rintro w' ⟨s0, s1, s2, s3⟩
                    go_simp
                    with_reducible rfl
                  rotate_left
                  · simp only [Act.put, List.setIfInBounds_toArray, List.set_cons_zero, List.set_cons_succ, i64_w, i32_w]
                    rfl
                  refine pure_ (i := 11) (N := some 70) (v := ?_) (a' := ?_) #[true, true, true, true, true, true, true, true, true, true, true, true, false, false, false, false, false, false, false, false, false, false] rfl rfl (by kernel_rfl) (fun _ _ _ h => h) (Or.inl ⟨by rfl, ?_⟩) ?_ ?_
                  rotate_left
                  · intro w'
                    go_simp
                    with_reducible rfl
                  rotate_left
                  · simp only [Act.put, List.setIfInBounds_toArray, List.set_cons_zero, List.set_cons_succ, i64_w, i32_w]
                    rfl
                  refine pure_ (i := 12) (N := some 71) (v := ?_) (a' := ?_) #[true, true, true, true, true, true, true, true, true, true, true, true, true, false, false, false, false, false, false, false, false, false] rfl rfl (by kernel_rfl) (fun _ _ _ h => h) (Or.inl ⟨by rfl, ?_⟩) ?_ ?_
                  rotate_left
                  · intro w'
                    go_simp
                    with_reducible rfl
                  rotate_left
                  · simp only [Act.put, List.setIfInBounds_toArray, List.set_cons_zero, List.set_cons_succ, i64_w, i32_w]
                    rfl
                  refine pure_ (i := 13) (N := some 72) (v := ?_) (a' := ?_) #[true, true, true, true, true, true, true, true, true, true, true, true, true, true, false, false, false, false, false, false, false, false] rfl rfl (by kernel_rfl) (fun _ _ _ h => h) (Or.inl ⟨by rfl, ?_⟩) ?_ ?_
                  rotate_left
                  · intro w'
                    go_simp
                    with_reducible rfl
                  rotate_left
                  · simp only [Act.put, List.setIfInBounds_toArray, List.set_cons_zero, List.set_cons_succ, i64_w, i32_w]
                    rfl
                  refine pure_ (i := 14) (N := some 73) (v := ?_) (a' := ?_) #[true, true, true, true, true, true, true, true, true, true, true, true, true, true, true, false, false, false, false, false, false, false] rfl rfl (by kernel_rfl) (fun _ _ _ h => h) (Or.inl ⟨by rfl, ?_⟩) ?_ ?_
                  rotate_left
                  · intro w'
                    go_simp
                    with_reducible rfl
                  rotate_left
                  · simp only [Act.put, List.setIfInBounds_toArray, List.set_cons_zero, List.set_cons_succ, i64_w, i32_w]
                    rfl
                  refine pure_ (i := 15) (N := some 74) (v := ?_) (a' := ?_) #[true, true, true, true, true, true, true, true, true, true, true, true, true, true, true, true, false, false, false, false, false, false] rfl rfl (by kernel_rfl) (fun _ _ _ h => h) (Or.inl ⟨by rfl, ?_⟩) ?_ ?_
                  rotate_left
                  · intro w'
                    go_simp
                    with_reducible rfl
                  rotate_left
                  · simp only [Act.put, List.setIfInBounds_toArray, List.set_cons_zero, List.set_cons_succ, i64_w, i32_w]
                    rfl
                  refine take_ (i := 16) (N := some 75) (v := ?_) (a' := ?_) #[true, true, true, true, true, true, true, true, true, true, true, true, true, true, true, true, true, false, false, false, false, false] rfl rfl (by kernel_rfl) (fun _ _ _ h => h) (Or.inl ⟨by rfl, ?_⟩) hHeld ?_ ?_
                  rotate_left
                  · rintro w' ⟨s0, s1, s2, s3⟩
                    go_simp
                    with_reducible rfl
                  rotate_left
                  · simp only [Act.put, List.setIfInBounds_toArray, List.set_cons_zero, List.set_cons_succ, i64_w, i32_w]
                    rfl
                  refine pure_ (i := 17) (N := some 76) (v := ?_) (a' := ?_) #[true, true, true, true, true, true, true, true, true, true, true, true, true, true, true, true, true, true, false, false, false, false] rfl rfl (by kernel_rfl) (fun _ _ _ h => h) (Or.inl ⟨by rfl, ?_⟩) ?_ ?_
                  rotate_left
                  · intro w'
                    go_simp
                    with_reducible rfl
                  rotate_left
                  · simp only [Act.put, List.setIfInBounds_toArray, List.set_cons_zero, List.set_cons_succ, i64_w, i32_w]
                    rfl
                  refine one_ (i := 18) (N := some 77) #[true, true, true, true, true, true, true, true, true, true, true, true, true, true, true, true, true, true, true, false, false, false] rfl rfl (by kernel_rfl) (by decide) (fun K hK => ?_)
                  refine value_ (w1 := ?_) (v := ?_) (by rfl) rfl ?_ ?_
                  rotate_left 2
                  · go_simp
                    constructor
                    · rfl
                    · rfl
                  refine hK.out _ _ ⟨(blk_cell (blk_alloc HC9.out _) 1).trans rfl, (HYW.out _ (HX9.out.alloc (by omega) _)).1, (HYW.out _ (HX9.out.alloc (by omega) _)).2.1, (HYW.out _ (HX9.out.alloc (by omega) _)).2.2⟩ (fun hHeld => ?_)
                  clear hK K
                  refine norm_ (a' := ?_) ?_ ?_
                  rotate_left
                  · show Act.put _ (some 77) _ = _; simp only [Act.put, List.setIfInBounds_toArray, List.set_cons_zero, List.set_cons_succ, i64_w, i32_w]
                    rfl
                  refine one_ (i := 19) (N := some 78) #[true, true, true, true, true, true, true, true, true, true, true, true, true, true, true, true, true, true, true, true, false, false] rfl rfl (by kernel_rfl) (by decide) (fun K hK => ?_)
                  refine Kd.R_append_step k43 (w0 := _) Bc (by rfl) (.tmp 60) (.tmp 77) 22 43 (.agg #[(.int .i64 0), (.int .i64 0), (.int .i64 0)]) 24 rfl Try.underlying22 info43 rfl (by decide) (by decide) (.slice Au o.length cu) o (⟨⟨x1, x2⟩, x3⟩ : S43) [.int .i64 x1, .int .i64 x2, .int .i64 x3] (fun k => k ≠ Bc) (fun _ => False) rfl rfl (k43_mkM _ _ _ (⟨⟨x1, x2⟩, x3⟩ : S43)) (fun _ h => h.elim) (fun k hk => by omega) HR9.out HX9.out (by omega) (by omega) ?_
                  intro v12 w12 hO_ hX_ hg_ hat_
                  obtain ⟨A12, c12, rfl⟩ := Kd.R_slice hO_
                  simp only [List.length_append, List.length_singleton] at hO_
                  have HC12 := Aside0.mk (blk_grown HC9.out hg_ (fun e => HR9.out.1 Bc e.symm rfl))
                  have HR12 := Aside0.mk hO_
                  have HX12 := Aside0.mk hX_
                  clear hO_ hX_ hg_ hat_
                  refine hK.out _ _ ⟨(blk_cell HC12.out 1).trans rfl, (HYW.out _ HX12.out).1, (HYW.out _ HX12.out).2.1, (HYW.out _ HX12.out).2.2⟩ (fun hHeld => ?_)
                  clear hK K
                  refine norm_ (a' := ?_) ?_ ?_
                  rotate_left
                  · show Act.put _ (some 78) _ = _; simp only [Act.put, List.setIfInBounds_toArray, List.set_cons_zero, List.set_cons_succ, i64_w, i32_w]
                    rfl
                  refine pure_ (i := 20) (N := some 79) (v := ?_) (a' := ?_) #[true, true, true, true, true, true, true, true, true, true, true, true, true, true, true, true, true, true, true, true, true, false] rfl rfl (by kernel_rfl) (fun _ _ _ h => h) (Or.inl ⟨by rfl, ?_⟩) ?_ ?_
                  rotate_left
                  · intro w'
                    go_simp
                    with_reducible rfl
                  rotate_left
                  · simp only [Act.put, List.setIfInBounds_toArray, List.set_cons_zero, List.set_cons_succ, i64_w, i32_w]
                    rfl
                  have t1 : w12.cell? ⟨Bc, 1, none⟩ = some (.slice Au o.length cu) := (blk_cell HC12.out 1).trans rfl
                  have t2 := blk_frozen HC12.out 1
                  refine last_ (i := 21) (N := none) #[true, true, true, true, true, true, true, true, true, true, true, true, true, true, true, true, true, true, true, true, true, true] rfl rfl (by kernel_rfl) (by decide) (fun K hK => ?_)
                  refine skip_ (w1 := ?_) (by rfl) rfl ?_ ?_
                  rotate_left
                  · go_simp
                    rfl
                  refine hK.out _ _ ?_
                  clear hK K
                  refine done_ (by kernel_rfl) ?_
                  clear sw1 sw2 sw3 sx1 sx2 sx3
                  go_wp2
                  go_roundg (acc.length - (i + 3))
                  case measure => have := HLT.out; omega
                  case rel =>
                    have h9 := HLT.out
                    have h8 := HI3.out
                    refine ⟨i + 3, o ++ [⟨⟨x1, x2⟩, x3⟩], _, by go_num, by omega, by omega, by omega, by omega, ⟨by rw [← HPP.out]; simp⟩, ⟨by have := HOL.out; simp; omega⟩, ⟨blk_put (cs := #[.int .i64 ep, .slice Au o.length cu]) HC12.out 1 _ rfl⟩, ⟨Kd.R_far (p := ⟨Bc, 1, none⟩) HR12.out (fun _ hk => hk) _⟩, ⟨HX12.out.setCell (p := ⟨Bc, 1, none⟩) (Nat.le_refl _) _⟩⟩
                · have hie : i = acc.length := by omega
                  have hp := HP.out
                  rw [hie, List.drop_length] at hp
                  have ho : o = pcs (acc.drop 2) := by rw [← hp]; simp [pcs]
                  have hR3 := Kd.R_reads' HR2.out
                  obtain ⟨d1, d2⟩ := d
                  have hcD := racewayref15_Dump.calls k ep Au cu o d1 d2 _ hR3.2.2 hR3.2.1 (by rw [ho]; exact HD.out)
                  have HOE := Aside0.mk ho
                  have e3 : wr.cell? ⟨Bc, 0, none⟩ = some (.int .i64 ep) := (blk_cell HC2.out 0).trans rfl
                  have e4 : wr.cell? ⟨Bc, 1, none⟩ = some (.slice Au o.length cu) := (blk_cell HC2.out 1).trans rfl
                  clear hie hp ho hR3
                  go_wp2_with fail
                  (with_reducible refine hcD.mono ?_)
                  rintro e w9 ⟨rfl, hb9⟩
                  have HK9 := Aside0.mk (blk_below HK2.out hb9)
                  have HC9 := Aside0.mk (blk_below HC2.out hb9)
                  have HB9 := Aside0.mk (HB2.out.trans (hb9.mono HB2.out.size))
                  have HR9 := Aside0.mk (Kd.R_below HR2.out hb9)
                  have e9 : w9.cell? ⟨w.heap.size, 0, none⟩ = some (.int .i64 0) := (blk_cell HK9.out 0).trans rfl
                  have e10 : w9.cell? ⟨w.heap.size, 1, none⟩ = some (.slice none 0 0) := (blk_cell HK9.out 1).trans rfl
                  have e11 := blk_frozen HK9.out 0
                  have e12 := blk_frozen HK9.out 1
                  have e13 : w9.cell? ⟨Bc, 0, none⟩ = some (.int .i64 ep) := (blk_cell HC9.out 0).trans rfl
                  have e14 : w9.cell? ⟨Bc, 1, none⟩ = some (.slice Au o.length cu) := (blk_cell HC9.out 1).trans rfl
                  clear hb9 hcD e3 e4
                  have he := HE2.out
                  by_cases hd2 : d2 = 0
                  · have g1 : (d2 != 0) = false := by simp [hd2]
                    by_cases hd1 : d1 = a0
                    · rw [if_pos ⟨hd2, hd1⟩] at he
                      obtain ⟨rfl, hro, rfl⟩ : ep = r1 ∧ pcs (acc.drop 2) = r2 ∧ 0 = r3 := by simpa using he
                      rw [← HOE.out] at hro
                      subst hro
                      subst hd1
                      clear he HE2 hd2 HOE
                      have RR := Aside0.mk (show Kd.R k43 43 w9 w.heap.size (fun k => k ≠ w.heap.size) (.slice Au o.length cu) o from Kd.R_lower (Kd.R_mono (Kd.R_bound HR9.out) (fun k hk => by have h1 := hk.2.1; omega)) (by omega))
                      go_wp2
                      refine bodyPost_ret (results_ct rfl _ _ w.heap.size 24 #[.int .i64 ep, .slice Au o.length cu] (0, 0) _ rfl ?_ Try.underlying24 rfl (by kernel_rfl)) rfl ?_
                      · refine blk_put (cs := #[.int .i64 ep, .slice none 0 0]) ?_ 1 _ rfl
                        exact blk_put (cs := #[.int .i64 0, .slice none 0 0]) HK9.out 0 _ rfl
                      · exact ⟨_, rfl, Kd.R_mono (Kd.R_far (p := ⟨w.heap.size, 1, none⟩) (Kd.R_far (p := ⟨w.heap.size, 0, none⟩) RR.out (fun _ hk => hk) _) (fun _ hk => hk) _) (fun _ _ => trivial), (HB9.out.setCell (p := ⟨w.heap.size, 0, none⟩) (Nat.le_refl _) _).setCell (p := ⟨w.heap.size, 1, none⟩) (Nat.le_refl _) _⟩
                    · rw [if_neg (fun e => hd1 e.2)] at he
                      obtain ⟨rfl, rfl, rfl⟩ : 0 = r1 ∧ [] = r2 ∧ 5 = r3 := by simpa using he
                      have hdl : d1.toList ≠ a0.toList := fun e => hd1 (by rw [Lib.toList_data, Lib.toList_data] at e; rw [← Lib.mk_data d1, ← Lib.mk_data a0, e])
                      have g2 : (d1.toList == a0.toList) = false := by simpa using hdl
                      have g3 : (d1.toList != a0.toList) = true := by simpa using hdl
                      clear he HE2 hd2 hd1 hdl HOE
                      go_wp2
                      refine bodyPost_ret (results_ct rfl _ _ w.heap.size 24 #[.int .i64 0, .slice none 0 0] (0, 0) _ rfl ?_ Try.underlying24 rfl (by kernel_rfl)) rfl ?_
                      · refine blk_put (cs := #[.int .i64 0, .slice none 0 0]) ?_ 1 _ rfl
                        exact blk_put (cs := #[.int .i64 0, .slice none 0 0]) HK9.out 0 _ rfl
                      · exact ⟨_, rfl, Kd.R_nil _ _ _ _ _, (HB9.out.setCell (p := ⟨w.heap.size, 0, none⟩) (Nat.le_refl _) _).setCell (p := ⟨w.heap.size, 1, none⟩) (Nat.le_refl _) _⟩
                  · have g1 : (d2 != 0) = true := by simpa using hd2
                    rw [if_neg (fun e => hd2 e.1)] at he
                    obtain ⟨rfl, rfl, rfl⟩ : 0 = r1 ∧ [] = r2 ∧ 5 = r3 := by simpa using he
                    clear he HE2 hd2 HOE
                    go_wp2
                    refine bodyPost_ret (results_ct rfl _ _ w.heap.size 24 #[.int .i64 0, .slice none 0 0] (0, 0) _ rfl ?_ Try.underlying24 rfl (by kernel_rfl)) rfl ?_
                    · refine blk_put (cs := #[.int .i64 0, .slice none 0 0]) ?_ 1 _ rfl
                      exact blk_put (cs := #[.int .i64 0, .slice none 0 0]) HK9.out 0 _ rfl
                    · exact ⟨_, rfl, Kd.R_nil _ _ _ _ _, (HB9.out.setCell (p := ⟨w.heap.size, 0, none⟩) (Nat.le_refl _) _).setCell (p := ⟨w.heap.size, 1, none⟩) (Nat.le_refl _) _⟩
          · rw [if_neg hla] at he; cases he
  · rw [if_neg hsz] at h; cases h
end Go.Proofs.Yteppmdafdopehaa.P
