/- The document's merging of lists of votes, by hand: mergeV of all of them; two lists of votes that are alike. No conditions. -/
import Derived.Test.YtjofllllnmfneaaHAdd
import Derived.Test.YtjofllllnmfneaaP15
namespace Go.Proofs.Ytjofllllnmfneaa.P
open Go.RowKit Go.Proofs.YtjofllllnmfneaaW.PrintWords Go.Proofs.YtjofllllnmfneaaW.PrintLast Go.Proofs.YtjofllllnmfneaaW.PrintMore
set_option linter.unusedVariables false
set_option linter.unusedSimpArgs false

theorem take_all {ls : List (List S30)} {i : Nat} (hi : i < ls.length) {l : List S30} (hl : l = ls.getD i []) (k : Nat) : ((ls.take i).flatten ++ l.take k).length ≤ ls.flatten.length := by
  have h1 := flat_le ls (i + 1)
  rw [take_flat ls i hi, List.length_append, ← hl] at h1
  rw [List.length_append, List.length_take]
  omega
set_option maxHeartbeats 4000000 in
set_option maxRecDepth 100000 in
theorem rmergeC (A0 : Option Addr) (c0 : Nat) (ls : List (List S30)) (w : World) (hr : Kd.C (Kd.slice 30 k30) w A0 ls.length ls) (hl : ls.flatten.length ≤ 100000) :
    Calls Try.prog 13 #[.slice A0 ls.length c0] w fun e w' => ∃ (A' : Option Addr) (c' : Nat), e = .returned (.slice A' (mergeV ls.flatten).length c') ∧ (mergeV ls.flatten).length ≤ c' ∧ Kd.C k30 w' A' (mergeV ls.flatten).length (mergeV ls.flatten) ∧ Below w.heap.size w w' := by
  have HR := Aside0.mk hr
  have HL := Aside0.mk hl
  have hbig : ls.length ≤ 9223372036854775807 := hr.2.1
  clear hr hl
  go_enter Try.func13, Try.ntmps13
  go_wp2
  go_loopg [3, 4] ls.length (fun kq v2 v3 w' => ∃ (i : Nat) (A' : Option Addr) (c' : Nat), v3 = .int .i64 i ∧ i ≤ ls.length ∧ ls.length - i ≤ kq ∧ v2 = .slice A' (mergeV (ls.take i).flatten).length c' ∧ (mergeV (ls.take i).flatten).length ≤ c' ∧ Aside0 (Kd.C k30 w' A' (mergeV (ls.take i).flatten).length (mergeV (ls.take i).flatten)) ∧ Aside0 (Below w.heap.size w w'))
  case atStart => exact ⟨0, none, 0, rfl, Nat.zero_le _, by omega, rfl, Nat.le_refl _, ⟨Kd.C_nil k30 w⟩, ⟨Below.refl _ _⟩⟩
  case round =>
    obtain ⟨i, A', c', rfl, hi, hg, rfl, hcc, HC, HB⟩ := hrel
    by_cases hlt : i < ls.length
    · have hltz : (i : Int) < (ls.length : Int) := by omega
      obtain ⟨ad, A1, c1, rfl, hx, hc1, hr1⟩ := at_L4 HR.out (i : Int) (by omega) (by omega)
      simp only [Int.toNat_natCast] at hx
      have HX0 := Aside0.mk hx
      replace hx := (HB.out.cell (World.block_lt_of_cell? w _ hx)).trans hx
      have HLS := Aside0.mk (rdL_getD ls i)
      obtain ⟨l, hl⟩ : ∃ l, l = rd_L4 ls (i : Int) := ⟨_, rfl⟩
      rw [← hl] at hx hc1 hr1 HLS HX0
      have HR1 := Aside0.mk hr1
      have HLT := Aside0.mk hlt
      have hbig1 : l.length ≤ 9223372036854775807 := hr1.2.1
      clear hl hr1 hc1
      have HSTART := Aside0.mk (show mergeV (ls.take i).flatten = mergeV ((ls.take i).flatten ++ l.take 0) by simp)
      rw [HSTART.out] at HC hcc ⊢
      obtain ⟨pre, hpre⟩ : ∃ pre, pre = (ls.take i).flatten := ⟨_, rfl⟩
      have HPRE := Aside0.mk hpre
      rw [← hpre] at HC hcc ⊢
      have HLEN := Aside0.mk (fun k => take_all hlt HLS.out k)
      rw [← hpre] at HLEN
      clear hpre HSTART
      go_wp2
      go_loopg [3, 5] l.length (fun kq v2 v4 w' => ∃ (k : Nat) (A' : Option Addr) (c' : Nat), v4 = .int .i64 k ∧ k ≤ l.length ∧ l.length - k ≤ kq ∧ v2 = .slice A' (mergeV (pre ++ l.take k)).length c' ∧ (mergeV (pre ++ l.take k)).length ≤ c' ∧ Aside0 (Kd.C k30 w' A' (mergeV (pre ++ l.take k)).length (mergeV (pre ++ l.take k))) ∧ Aside0 (Below w.heap.size w w'))
      case atStart => exact ⟨0, A', c', rfl, Nat.zero_le _, by omega, rfl, hcc, HC, HB⟩
      case round =>
        clear HC HB hcc hx
        obtain ⟨k, A2', c2', rfl, hk, hg2, rfl, hcc, HC, HB⟩ := hrel
        have hx := (HB.out.cell (World.block_lt_of_cell? w _ HX0.out)).trans HX0.out
        by_cases hltk : k < l.length
        · have hltkz : (k : Int) < (l.length : Int) := by omega
          obtain ⟨ad2, A3, c3, rfl, hy0, hy1, hy2, hc3, hr3⟩ := at_T30 HR1.out (k : Int) (by omega) (by omega)
          replace hy0 := (HB.out.cell (World.block_lt_of_cell? w _ hy0)).trans hy0
          replace hy1 := (HB.out.cell (World.block_lt_of_cell? w _ hy1)).trans hy1
          replace hy2 := (HB.out.cell (World.block_lt_of_cell? w _ hy2)).trans hy2
          simp only [Int.toNat_natCast] at hy0 hy1 hy2
          have HTK := Aside0.mk (show mergeV (pre ++ l.take (k + 1)) = putV (rd_T30 l (k : Int)) (mergeV (pre ++ l.take k)) by
            rw [take_snoc l k z30 hltk, ← List.append_assoc, mergeV_append, ← rdT_getD]; rfl)
          obtain ⟨x, hx'⟩ : ∃ x, x = rd_T30 l (k : Int) := ⟨_, rfl⟩
          rw [← hx'] at hy0 hy1 hy2 hc3 hr3 HTK
          have HR3 := Aside0.mk hr3
          have HC3 := Aside0.mk hc3
          have HCC := Aside0.mk hcc
          have HML := Aside0.mk (show (mergeV (pre ++ l.take k)).length ≤ 100000 from Nat.le_trans (length_mergeV _) (Nat.le_trans (HLEN.out k) HL.out))
          clear hx' hr3 hc3 hcc
          go_wp2_with (go_at_call 34; (with_reducible refine (addC A2' c2' _ A3 c3 x _ HC.out HCC.out (Kd.C_below HR3.out HB.out) HC3.out (rise_mergeV _) HML.out).mono ?_); rintro e w5 ⟨A5, c5, rfl, hc5, hr5, hb5⟩; have HR5 := Aside0.mk hr5; have HB5 := Aside0.mk hb5; have HC5 := Aside0.mk hc5; clear hr5 hb5 hc5)
          go_roundg (l.length - (k + 1))
          case measure => omega
          case rel => exact ⟨k + 1, A5, c5, by go_num, by omega, by omega, by rw [HTK.out], by rw [HTK.out]; exact HC5.out, ⟨by rw [HTK.out]; exact HR5.out⟩, ⟨HB.out.trans (HB5.out.mono HB.out.size)⟩⟩
        · have hltkz : ¬ (k : Int) < (l.length : Int) := by omega
          have HKL := Aside0.mk (show k = l.length by omega)
          have HEND := Aside0.mk (show mergeV (pre ++ l.take k) = mergeV (ls.take (i + 1)).flatten by
            rw [take_flat ls i HLT.out, ← HLS.out, HKL.out, List.take_length, HPRE.out])
          go_wp2
          go_roundg (ls.length - (i + 1))
          case measure => omega
          case rel => exact ⟨i + 1, A2', c2', by go_num, by omega, by omega, by rw [← HEND.out], by rw [← HEND.out]; exact hcc, ⟨by rw [← HEND.out]; exact HC.out⟩, HB⟩
    · have hltz : ¬ (i : Int) < (ls.length : Int) := by omega
      obtain rfl : i = ls.length := by omega
      rw [List.take_length] at HC hcc ⊢
      go_wp2
      go_ret
      exact ⟨_, _, rfl, hcc, HC.out, HB.out⟩
end Go.Proofs.Ytjofllllnmfneaa.P
