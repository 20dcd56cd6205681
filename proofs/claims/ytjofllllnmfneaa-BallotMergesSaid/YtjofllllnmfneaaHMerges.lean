/- The law BallotMerges, walked by hand: it returns true. No conditions. -/
import Derived.Test.YtjofllllnmfneaaHMergesA
import Derived.Deep.LoopGhost
namespace Go.Proofs.Ytjofllllnmfneaa.P
open Go.RowKit Go.Proofs.YtjofllllnmfneaaW.PrintWords Go.Proofs.YtjofllllnmfneaaW.PrintLast Go.Proofs.YtjofllllnmfneaaW.PrintMore
set_option linter.unusedVariables false
set_option linter.unusedSimpArgs false

set_option maxHeartbeats 8000000 in
set_option maxRecDepth 100000 in
theorem merges.calls (A0 A1 A2 : Option Addr) (c0 c1 c2 : Nat) (l0 l1 l2 : List S30) (w : World) (hr0 : Kd.C k30 w A0 l0.length l0) (hc0 : l0.length ≤ c0) (hr1 : Kd.C k30 w A1 l1.length l1) (hc1 : l1.length ≤ c1) (hr2 : Kd.C k30 w A2 l2.length l2) (hc2 : l2.length ≤ c2)
    (hw0 : ∀ x ∈ l0, (Lit.int .i64 x.f0).wf = true) (hw1 : ∀ x ∈ l1, (Lit.int .i64 x.f0).wf = true) (hw2 : ∀ x ∈ l2, (Lit.int .i64 x.f0).wf = true) :
    Calls Try.prog 3 #[.slice A0 l0.length c0, .slice A1 l1.length c1, .slice A2 l2.length c2] w fun e w' => e = .returned (.bool true) ∧ Below w.heap.size w w' := by
  have hW := fun W => racewaylaw09_works.calls true W works_f
  have HF0 := Aside0.mk (fewC A0 c0 l0 w hr0 hc0)
  have HF1 := Aside0.mk (fun W hr => fewC A1 c1 l1 W hr hc1)
  have HF2 := Aside0.mk (fun W hr => fewC A2 c2 l2 W hr hc2)
  have HR1 := Aside0.mk hr1
  have HR2 := Aside0.mk hr2
  have hall : ∀ x ∈ [fewV l0, fewV l1, fewV l2].flatten, (Lit.int .i64 x.f0).wf = true ∧ x.f2.length ≤ 1000000 := fun x hx => by
    simp only [List.flatten_cons, List.flatten_nil, List.append_nil, List.mem_append] at hx
    rcases hx with hx | hx | hx
    · exact ⟨fewV_wf hw0 x hx, Nat.le_trans (fewV_short l0 x hx) (by omega)⟩
    · exact ⟨fewV_wf hw1 x hx, Nat.le_trans (fewV_short l1 x hx) (by omega)⟩
    · exact ⟨fewV_wf hw2 x hx, Nat.le_trans (fewV_short l2 x hx) (by omega)⟩
  have n0 := fewV_len l0
  have n1 := fewV_len l1
  have n2 := fewV_len l2
  have HT := Aside0.mk (few_twice l0)
  clear hr0 hr1 hr2 hc1 hc2 hw0 hw1 hw2
  obtain ⟨La, hLa⟩ : ∃ La, fewV l0 = La := ⟨_, rfl⟩
  obtain ⟨Lb, hLb⟩ : ∃ Lb, fewV l1 = Lb := ⟨_, rfl⟩
  obtain ⟨Lc, hLc⟩ : ∃ Lc, fewV l2 = Lc := ⟨_, rfl⟩
  rw [hLa] at HF0 hall n0 HT
  rw [hLb] at HF1 hall n1
  rw [hLc] at HF2 hall n2
  clear hLa hLb hLc
  have HN3 := Aside0.mk (show [La, Lb, Lc].flatten.length ≤ 100000 by simp; omega)
  have HN1 := Aside0.mk (show [La].flatten.length ≤ 100000 by simp; omega)
  have HM3 := Aside0.mk (merge_f (ls := [La, Lb, Lc]) (Nat.le_trans HN3.out (by omega)) (fun x hx => (hall x hx).1) (fun x hx => (hall x hx).2))
  have HM1 := Aside0.mk (merge_f (ls := [La]) (Nat.le_trans HN1.out (by omega)) (fun x hx => (hall x (by simp at hx ⊢; exact .inl hx)).1) (fun x hx => (hall x (by simp at hx ⊢; exact .inl hx)).2))
  have hl3 := length_mergeV [La, Lb, Lc].flatten
  have hl1 := length_mergeV [La].flatten
  obtain ⟨l, hl⟩ : ∃ l, mergeV [La, Lb, Lc].flatten = l := ⟨_, rfl⟩
  obtain ⟨m, hm⟩ : ∃ m, mergeV [La].flatten = m := ⟨_, rfl⟩
  rw [hl] at HM3 hl3
  rw [hm] at HM1 hl1
  have HL := Aside0.mk hl
  have HMM := Aside0.mk hm
  have HLL := Aside0.mk (show l.length < 1000000 by have := HN3.out; omega)
  have HML := Aside0.mk (show m.length < 1000000 by have := HN1.out; omega)
  clear hl hm hall hl3 hl1
  have HLA := Aside0.mk (show La.length < 1000000 by omega)
  go_enter Try.func3, Try.ntmps3
  go_wp2_with (first
    | (go_at_call 10; (with_reducible refine HF0.out.mono ?_); rintro e w1 ⟨Aa, ca, rfl, hca, hra, hb1⟩; have RA := Aside0.mk hra; have CA := Aside0.mk hca; have B1 := Aside0.mk hb1; clear hra hca hb1)
    | (go_at_call 10; (with_reducible refine (HF1.out _ (Kd.C_below HR1.out B1.out)).mono ?_); rintro e w2 ⟨Ab, cb, rfl, hcb, hrb, hb2⟩; have RB := Aside0.mk hrb; have CB := Aside0.mk hcb; have RA2 := Aside0.mk (Kd.C_below RA.out hb2); have B2 := Aside0.mk (B1.out.trans (hb2.mono B1.out.size)); clear hrb hcb hb2)
    | (go_at_call 10; (with_reducible refine (HF2.out _ (Kd.C_below HR2.out B2.out)).mono ?_); rintro e w3 ⟨Ac, cc, rfl, hcc, hrc, hb3⟩; have RC := Aside0.mk hrc; have CC := Aside0.mk hcc; have RA3 := Aside0.mk (Kd.C_below RA2.out hb3); have RB3 := Aside0.mk (Kd.C_below RB.out hb3); have B3 := Aside0.mk (B2.out.trans (hb3.mono B2.out.size)); clear hrc hcc hb3)
    | (go_at_call 11; (with_reducible refine (merge3C l RA3.out CA.out RB3.out CB.out RC.out CC.out HM3.out).mono ?_); rintro e w4 ⟨Al, cl, rfl, hcl, hrl, hRl, hb4⟩; have CL := Aside0.mk hcl; have RL := Aside0.mk hrl; have RRL := Aside0.mk hRl; have RA4 := Aside0.mk (Kd.C_below RA3.out hb4); have RB4 := Aside0.mk (Kd.C_below RB3.out hb4); have RC4 := Aside0.mk (Kd.C_below RC.out hb4); have B34 := Aside0.mk hb4; have B4 := Aside0.mk (B3.out.trans (hb4.mono B3.out.size)); clear hcl hrl hRl hb4)
    | (go_at_call 13; (with_reducible refine (rmerge3C l RA4.out CA.out RB4.out CB.out RC4.out CC.out HN3.out HL.out).mono ?_); rintro e w5 ⟨Ar, cr, rfl, hcr, hrr, hb5⟩; have CR := Aside0.mk hcr; have RR := Aside0.mk hrr; have RL5 := Aside0.mk (Kd.C_below RL.out hb5); have RA5 := Aside0.mk (Kd.C_below RA4.out hb5); have RRL5 := Aside0.mk (Kd.R_below RRL.out hb5); have B35 := Aside0.mk (B34.out.trans (hb5.mono B34.out.size)); have B5 := Aside0.mk (B4.out.trans (hb5.mono B4.out.size)); clear hcr hrr hb5)
    | (go_at_call 12; (with_reducible refine (sameC _ _ _ _ l _ RL5.out CL.out RR.out CR.out HLL.out).mono ?_); rintro e w6 ⟨rfl, hb6⟩; have RL6 := Aside0.mk (Kd.C_below RL5.out hb6); have RA6 := Aside0.mk (Kd.C_below RA5.out hb6); have RRL6 := Aside0.mk (Kd.R_below RRL5.out hb6); have B36 := Aside0.mk (B35.out.trans (hb6.mono B35.out.size)); have B6 := Aside0.mk (B5.out.trans (hb6.mono B5.out.size)); clear hb6)
    | (go_at_call 11; (with_reducible refine (merge1C m RA6.out CA.out HM1.out).mono ?_); rintro e w7 ⟨Am, cm, rfl, hcm, hrm, hb7⟩; have CM := Aside0.mk hcm; have RM := Aside0.mk hrm; have RL7 := Aside0.mk (Kd.C_below RL6.out hb7); have RA7 := Aside0.mk (Kd.C_below RA6.out hb7); have RRL7 := Aside0.mk (Kd.R_below RRL6.out hb7); have B37 := Aside0.mk (B36.out.trans (hb7.mono B36.out.size)); have B7 := Aside0.mk (B6.out.trans (hb7.mono B6.out.size)); clear hcm hrm hb7)
    | (go_at_call 13; (with_reducible refine (rmerge1C m RA7.out CA.out HN1.out HMM.out).mono ?_); rintro e w8 ⟨An, cn, rfl, hcn, hrn, hb8⟩; have CN := Aside0.mk hcn; have RN := Aside0.mk hrn; have RM8 := Aside0.mk (Kd.C_below RM.out hb8); have RL8 := Aside0.mk (Kd.C_below RL7.out hb8); have RA8 := Aside0.mk (Kd.C_below RA7.out hb8); have RRL8 := Aside0.mk (Kd.R_below RRL7.out hb8); have B38 := Aside0.mk (B37.out.trans (hb8.mono B37.out.size)); have B8 := Aside0.mk (B7.out.trans (hb8.mono B7.out.size)); clear hcn hrn hb8)
    | (go_at_call 12; (with_reducible refine (sameC _ _ _ _ m _ RM8.out CM.out RN.out CN.out HML.out).mono ?_); rintro e w9 ⟨rfl, hb9⟩; have RL9 := Aside0.mk (Kd.C_below RL8.out hb9); have RA9 := Aside0.mk (Kd.C_below RA8.out hb9); have RRL9 := Aside0.mk (Kd.R_below RRL8.out hb9); have B39 := Aside0.mk (B38.out.trans (hb9.mono B38.out.size)); have B9 := Aside0.mk (B8.out.trans (hb9.mono B8.out.size)); clear hb9)
    | (go_at_call 11; (with_reducible refine (merge0C _).mono ?_); rintro e w10 ⟨Az, cz, rfl, hb10⟩; have RL10 := Aside0.mk (Kd.C_below RL9.out hb10); have RA10 := Aside0.mk (Kd.C_below RA9.out hb10); have RRL10 := Aside0.mk (Kd.R_below RRL9.out hb10); have B310 := Aside0.mk (B39.out.trans (hb10.mono B39.out.size)); have B10 := Aside0.mk (B9.out.trans (hb10.mono B9.out.size)); clear hb10)
    | (go_at_call 10; (with_reducible refine (fewR _ _ La _ RA10.out CA.out HT.out).mono ?_); rintro e w11 ⟨Aw, cw, rfl, hcw, hrw, hb11⟩; have CW := Aside0.mk hcw; have RW := Aside0.mk hrw; have RL11 := Aside0.mk (Kd.C_below RL10.out hb11); have RRL11 := Aside0.mk (Kd.R_below RRL10.out hb11); have B311 := Aside0.mk (B310.out.trans (hb11.mono B310.out.size)); have B11 := Aside0.mk (B10.out.trans (hb11.mono B10.out.size)); have B1011 := Aside0.mk hb11; clear hcw hrw hb11))
  have hbig : l.length ≤ 9223372036854775807 := by have := HLL.out; omega
  have SH := Aside0.mk (show Kd.R k30 30 w11 w3.heap.size (fun k => k < w10.heap.size) (.slice Al l.length cl) l from
    Kd.R_below (Kd.R_mono (Kd.R_bound RRL10.out) (fun k hk => hk.2.2.1)) B1011.out)
  have B110 := Aside0.mk (show w10.heap.size ≤ w11.heap.size from B1011.out.size)
  have B310s := Aside0.mk (show w3.heap.size ≤ w10.heap.size from B310.out.size)
  have FA := Aside0.mk (Kd.C_F k30_heap RA3.out)
  have FW := Aside0.mk (Kd.R_F (Kd.R_mono (Kd.R_bound RW.out) (fun k hk => hk.2.1)))
  clear RA RB RC RA2 RA4 RA5 RA6 RA7 RA8 RA9 RA10 RB3 RB4 RC4 RL RL5 RL6 RL7 RL8 RL9 RL10 RL11 RRL RRL5 RRL6 RRL7 RRL8 RRL9 RRL10 RRL11 RM RM8 RN RR HF0 HF1 HF2 HR1 HR2 HM3 HM1 HN3 HN1
  go_loopg [49] l.length (fun kq v49 w' => ∃ i : Nat, v49 = .int .i64 i ∧ i ≤ l.length ∧ l.length - i ≤ kq ∧ Aside0 (Wrote w3.heap.size w10.heap.size w11 w'))
  case atStart => exact ⟨0, rfl, Nat.zero_le _, by omega, ⟨Wrote.refl _ _ _⟩⟩
  case round =>
    obtain ⟨i, rfl, hi, hg, HB⟩ := hrel
    by_cases hlt : i < l.length
    · have hltz : (i : Int) < (l.length : Int) := by omega
      obtain ⟨ad, A2, c2, rfl, hx, hR2⟩ := elem_shape SH.out hlt
      have HX := Aside0.mk hx
      have HR2 := Aside0.mk hR2
      obtain ⟨xs, hxs⟩ : ∃ xs, xs = (l.getD i z30).f2 := ⟨_, rfl⟩
      rw [← hxs] at HX HR2
      have hxbig : xs.length ≤ 9223372036854775807 := (Kd.R_reads' HR2.out).2.2.2.1
      have hx' : wr.cell? ⟨(ad.add (i * 3)).block, (ad.add (i * 3)).off + 2, none⟩ = some (.slice A2 xs.length c2) := (HB.out.cell _ _ HX.out).elim id (fun h => by obtain ⟨⟨y, hy⟩, _⟩ := h; cases hy)
      clear hx hR2 hxs
      go_wp2
      clear hx'
      go_loopg [58] xs.length (fun kq v58 w' => ∃ k : Nat, v58 = .int .i64 k ∧ k ≤ xs.length ∧ xs.length - k ≤ kq ∧ Aside0 (Wrote w3.heap.size w10.heap.size w11 w'))
      case atStart => exact ⟨0, rfl, Nat.zero_le _, by omega, HB⟩
      case round =>
        clear HB
        obtain ⟨k, rfl, hk, hg2, HB⟩ := hrel
        by_cases hltk : k < xs.length
        · have hltkz : (k : Int) < (xs.length : Int) := by omega
          have hx' : wr.cell? ⟨(ad.add (i * 3)).block, (ad.add (i * 3)).off + 2, none⟩ = some (.slice A2 xs.length c2) := (HB.out.cell _ _ HX.out).elim id (fun h => by obtain ⟨⟨y, hy⟩, _⟩ := h; cases hy)
          obtain ⟨g, y, rfl, hg0, hg1, hy, hfy⟩ := byte_at HR2.out hltk
          obtain ⟨y1, hy1⟩ : ∃ y1, wr.cell? ⟨g, k, none⟩ = some (.int .u8 y1) := (HB.out.cell _ _ hy).elim (fun h => ⟨y, h⟩) (fun h => h.2)
          have hf1 : wr.frozen? ⟨g, k, none⟩ = false := HB.out.frozen _ hfy
          have HST := Aside0.mk (fun z : Int => HB.out.set hy hy1 hg0 hg1 z)
          clear hy hfy
          go_wp2
          go_roundg (xs.length - (k + 1))
          case measure => omega
          case rel => exact ⟨k + 1, by go_num, by omega, by omega, ⟨HST.out _⟩⟩
        · have hltkz : ¬ (k : Int) < (xs.length : Int) := by omega
          go_wp2
          go_roundg (l.length - (i + 1))
          case measure => omega
          case rel => exact ⟨i + 1, by go_num, by omega, by omega, HB⟩
    · have hltz : ¬ (i : Int) < (l.length : Int) := by omega
      have hCA : Kd.C k30 wr Aa La.length La := FA.out wr (fun k hk _ => (HB.out.block k (.inl hk)).trans (B311.out.block k hk))
      have hCW : Kd.C k30 wr Aw La.length La := FW.out wr (fun k hk _ => HB.out.block k (.inr hk))
      have RCA := Aside0.mk hCA
      have RCW := Aside0.mk hCW
      clear hCA hCW
      go_wp2_with (first
        | (go_at_call 12; (with_reducible refine (sameC _ _ _ _ La _ RCA.out CA.out RCW.out CW.out HLA.out).mono ?_); rintro e w12 ⟨rfl, hb12⟩)
        | (go_at_call 14; (with_reducible refine (hW _).mono ?_); rintro e w13 ⟨rfl, hb13⟩))
      go_ret
      have hbW : Below w.heap.size w wr := ⟨HB.out.os.trans B11.out.os, HB.out.tape.trans B11.out.tape, HB.out.output.trans B11.out.output, by rw [HB.out.size]; exact B11.out.size, fun k hk => (HB.out.block k (.inl (Nat.lt_of_lt_of_le hk B3.out.size))).trans (B11.out.block k hk)⟩
      exact ⟨rfl, (hbW.trans (hb12.mono hbW.size)).trans (hb13.mono (Nat.le_trans hbW.size hb12.size))⟩
end Go.Proofs.Ytjofllllnmfneaa.P
