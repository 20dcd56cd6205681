/- The plain law of ChartBack: a chart that First and Move made is read back from its dump, and from no shorter or longer text. No conditions. -/
import Derived.Test.YteppmdafdopehaaStmChartBack
import Derived.Test.YteppmdafdopehaaPBack15
import Derived.Test.YteppmdafdopehaaPWorks15
namespace Go.Proofs.Yteppmdafdopehaa.Pure
open Go.RowKit Go.Proofs.Yteppmdafdopehaa.P Go.Proofs.YteppmdafdopehaaW.PrintWords Go.Proofs.YteppmdafdopehaaW.PrintLast Go.Proofs.YteppmdafdopehaaW.PrintMore
open Go.Proofs.Yteppmdafdopehaa.P.C4
theorem back_end (a2 ep : Int) (l : List S43) (hm : mayC ep l = true) (hl : l.length < 50) (s : ByteArray) (hs : s.data.toList = dumpB ep l) : Ev (fun k => racewaylaw15_ChartBack.j2 k a2 s ((s.size : Int) == 0) ep l) true := by
  have h1 := dumpB_len ep l
  have h2 := dumpB_le ep l hm (by omega)
  have hsz : s.size = (dumpB ep l).length := by rw [← hs]; simp
  have hz : ((s.size : Int) == 0) = false := beq_eq_false_iff_ne.2 (by omega)
  rw [hz]
  refine Ev.step (f := fun k => ((chart_Load.f k s).bind fun bt415 => (if (s.size : Int) = 0 then (none) else (if 0 ≤ (Int.tmod (wrap64 ((Int.tmod a2 (s.size : Int)) + (s.size : Int))) (s.size : Int)) then (if (Int.tmod (wrap64 ((Int.tmod a2 (s.size : Int)) + (s.size : Int))) (s.size : Int)) ≤ (s.size : Int) then ((chart_Load.f k (s.extract 0 ((Int.tmod (wrap64 ((Int.tmod a2 (s.size : Int)) + (s.size : Int))) (s.size : Int)) : Int).toNat)).bind fun bt421 => (if s.size + 1 ≤ 9223372036854775807 then ((chart_Load.f k (s ++ (⟨#[1]⟩ : ByteArray))).bind fun bt427 => (if bt415.2.2 = 0 then ((chart_Same.f k ep l bt415.1 bt415.2.1).bind fun t433 => (if t433 = true then (if bt421.2.2 = 5 then (if bt427.2.2 = 5 then ((racewaylaw15_works.f k).bind fun t434 => (some t434)) else (some false)) else (some false)) else (some false))) else (some false))) else (none))) else (none)) else (none))))) (fun k => ?_) ?_
  · simp only [racewaylaw15_ChartBack.j2]
    rw [if_neg (by decide)]
  have hf := fold_lt a2 (s.size : Int) (by omega) (by omega)
  generalize Int.tmod (wrap64 (Int.tmod a2 (s.size : Int) + (s.size : Int))) (s.size : Int) = t at hf
  refine Ev.bind (cload_ev s (by omega)) ?_
  have e1 : loadC s.data.toList = (ep, l, 0) := by rw [hs]; exact loadC_good ep l hm (by omega)
  rw [e1]
  simp only [if_neg (show ¬ (s.size : Int) = 0 by omega), if_pos hf.1, if_pos (show t ≤ (s.size : Int) by omega)]
  have e2 : (s.extract 0 t.toNat).data.toList = (dumpB ep l).take t.toNat := by
    rw [ByteArray.data_extract, Array.toList_extract, hs]
    simp [List.extract]
  have e3 : loadC (s.extract 0 t.toNat).data.toList = bad := by rw [e2]; exact loadC_cut ep l t.toNat hm (by omega) (by omega)
  refine Ev.bind (cload_ev (s.extract 0 t.toNat) (by rw [ByteArray.size_extract]; omega)) ?_
  rw [e3]
  simp only [if_pos (show s.size + 1 ≤ 9223372036854775807 by omega)]
  have e4 : (s ++ (⟨#[1]⟩ : ByteArray)).data.toList = dumpB ep l ++ [1] := by
    rw [ByteArray.data_append, Array.toList_append, hs]
  have e5 : loadC (s ++ (⟨#[1]⟩ : ByteArray)).data.toList = bad := by rw [e4]; exact loadC_more ep l [1] hm (by omega) (by simp)
  refine Ev.bind (cload_ev (s ++ (⟨#[1]⟩ : ByteArray)) (by rw [ByteArray.size_append]; show s.size + 1 ≤ 2900; omega)) ?_
  rw [e5]
  simp only [if_true]
  refine Ev.bind (same_ev ep ep l l (by omega)) ?_
  simp only [and_self, decide_true, if_true, bad]
  exact Ev.bind works_ev (Ev.now _)
theorem back_stop (l1 : List S39) (a2 ep i : Int) (l : List S43) (hm : mayC ep l = true) (hl : l.length < 50) : Ev (fun k => racewaylaw15_ChartBack.j1 k l1 a2 i false ep l) true := by
  refine Ev.step (f := fun k => (chart_Dump.f k ep l).bind fun bt413 => (if bt413.2 = 0 then (racewaylaw15_ChartBack.j2 k a2 bt413.1 ((bt413.1.size : Int) == 0) ep l) else (racewaylaw15_ChartBack.j2 k a2 bt413.1 true ep l))) (fun k => ?_) (Ev.bind (dump_ev ep l (by omega) hm) ?_)
  · simp only [racewaylaw15_ChartBack.j1]
    rw [if_neg (by decide)]
  · simp only [if_true]
    exact back_end a2 ep l hm hl _ rfl
theorem back_loop (l1 : List S39) (a2 : Int) (d : Nat) : ∀ (i : Nat) (ep : Int) (l : List S43), i + d = min 20 l1.length → mayC ep l = true → l.length ≤ 6 + 2 * i → Ev (fun k => racewaylaw15_ChartBack.l0 k l1 a2 (i : Int) ep l) true := by
  induction d with
  | zero =>
    intro i ep l hi hm hl
    refine Ev.step (fun k => ?_) (back_stop l1 a2 ep (i : Int) l hm (by omega))
    simp only [racewaylaw15_ChartBack.l0]
    by_cases h : (i : Int) < (l1.length : Int)
    · rw [if_pos h, decide_eq_false (by omega)]
    · rw [if_neg h]
  | succ d ih =>
    intro i ep l hi hm hl
    have hfew := mvC_few ep l (rd_T39 l1 (i : Int)).f0 (rd_T39 l1 (i : Int)).f1
    have hmay := move_may ep l (rd_T39 l1 (i : Int)).f0 (rd_T39 l1 (i : Int)).f1 hm
    refine Ev.step (f := fun k => racewaylaw15_ChartBack.j1 k l1 a2 (i : Int) true ep l) (fun k => ?_) (Ev.step (f := fun k => (chart_Move.f k ep l ((rd_T39 l1 (i : Int)).f0.f0) ((rd_T39 l1 (i : Int)).f0.f1) ((rd_T39 l1 (i : Int)).f1)).bind fun bt407 => (if bt407.2.2 = 0 then (racewaylaw15_ChartBack.l0 k l1 a2 ((i + 1 : Nat) : Int) bt407.1 bt407.2.1) else (racewaylaw15_ChartBack.l0 k l1 a2 ((i + 1 : Nat) : Int) ep l))) (fun k => ?_) (Ev.bind (move_ev ep l (rd_T39 l1 (i : Int)).f0 (rd_T39 l1 (i : Int)).f1 (by omega)) ?_))
    · simp only [racewaylaw15_ChartBack.l0]
      rw [if_pos (by omega), decide_eq_true (by omega)]
    · simp only [racewaylaw15_ChartBack.j1]
      rw [if_pos trivial, if_pos (by omega), if_pos (by omega), w64_small (i := (i : Int) + 1) (by omega) (by omega)]
      rfl
    · generalize mvC ep l (rd_T39 l1 (i : Int)).f0 (rd_T39 l1 (i : Int)).f1 = X at hfew hmay
      by_cases hx : X.2.2 = 0
      · simp only [if_pos hx]
        exact ih (i + 1) X.1 X.2.1 (by omega) (hmay hx) (by omega)
      · simp only [if_neg hx]
        exact ih (i + 1) ep l (by omega) hm (by omega)
theorem ChartBack : racewaylaw15_ChartBack.Pure := by
  intro a0 l1 a2 _ _ _
  suffices h : Ev (fun k => racewaylaw15_ChartBack.f k a0 l1 a2) true from h.rounds
  unfold racewaylaw15_ChartBack.f
  have hf := fold_lt a0 6 (by omega) (by omega)
  generalize Int.tmod (wrap64 (Int.tmod a0 6 + 6)) 6 = t at hf
  have e : wrap64 (1 + t) = (((1 + t).toNat : Nat) : Int) := by rw [w64_small (by omega) (by omega)]; omega
  rw [e]
  have hn : 1 ≤ (1 + t).toNat ∧ (1 + t).toNat ≤ 6 := by omega
  generalize (1 + t).toNat = n at hn
  refine Ev.bind (first_ev n hn.1 hn.2) ?_
  have hl : (firstC n).length = n := by unfold firstC; simp
  exact back_loop l1 a2 (min 20 l1.length) 0 1 (firstC n) (by omega) (first_may n hn.1 hn.2) (by omega)
end Go.Proofs.Yteppmdafdopehaa.Pure
