/- The plain law of ChartServes: whatever is moved, one shard serves each place, and nothing else changes. No conditions. -/
import Derived.Test.YteppmdafdopehaaStmChartServes
import Derived.Test.YteppmdafdopehaaPServes15
import Derived.Test.YteppmdafdopehaaPBack15
import Derived.Test.YteppmdafdopehaaPWorks15
namespace Go.Proofs.Yteppmdafdopehaa.Pure
open Go.RowKit Go.Proofs.Yteppmdafdopehaa.P Go.Proofs.YteppmdafdopehaaW.PrintWords Go.Proofs.YteppmdafdopehaaW.PrintLast Go.Proofs.YteppmdafdopehaaW.PrintMore
open Go.Proofs.Yteppmdafdopehaa.P.C4
theorem serves_l2 (l1 : List S39) (a2 : Int) (i : Nat) (hi : i < l1.length) (ep ep' : Int) (l l' : List S43) (ch : Bool) (hl : l.length < 1000) (hl' : l'.length < 1000) (h0 : 0 ≤ ep ∧ ep ≤ 1000)
    (hep : ep' = if ch = true then ep + 1 else ep) (hst : ch = false → l' = l) (hof : ∀ p, ofC p l' = if InP (rd_T39 l1 (i : Int)).f0 p then (rd_T39 l1 (i : Int)).f1 else ofC p l)
    (hnext : Ev (fun k => racewaylaw15_ChartServes.l0 k l1 a2 ((i + 1 : Nat) : Int) ep' l') true) (hi2 : i < 1000) (Y : List Int) (hY : Y.length < 1000) (d : Nat) :
    ∀ (j : Nat) (c : Bool), j + d = Y.length → (c = true → ch = true) → Ev (fun k => racewaylaw15_ChartServes.l2 k l1 a2 (i : Int) c Y (Y.length : Int) (j : Int) ep l ep' l') true := by
  have hgo : Ev (fun k => racewaylaw15_ChartServes.j7 k l1 a2 (i : Int) false ep' l') true := by
    refine Ev.step (fun k => ?_) hnext
    simp only [racewaylaw15_ChartServes.j7]
    rw [if_neg (by decide), w64_small (by omega) (by omega)]
    rfl
  induction d with
  | zero =>
    intro j c hj hc
    cases ch with
    | true =>
      rw [if_pos rfl] at hep
      refine Ev.step (fun k => ?_) hgo
      simp only [racewaylaw15_ChartServes.l2]
      rw [if_neg (by omega), if_neg (show ¬ ep' < ep by omega), if_neg (show ¬ ep' = ep by omega), if_pos (show ep' = wrap64 (ep + 1) by rw [w64_small (by omega) (by omega)]; exact hep)]
      cases c <;> rfl
    | false =>
      have hcf : c = false := by cases c with
        | false => rfl
        | true => exact absurd (hc rfl) (by decide)
      subst hcf
      rw [if_neg (by decide)] at hep
      have hll := hst rfl
      subst hll
      refine Ev.step (f := fun k => (chart_Same.f k ep l' ep' l').bind fun t310 => (racewaylaw15_ChartServes.j7 k l1 a2 (i : Int) (!t310) ep' l')) (fun k => ?_) (Ev.bind (same_ev ep ep' l' l' hl) ?_)
      · simp only [racewaylaw15_ChartServes.l2]
        rw [if_neg (by omega), if_neg (show ¬ ep' < ep by omega), if_pos (show ep' = ep by omega), if_neg (by decide)]
      · rw [decide_eq_true ⟨hep.symm, rfl⟩]
        exact hgo
  | succ d ih =>
    intro j c hj hc
    have hof' := hof (rd Y (j : Int))
    generalize hx : rd_T39 l1 (i : Int) = x at hof hof'
    have hin := in_f x.f0 (rd Y (j : Int))
    have hwas := of_ev ep l (rd Y (j : Int)) hl
    have his := of_ev ep' l' (rd Y (j : Int)) hl'
    have hne : ch = false → ofC (rd Y (j : Int)) l' = ofC (rd Y (j : Int)) l := fun h => by rw [hst h]
    refine Ev.step (f := fun k => (chart_Of.f k ep l (rd Y (j : Int))).bind fun t300 => ((chart_Of.f k ep' l' (rd Y (j : Int))).bind fun t301 => (if InP x.f0 (rd Y (j : Int)) then (if t301 = x.f1 then racewaylaw15_ChartServes.j6 k l1 a2 (i : Int) c t300 t301 Y (Y.length : Int) (j : Int) false ep l ep' l' else racewaylaw15_ChartServes.j6 k l1 a2 (i : Int) c t300 t301 Y (Y.length : Int) (j : Int) true ep l ep' l') else racewaylaw15_ChartServes.j6 k l1 a2 (i : Int) c t300 t301 Y (Y.length : Int) (j : Int) (t301 != t300) ep l ep' l'))) (fun k => ?_) (Ev.bind hwas (Ev.bind his ?_))
    · simp only [racewaylaw15_ChartServes.l2]
      rw [if_pos (by omega), if_pos (by omega), if_pos (by omega), hx, hin]
      simp only [if_pos (show (0 : Int) ≤ (i : Int) by omega), if_pos (show (i : Int) < (l1.length : Int) by omega), Option.bind_some]
      congr 1
      funext t300
      congr 1
      funext t301
      by_cases h : InP x.f0 (rd Y (j : Int))
      · simp only [decide_eq_true h, if_true, if_pos h]
      · simp only [decide_eq_false h, Bool.false_eq_true, if_false, if_neg h]
    · generalize ofC (rd Y (j : Int)) l = was at hof' hne
      generalize ofC (rd Y (j : Int)) l' = is at hof' hne
      have hj6 : Ev (fun k => racewaylaw15_ChartServes.j6 k l1 a2 (i : Int) c was is Y (Y.length : Int) (j : Int) false ep l ep' l') true := by
        cases c with
        | true =>
          refine Ev.step (fun k => ?_) (ih (j + 1) true (by omega) (fun _ => hc rfl))
          simp only [racewaylaw15_ChartServes.j6]
          rw [if_neg (by decide), if_pos trivial, w64_small (by omega) (by omega)]
          rfl
        | false =>
          refine Ev.step (fun k => ?_) (ih (j + 1) (is != was) (by omega) (fun h => ?_))
          · simp only [racewaylaw15_ChartServes.j6]
            rw [if_neg (by decide), if_neg (by decide), w64_small (by omega) (by omega)]
            rfl
          · cases hch : ch with
            | true => rfl
            | false => rw [hne hch] at h; simp at h
      by_cases h : InP x.f0 (rd Y (j : Int))
      · rw [if_pos h] at hof'
        simp only [if_pos h, if_pos hof']
        exact hj6
      · rw [if_neg h] at hof'
        have : (is != was) = false := by rw [hof']; simp
        simp only [if_neg h, this]
        exact hj6
theorem serves_l1 (l1 : List S39) (a2 : Int) (i : Nat) (ep ep' : Int) (l l' : List S43) (hl' : l'.length < 1000) (hm : mayC ep' l' = true)
    (hj4 : Ev (fun k => racewaylaw15_ChartServes.j4 k l1 a2 (i : Int) false ep l ep' l') true) (d : Nat) :
    ∀ (j : Nat), j + d = l'.length → Ev (fun k => racewaylaw15_ChartServes.l1 k l1 a2 (i : Int) ((l'.take j).map (·.f0)) l' (l'.length : Int) (j : Int) ep l ep' l') true := by
  induction d with
  | zero =>
    intro j hj
    have e : j = l'.length := by omega
    subst e
    rw [List.take_length]
    have ht : Tiles (l'.map (·.f0)) := tiles_of l' (by unfold mayC at hm; simp only [Bool.and_eq_true] at hm; exact hm.2.2)
    refine Ev.step (f := fun k => (chart_May.f k ep' l').bind fun t290 => (if t290 = true then ((place_Covers.f k (l'.map (·.f0))).bind fun t291 => (racewaylaw15_ChartServes.j4 k l1 a2 (i : Int) (!t291) ep l ep' l')) else (racewaylaw15_ChartServes.j4 k l1 a2 (i : Int) true ep l ep' l'))) (fun k => ?_) (Ev.bind (may_ev ep' l' hl') ?_)
    · simp only [racewaylaw15_ChartServes.l1]
      rw [if_neg (by omega)]
    · rw [hm]
      simp only [if_true]
      refine Ev.bind (covers_ev (l'.map (·.f0)) (by rw [List.length_map]; exact hl')) ?_
      rw [decide_eq_true ht]
      exact hj4
  | succ d ih =>
    intro j hj
    have hlt : j < l'.length := by omega
    have h := ih (j + 1) (by omega)
    rw [List.take_succ_eq_append_getElem hlt, List.map_append] at h
    refine Ev.step (fun k => ?_) h
    simp only [racewaylaw15_ChartServes.l1]
    rw [if_pos (by omega), if_pos (by omega), if_pos (by omega), if_pos (by rw [List.length_map, List.length_take]; omega), rd_pc l' j hlt, w64_small (by omega) (by omega)]
    rfl
theorem serves_loop (l1 : List S39) (a2 : Int) (d : Nat) : ∀ (i : Nat) (ep : Int) (l : List S43), i + d = min 30 l1.length → mayC ep l = true → l.length ≤ 6 + 2 * i → ep ≤ 1 + i → Ev (fun k => racewaylaw15_ChartServes.l0 k l1 a2 (i : Int) ep l) true := by
  induction d with
  | zero =>
    intro i ep l hi hm hl he
    refine Ev.step (f := fun k => racewaylaw15_ChartServes.j1 k l1 a2 (i : Int) false ep l) (fun k => ?_) (Ev.step (f := fun k => (racewaylaw15_works.f k).bind fun t311 => (some t311)) (fun k => ?_) (Ev.bind works_ev (Ev.now _)))
    · simp only [racewaylaw15_ChartServes.l0]
      by_cases h : (i : Int) < (l1.length : Int)
      · rw [if_pos h, decide_eq_false (by omega)]
      · rw [if_neg h]
    · simp only [racewaylaw15_ChartServes.j1]
      rw [if_neg (by decide)]
  | succ d ih =>
    intro i ep l hi hm hl he
    have hep := (mayC_ok hm).1
    have hilt : i < l1.length := by omega
    have hfew := mvC_few ep l (rd_T39 l1 (i : Int)).f0 (rd_T39 l1 (i : Int)).f1
    have hmay := move_may ep l (rd_T39 l1 (i : Int)).f0 (rd_T39 l1 (i : Int)).f1 hm
    have hstep := Aside0.mk (serves_step ep l (rd_T39 l1 (i : Int)).f0 (rd_T39 l1 (i : Int)).f1 hm (by omega) hmay)
    have herr := serves_err ep l (rd_T39 l1 (i : Int)).f0 (rd_T39 l1 (i : Int)).f1 hm (by omega)
    have hmv := move_ev ep l (rd_T39 l1 (i : Int)).f0 (rd_T39 l1 (i : Int)).f1 (by omega)
    refine Ev.step (f := fun k => racewaylaw15_ChartServes.j1 k l1 a2 (i : Int) true ep l) (fun k => ?_) (Ev.step (f := fun k => (chart_Move.f k ep l ((rd_T39 l1 (i : Int)).f0.f0) ((rd_T39 l1 (i : Int)).f0.f1) ((rd_T39 l1 (i : Int)).f1)).bind fun bt275 => (if bt275.2.2 = 0 then (racewaylaw15_ChartServes.l1 k l1 a2 (i : Int) ([] : List (S26)) bt275.2.1 (bt275.2.1.length : Int) 0 ep l bt275.1 bt275.2.1) else ((place_May.f ((rd_T39 l1 (i : Int)).f0.f0) ((rd_T39 l1 (i : Int)).f0.f1)).bind fun t282 => (if t282 = true then (if ((rd_T39 l1 (i : Int)).f1) ≥ 1 then (racewaylaw15_ChartServes.j2 k l1 a2 (i : Int) (decide (((rd_T39 l1 (i : Int)).f1) ≤ 6)) ep l) else (racewaylaw15_ChartServes.j2 k l1 a2 (i : Int) false ep l)) else (racewaylaw15_ChartServes.j2 k l1 a2 (i : Int) false ep l))))) (fun k => ?_) (Ev.bind hmv ?_))
    · simp only [racewaylaw15_ChartServes.l0]
      rw [if_pos (by omega), decide_eq_true (by omega)]
    · simp only [racewaylaw15_ChartServes.j1]
      rw [if_pos trivial, if_pos (by omega), if_pos (by omega)]
    · by_cases hx : (mvC ep l (rd_T39 l1 (i : Int)).f0 (rd_T39 l1 (i : Int)).f1).2.2 = 0
      · obtain ⟨ch, s1, s2, s3⟩ := hstep.out hx
        clear hstep
        have hm' := hmay hx
        simp only [if_pos hx]
        generalize mvC ep l (rd_T39 l1 (i : Int)).f0 (rd_T39 l1 (i : Int)).f1 = X at hfew s1 s2 s3 hm'
        have hnext := ih (i + 1) X.1 X.2.1 (by omega) hm' (by omega) (by rw [s1]; split <;> omega)
        refine serves_l1 l1 a2 i ep X.1 l X.2.1 (by omega) hm' ?_ X.2.1.length 0 (by omega)
        refine Ev.step (f := fun k => racewaylaw15_ChartServes.l2 k l1 a2 (i : Int) false [a2, (rd_T39 l1 (i : Int)).f0.f0, wrap64 (((rd_T39 l1 (i : Int)).f0.f1) - 1), (rd_T39 l1 (i : Int)).f0.f1, wrap64 (((rd_T39 l1 (i : Int)).f0.f0) - 1), 0, 65535] (([a2, (rd_T39 l1 (i : Int)).f0.f0, wrap64 (((rd_T39 l1 (i : Int)).f0.f1) - 1), (rd_T39 l1 (i : Int)).f0.f1, wrap64 (((rd_T39 l1 (i : Int)).f0.f0) - 1), 0, 65535] : List Int).length : Int) ((0 : Nat) : Int) ep l X.1 X.2.1) (fun k => ?_) ?_
        · simp only [racewaylaw15_ChartServes.j4]
          rw [if_neg (by decide), if_pos (by omega), if_pos (by omega)]
          rfl
        · exact serves_l2 l1 a2 i hilt ep X.1 l X.2.1 ch (by omega) (by omega) ⟨by omega, by omega⟩ s1 s2 s3 hnext (by omega) _ (by simp) _ 0 false (Nat.zero_add _) (fun h => by cases h)
      · have hno := herr hx
        have hnext := ih (i + 1) ep l (by omega) hm (by omega) (by omega)
        have hj2 : Ev (fun k => racewaylaw15_ChartServes.j2 k l1 a2 (i : Int) false ep l) true := by
          refine Ev.step (fun k => ?_) hnext
          simp only [racewaylaw15_ChartServes.j2]
          rw [if_neg (by decide), w64_small (by omega) (by omega)]
          rfl
        have hmf := C4.may_f (rd_T39 l1 (i : Int)).f0
        simp only [if_neg hx, hmf, Option.bind_some]
        by_cases hb : C4.mayB (rd_T39 l1 (i : Int)).f0 = true
        · simp only [if_pos hb]
          by_cases h1 : (rd_T39 l1 (i : Int)).f1 ≥ 1
          · simp only [if_pos h1]
            have h6 : ¬ (rd_T39 l1 (i : Int)).f1 ≤ 6 := fun h => hno ⟨(mayB_iff _).1 hb, h1, h⟩
            simp only [decide_eq_false h6]
            exact hj2
          · simp only [if_neg h1]
            exact hj2
        · simp only [if_neg hb]
          exact hj2
theorem ChartServes : racewaylaw15_ChartServes.Pure := by
  intro a0 l1 a2 _ _ _
  suffices h : Ev (fun k => racewaylaw15_ChartServes.f k a0 l1 a2) true from h.rounds
  unfold racewaylaw15_ChartServes.f
  have hf := fold_lt a0 6 (by omega) (by omega)
  generalize Int.tmod (wrap64 (Int.tmod a0 6 + 6)) 6 = t at hf
  have e : wrap64 (1 + t) = (((1 + t).toNat : Nat) : Int) := by rw [w64_small (by omega) (by omega)]; omega
  rw [e]
  have hn : 1 ≤ (1 + t).toNat ∧ (1 + t).toNat ≤ 6 := by omega
  generalize (1 + t).toNat = n at hn
  refine Ev.bind (first_ev n hn.1 hn.2) ?_
  simp only [if_true]
  have hl : (firstC n).length = n := by unfold firstC; simp
  exact serves_loop l1 a2 (min 30 l1.length) 0 1 (firstC n) (by omega) (first_may n hn.1 hn.2) (by omega) (by omega)
end Go.Proofs.Yteppmdafdopehaa.Pure
