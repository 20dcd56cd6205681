/- The row of the law BallotMerges: for every input it returns true, and each argument reads as it did. No conditions. Written by the session's own program (wip/tools/hrow.py). -/
import Derived.Test.YtjofllllnmfneaaRows
import Derived.Test.YtjofllllnmfneaaHMerges
import Derived.Test.YtjofllllnmfneaaHG
import Derived.Test.YtjofllllnmfneaaOpens
import Derived.WalkKit
import Derived.ProofKit
import Derived.OpenShut
import Derived.ShutString
import Derived.ChangeOld
import Derived.Below
import Derived.SizedLaws
namespace Go.Proofs.Ytjofllllnmfneaa.ballotMerges
open Go.ChangeShapes Go.WideShapes Go.ChangeAt Go.RowKit
open Go.ChangeMaps (open_string shut_string)
open Go.Proofs.Ytjofllllnmfneaa.Opens Go.Proofs.Ytjofllllnmfneaa.P Go.Proofs.YtjofllllnmfneaaW.PrintWords
set_option linter.unusedVariables false
theorem own : ownKnob Try.prog.godebug = none := by kernel_rfl
theorem laidOut : laidOutB Try.prog = true := by kernel_rfl
set_option maxRecDepth 100000 in
theorem lifted (os : Os) (started : os.Started) (H : Type) (enc : TypeId × Value → H) :
    ReturnsInHanded {} Try.checked os 3 .any (Rows.ballotMergesSpec.pre6 enc Try.prog Try.f3 Rows.ballotMergesRow.domain false) (Rows.ballotMergesSpec.post enc Try.prog Try.f3 false true false false) := by
  refine returnsInHanded_of_change_sized (C := Try.checked) own started (by kernel_rfl) Try.func3
    (ChangeSpec.witness6 (enc := enc) (C := Try.checked) false ⟨#[], #[.slice none 0 0, .slice none 0 0, .slice none 0 0], []⟩ 8 (by kernel_rfl) (by kernel_rfl) (by kernel_rfl) (by kernel_rfl)) ?_
  intro W base args ds gs before hval0 hW hcnd hsz0 _
  have hsz : (DataW.weightsEach Try.prog (Try.f3.params.toList ++ Rows.ballotMergesSpec.plain.varTypes Try.prog) (ds ++ gs)).all (· ≤ reachBytes) = true := hsz0
  have hval : ∀ (j : Nat) t v, Try.f3.params[j]? = some t → args[j]? = some v → Value.okWide Try.prog W .any base t v := hval0
  have hW' := hW
  obtain ⟨p, q, hA0, hV, rfl, hfz, hnd⟩ := hW
  have hA : DataW.TrodAll enc Try.prog W 0 (fun _ => true) true Try.f3.params.toList args.toList ds p := hA0
  rw [Try.params3] at hA hval hsz
  obtain ⟨v0, vs0, d0, ds0, p0, q0, hargs, rfl, rfl, h0, r0⟩ := trodAll_cons hA
  obtain ⟨v1, vs1, d1, ds1, p1, q1, rfl, rfl, rfl, h1, r1⟩ := trodAll_cons r0
  obtain ⟨v2, vs2, d2, ds2, p2, q2, rfl, rfl, rfl, h2, r2⟩ := trodAll_cons r1
  obtain ⟨rfl, rfl, rfl⟩ := trodAll_nil r2
  obtain rfl : args = #[v0, v1, v2] := by cases args; simp_all
  obtain ⟨rfl, rfl⟩ := trodVars_none hV
  have kk0 := h0
  have lt0 : ∀ x ∈ p0, x.block < W.heap.size := by obtain ⟨m, hm⟩ := kk0; exact DataW.trod_lt m _ _ _ hm
  have hw0 : ∀ z ∈ d0.weights Try.prog 22, z ≤ reachBytes := fun z hz => by simpa using List.all_eq_true.1 hsz z (DataW.weights_mem_each (j := 0) rfl rfl z hz)
  obtain ⟨A0_, n0_, c0_, rfl⟩ := okWide_slice Try.underlying22 (hval 0 22 v0 rfl rfl)
  obtain ⟨x0, hx0, gx0⟩ : ∃ x, (Kd.slice 30 k30).K W x [.slice A0_ n0_ c0_] ∧ (x.length * 40 ≤ 140737488351232 ∧ x.length ≤ maxLen ∧ ∀ x_ ∈ x, G30 x_) := by
    obtain ⟨fuel, hf⟩ := h0
    exact (Opens.slice opens30 Try.underlying22 (by kernel_rfl) (by kernel_rfl)) H enc W true fuel _ d0 p0 (by simpa [Value.cells] using hf) hw0
  obtain ⟨A0, c0, he0, hc0, hr0⟩ := hx0
  simp only [List.cons.injEq, and_true, Value.slice.injEq] at he0
  obtain ⟨rfl, rfl, rfl⟩ := he0
  have kk1 := h1
  have lt1 : ∀ x ∈ p1, x.block < W.heap.size := by obtain ⟨m, hm⟩ := kk1; exact DataW.trod_lt m _ _ _ hm
  have hw1 : ∀ z ∈ d1.weights Try.prog 22, z ≤ reachBytes := fun z hz => by simpa using List.all_eq_true.1 hsz z (DataW.weights_mem_each (j := 1) rfl rfl z hz)
  obtain ⟨A1_, n1_, c1_, rfl⟩ := okWide_slice Try.underlying22 (hval 1 22 v1 rfl rfl)
  obtain ⟨x1, hx1, gx1⟩ : ∃ x, (Kd.slice 30 k30).K W x [.slice A1_ n1_ c1_] ∧ (x.length * 40 ≤ 140737488351232 ∧ x.length ≤ maxLen ∧ ∀ x_ ∈ x, G30 x_) := by
    obtain ⟨fuel, hf⟩ := h1
    exact (Opens.slice opens30 Try.underlying22 (by kernel_rfl) (by kernel_rfl)) H enc W true fuel _ d1 p1 (by simpa [Value.cells] using hf) hw1
  obtain ⟨A1, c1, he1, hc1, hr1⟩ := hx1
  simp only [List.cons.injEq, and_true, Value.slice.injEq] at he1
  obtain ⟨rfl, rfl, rfl⟩ := he1
  have kk2 := h2
  have lt2 : ∀ x ∈ p2, x.block < W.heap.size := by obtain ⟨m, hm⟩ := kk2; exact DataW.trod_lt m _ _ _ hm
  have hw2 : ∀ z ∈ d2.weights Try.prog 22, z ≤ reachBytes := fun z hz => by simpa using List.all_eq_true.1 hsz z (DataW.weights_mem_each (j := 2) rfl rfl z hz)
  obtain ⟨A2_, n2_, c2_, rfl⟩ := okWide_slice Try.underlying22 (hval 2 22 v2 rfl rfl)
  obtain ⟨x2, hx2, gx2⟩ : ∃ x, (Kd.slice 30 k30).K W x [.slice A2_ n2_ c2_] ∧ (x.length * 40 ≤ 140737488351232 ∧ x.length ≤ maxLen ∧ ∀ x_ ∈ x, G30 x_) := by
    obtain ⟨fuel, hf⟩ := h2
    exact (Opens.slice opens30 Try.underlying22 (by kernel_rfl) (by kernel_rfl)) H enc W true fuel _ d2 p2 (by simpa [Value.cells] using hf) hw2
  obtain ⟨A2, c2, he2, hc2, hr2⟩ := hx2
  simp only [List.cons.injEq, and_true, Value.slice.injEq] at he2
  obtain ⟨rfl, rfl, rfl⟩ := he2
  clear hA0 hval0 hsz0 hsz
  refine (Go.Proofs.Ytjofllllnmfneaa.P.merges.calls _ _ _ _ _ _ x0 x1 x2 W hr0 hc0 hr1 hc1 hr2 hc2 (fun x hx => (gx0.2.2 x hx).1) (fun x hx => (gx1.2.2 x hx).1) (fun x hx => (gx2.2.2 x hx).1)).mono fun e W' he0 => ?_
  obtain ⟨he, bel0⟩ := he0
  have bel : Below W.heap.size W W' := bel0
  subst he
  exact ⟨_, rfl, _, _, _, [], _, [], hW', trodAll_mk1 (shut_bool Try.underlying4 _), (trodAll_cons_mk (Below.trod laidOut (by kernel_rfl) (of_decide_eq_true (by kernel_rfl)) kk0 bel lt0) (trodAll_cons_mk (Below.trod laidOut (by kernel_rfl) (of_decide_eq_true (by kernel_rfl)) kk1 bel lt1) (trodAll_cons_mk (Below.trod laidOut (by kernel_rfl) (of_decide_eq_true (by kernel_rfl)) kk2 bel lt2) trodAll_mk0))), rfl, bel.frame _, fun h => by cases h⟩
theorem over : Rows.ballotMergesRow.holds Try.pinned (OpenSpec.ofChange Rows.ballotMergesSpec) :=
  OpenClaim.holds_of_wide 3 Try.f3 rfl rfl rfl rfl rfl rfl rfl ⟨rfl, rfl, rfl, rfl, rfl⟩ rfl rfl rfl rfl rfl (by kernel_rfl) Try.func3 (by kernel_rfl)
    (of_decide_eq_true (by kernel_rfl)) (by unfold Func.isWrapper; first | (rw [if_pos (by decide +kernel)]; kernel_rfl) | (rw [if_neg (by decide +kernel)]; exact ⟨rfl, rfl⟩))
    (fun os started H enc _ => lifted os started H enc)
theorem proved : Rows.BallotMergesSaid := over
#print axioms proved
end Go.Proofs.Ytjofllllnmfneaa.ballotMerges
namespace Go.Proofs.Ytjofllllnmfneaa
/-- The row, under a short name, for the claim. -/
theorem ballotMerges_holds : Rows.BallotMergesSaid := ballotMerges.proved
end Go.Proofs.Ytjofllllnmfneaa
