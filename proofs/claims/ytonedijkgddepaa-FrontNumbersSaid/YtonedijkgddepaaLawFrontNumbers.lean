/- The row of the law FrontNumbers: for every input it returns true, and each argument reads as_ it did. No conditions. Written by the session's own program (wip/tools/front/growl.py). -/
import Derived.Test.YtonedijkgddepaaRows
import Derived.Test.YtonedijkgddepaaRQ
import Derived.Test.YtonedijkgddepaaHOp
import Derived.WalkKit
import Derived.ProofKit
import Derived.OpenShut
import Derived.ShutString
import Derived.ChangeOld
import Derived.Below
import Derived.SizedLaws
import Derived.Laws.IdiomArrays
namespace Go.Proofs.Ytonedijkgddepaa.frontNumbers
open Go.ChangeShapes Go.WideShapes Go.ChangeAt Go.RowKit
open Go.ChangeMaps (open_string shut_string)
open Go.Proofs.Ytonedijkgddepaa.Opens Go.Proofs.Ytonedijkgddepaa.P Go.Proofs.YtonedijkgddepaaW.PrintWords
set_option linter.unusedVariables false
theorem own : ownKnob Try.prog.godebug = none := by kernel_rfl
theorem laidOut : laidOutB Try.prog = true := by kernel_rfl
set_option maxRecDepth 100000 in
theorem lifted (os : Os) (started : os.Started) (H : Type) (enc : TypeId × Value → H) :
  ReturnsInHanded {} Try.checked os 3 .any (Rows.frontNumbersSpec.pre6 enc Try.prog Try.f3 Rows.frontNumbersRow.domain false) (Rows.frontNumbersSpec.post enc Try.prog Try.f3 false true false false) := by
 refine returnsInHanded_of_change_sized (C := Try.checked) own started (by kernel_rfl) Try.func3
  (ChangeSpec.witness6 (enc := enc) (C := Try.checked) false ⟨#[], #[.int .i64 0, .slice none 0 0], []⟩ 8 (by kernel_rfl) (by kernel_rfl) (by kernel_rfl) (by kernel_rfl)) ?_
 intro W base args ds gs before hval0 hW hcnd hsz0 _
 have hsz : (DataW.weightsEach Try.prog (Try.f3.params.toList ++ Rows.frontNumbersSpec.plain.varTypes Try.prog) (ds ++ gs)).all (· ≤ reachBytes) = true := hsz0
 have hval : ∀ (j : Nat) t v, Try.f3.params[j]? = some t → args[j]? = some v → Value.okWide Try.prog W .any base t v := hval0
 have hW' := hW
 obtain ⟨p, q, hA0, hV, rfl, hfz, hnd⟩ := hW
 have hA : DataW.TrodAll enc Try.prog W 0 (fun _ => true) true Try.f3.params.toList args.toList ds p := hA0
 rw [Try.params3] at hA hval hsz
 obtain ⟨v0, vs0, d0, ds0, p0, q0, hargs, rfl, rfl, h0, r0⟩ := trodAll_cons hA
 obtain ⟨v1, vs1, d1, ds1, p1, q1, rfl, rfl, rfl, h1, r1⟩ := trodAll_cons r0
 obtain ⟨rfl, rfl, rfl⟩ := trodAll_nil r1
 obtain rfl : args = #[v0, v1] := by cases args; simp_all
 obtain ⟨rfl, rfl⟩ := trodVars_none hV
 have kk0 := h0
 have lt0 : ∀ x ∈ p0, x.block < W.heap.size := by obtain ⟨m, hm⟩ := kk0; exact DataW.trod_lt m _ _ _ hm
 have hw0 : ∀ z ∈ d0.weights Try.prog 3, z ≤ reachBytes := fun z hz => by simpa using List.all_eq_true.1 hsz z (DataW.weights_mem_each (j := 0) rfl rfl z hz)
 obtain ⟨a0, rfl, rfl, rfl, w0⟩ := open_int Try.underlying3 (hval 0 3 v0 rfl rfl) h0
 have kk1 := h1
 have lt1 : ∀ x ∈ p1, x.block < W.heap.size := by obtain ⟨m, hm⟩ := kk1; exact DataW.trod_lt m _ _ _ hm
 have hw1 : ∀ z ∈ d1.weights Try.prog 22, z ≤ reachBytes := fun z hz => by simpa using List.all_eq_true.1 hsz z (DataW.weights_mem_each (j := 1) rfl rfl z hz)
 obtain ⟨A1_, n1_, c1_, rfl⟩ := okWide_slice Try.underlying22 (hval 1 22 v1 rfl rfl)
 obtain ⟨x1, hx1, gx1⟩ : ∃ x, (Kd.slice 52 k52).K W x [.slice A1_ n1_ c1_] ∧ (∀ y_ ∈ x, G52 y_) := by
  obtain ⟨fuel, hf⟩ := h1
  obtain ⟨x, z1, _, _, z2⟩ := (Opens.slice (b := Try.prog.bytesOf 52) opens52 Try.underlying22 (by kernel_rfl) rfl) H enc W true fuel _ d1 p1 (by simpa [Value.cells] using hf) hw1
  exact ⟨x, z1, z2⟩
 obtain ⟨A1, c1, he1, hc1, hr1⟩ := hx1
 simp only [List.cons.injEq, and_true, Value.slice.injEq] at he1
 obtain ⟨rfl, rfl, rfl⟩ := he1
 clear hA0 hval0 hsz0 hsz
 refine (Go.Proofs.Ytonedijkgddepaa.P.frontNumbers.calls W a0 A1_ c1_ x1 hr1 gx1).mono fun e W' he0 => ?_
 obtain ⟨he, bel0⟩ := he0
 have bel : Below W.heap.size W W' := bel0
 subst he
 exact ⟨_, rfl, _, _, _, [], _, [], hW', trodAll_mk1 (shut_bool Try.underlying4 _), (trodAll_cons_mk (Below.trod laidOut (by kernel_rfl) (of_decide_eq_true (by kernel_rfl)) kk0 bel lt0) (trodAll_cons_mk (Below.trod laidOut (by kernel_rfl) (of_decide_eq_true (by kernel_rfl)) kk1 bel lt1) trodAll_mk0)), rfl, bel.frame _, fun h => by cases h⟩
theorem over : Rows.frontNumbersRow.holds Try.pinned (OpenSpec.ofChange Rows.frontNumbersSpec) :=
 OpenClaim.holds_of_wide 3 Try.f3 rfl rfl rfl rfl rfl rfl rfl ⟨rfl, rfl, rfl, rfl, rfl⟩ rfl rfl rfl rfl rfl (by kernel_rfl) Try.func3 (by kernel_rfl)
  (of_decide_eq_true (by kernel_rfl)) (by unfold Func.isWrapper; first | (rw [if_pos (by decide +kernel)]; kernel_rfl) | (rw [if_neg (by decide +kernel)]; exact ⟨rfl, rfl⟩))
  (fun os started H enc _ => lifted os started H enc)
theorem proved : Rows.FrontNumbersSaid := over
#print axioms proved
end Go.Proofs.Ytonedijkgddepaa.frontNumbers
namespace Go.Proofs.Ytonedijkgddepaa
/-- The row, under a short name, for the claim. -/
theorem frontNumbers_holds : Rows.FrontNumbersSaid := frontNumbers.proved
end Go.Proofs.Ytonedijkgddepaa
