/- The row of the law FrontAsks: for every input it returns true, and each argument reads as it did. No conditions. Written by the session's own program (wip/tools/front/growl.py). -/
import Derived.Test.YtonedijkgddepaaRows
import Derived.Test.YtonedijkgddepaaRN
import Derived.Test.YtonedijkgddepaaHOp
import Derived.Test.YtonedijkgddepaaOpens
import Derived.WalkKit
import Derived.ProofKit
import Derived.OpenShut
import Derived.ShutString
import Derived.ChangeOld
import Derived.Below
import Derived.SizedLaws
import Derived.Laws.IdiomArrays
namespace Go.Proofs.Ytonedijkgddepaa.frontAsks
open Go.ChangeShapes Go.WideShapes Go.ChangeAt Go.RowKit
open Go.ChangeMaps (open_string shut_string)
open Go.Proofs.Ytonedijkgddepaa.Opens Go.Proofs.Ytonedijkgddepaa.P Go.Proofs.YtonedijkgddepaaW.PrintWords
set_option linter.unusedVariables false
theorem arr3 {cs : Array Value} (h : cs.size = 3) : ∃ a b c, cs = #[a, b, c] := by
 obtain ⟨l⟩ := cs
 match l, h with
 | [a, b, c], _ => exact ⟨a, b, c, rfl⟩
theorem own : ownKnob Try.prog.godebug = none := by kernel_rfl
theorem laidOut : laidOutB Try.prog = true := by kernel_rfl
set_option maxRecDepth 100000 in
theorem lifted (os : Os) (started : os.Started) (H : Type) (enc : TypeId × Value → H) :
  ReturnsInHanded {} Try.checked os 5 .any (Rows.frontAsksSpec.pre6 enc Try.prog Try.f5 Rows.frontAsksRow.domain false) (Rows.frontAsksSpec.post enc Try.prog Try.f5 false true false false) := by
 refine returnsInHanded_of_change_sized (C := Try.checked) own started (by kernel_rfl) Try.func5
  (ChangeSpec.witness6 (enc := enc) (C := Try.checked) false ⟨#[], #[.agg #[.int .i64 0, .int .i64 0, .int .i64 0], .slice none 0 0], []⟩ 8 (by kernel_rfl) (by kernel_rfl) (by kernel_rfl) (by kernel_rfl)) ?_
 intro W base args ds gs before hval0 hW hcnd hsz0 _
 have hsz : (DataW.weightsEach Try.prog (Try.f5.params.toList ++ Rows.frontAsksSpec.plain.varTypes Try.prog) (ds ++ gs)).all (· ≤ reachBytes) = true := hsz0
 have hval : ∀ (j : Nat) t v, Try.f5.params[j]? = some t → args[j]? = some v → Value.okWide Try.prog W .any base t v := hval0
 have hW' := hW
 obtain ⟨p, q, hA0, hV, rfl, hfz, hnd⟩ := hW
 have hA : DataW.TrodAll enc Try.prog W 0 (fun _ => true) true Try.f5.params.toList args.toList ds p := hA0
 rw [Try.params5] at hA hval hsz
 obtain ⟨v0, vs0, d0, ds0, p0, q0, hargs, rfl, rfl, h0, r0⟩ := trodAll_cons hA
 obtain ⟨v1, vs1, d1, ds1, p1, q1, rfl, rfl, rfl, h1, r1⟩ := trodAll_cons r0
 obtain ⟨rfl, rfl, rfl⟩ := trodAll_nil r1
 obtain rfl : args = #[v0, v1] := by cases args; simp_all
 obtain ⟨rfl, rfl⟩ := trodVars_none hV
 have kk0 := h0
 have lt0 : ∀ x ∈ p0, x.block < W.heap.size := by obtain ⟨m, hm⟩ := kk0; exact DataW.trod_lt m _ _ _ hm
 have hw0 : ∀ z ∈ d0.weights Try.prog 70, z ≤ reachBytes := fun z hz => by simpa using List.all_eq_true.1 hsz z (DataW.weights_mem_each (j := 0) rfl rfl z hz)
 obtain ⟨cs0, rfl, hcs0, _⟩ : ∃ cs, v0 = .agg cs ∧ cs.size = Try.prog.cellsOf 70 ∧ Row.okWide Try.prog W .any base 70 cs := by have z := (hval 0 70 v0 rfl rfl); unfold Value.okWide at z; rw [Try.underlying70] at z; exact z
 obtain ⟨u0a, u0b, u0c, rfl⟩ := arr3 (hcs0.trans (by kernel_rfl))
 obtain ⟨a0a, a0b, a0c, rfl, rfl, rfl⟩ : ∃ a b c : Int, u0a = .int .i64 a ∧ u0b = .int .i64 b ∧ u0c = .int .i64 c := by
  obtain ⟨fuel, hf⟩ := h0
  obtain ⟨y0, y1, y2, m, _, g0, g1, g2⟩ := trod_array3 Try.underlying70 (by kernel_rfl) hf
  obtain ⟨n0, e0, _⟩ := DataW.trod_int Try.underlying3 g0
  obtain ⟨n1, e1, _⟩ := DataW.trod_int Try.underlying3 g1
  obtain ⟨n2, e2, _⟩ := DataW.trod_int Try.underlying3 g2
  exact ⟨n0, n1, n2, by injection e0, by injection e1, by injection e2⟩
 have kk1 := h1
 have lt1 : ∀ x ∈ p1, x.block < W.heap.size := by obtain ⟨m, hm⟩ := kk1; exact DataW.trod_lt m _ _ _ hm
 have hw1 : ∀ z ∈ d1.weights Try.prog 22, z ≤ reachBytes := fun z hz => by simpa using List.all_eq_true.1 hsz z (DataW.weights_mem_each (j := 1) rfl rfl z hz)
 obtain ⟨A1_, n1_, c1_, rfl⟩ := okWide_slice Try.underlying22 (hval 1 22 v1 rfl rfl)
 obtain ⟨x1, hx1, gx1⟩ : ∃ x, (Kd.slice 52 k52).K W x [.slice A1_ n1_ c1_] ∧ (∀ y_ ∈ x, G52 y_) := by
  obtain ⟨fuel, hf⟩ := h1
  obtain ⟨x, z1, _, _, z2⟩ := (Opens.slice (b := Try.prog.bytesOf 52) opens52 Try.underlying22 (by kernel_rfl) rfl) H enc W true fuel _ d1 p1 (by simpa [Value.cells] using hf) hw1
  exact ⟨x, z1, z2⟩
 obtain ⟨A1, c1, he1, hc1, hr1⟩ := hx1
 simp only [List.cons.injEq, and_true, Value.slice.injEq] at he1
 obtain ⟨rfl, rfl, rfl⟩ := he1
 clear hA0 hval0 hsz0 hsz
 refine (Go.Proofs.Ytonedijkgddepaa.P.frontAsks.calls W a0a a0b a0c A1_ c1_ x1 hr1).mono fun e W' he0 => ?_
 obtain ⟨he, bel0⟩ := he0
 have bel : Below W.heap.size W W' := bel0
 subst he
 exact ⟨_, rfl, _, _, _, [], _, [], hW', trodAll_mk1 (shut_bool Try.underlying4 _), (trodAll_cons_mk (Below.trod laidOut (by kernel_rfl) (of_decide_eq_true (by kernel_rfl)) kk0 bel lt0) (trodAll_cons_mk (Below.trod laidOut (by kernel_rfl) (of_decide_eq_true (by kernel_rfl)) kk1 bel lt1) trodAll_mk0)), rfl, bel.frame _, fun h => by cases h⟩
theorem over : Rows.frontAsksRow.holds Try.pinned (OpenSpec.ofChange Rows.frontAsksSpec) :=
 OpenClaim.holds_of_wide 5 Try.f5 rfl rfl rfl rfl rfl rfl rfl ⟨rfl, rfl, rfl, rfl, rfl⟩ rfl rfl rfl rfl rfl (by kernel_rfl) Try.func5 (by kernel_rfl)
  (of_decide_eq_true (by kernel_rfl)) (by unfold Func.isWrapper; first | (rw [if_pos (by decide +kernel)]; kernel_rfl) | (rw [if_neg (by decide +kernel)]; exact ⟨rfl, rfl⟩))
  (fun os started H enc _ => lifted os started H enc)
theorem proved : Rows.FrontAsksSaid := over
#print axioms proved
end Go.Proofs.Ytonedijkgddepaa.frontAsks
namespace Go.Proofs.Ytonedijkgddepaa
/-- The row, under a short name, for the claim. -/
theorem frontAsks_holds : Rows.FrontAsksSaid := frontAsks.proved
end Go.Proofs.Ytonedijkgddepaa
