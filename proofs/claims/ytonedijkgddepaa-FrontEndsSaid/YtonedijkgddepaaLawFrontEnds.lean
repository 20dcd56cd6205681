/- The row of the law FrontEnds: for every input it returns true, and each argument reads as_ it did. No conditions. Written by the session's own program (wip/tools/front/growl.py). -/
import Derived.Test.YtonedijkgddepaaRows
import Derived.Test.YtonedijkgddepaaRE
import Derived.Test.YtonedijkgddepaaRQ
import Derived.WalkKit
import Derived.ProofKit
import Derived.OpenShut
import Derived.ShutString
import Derived.ChangeOld
import Derived.Below
import Derived.SizedLaws
import Derived.Laws.IdiomArrays
namespace Go.Proofs.Ytonedijkgddepaa.frontEnds
open Go.ChangeShapes Go.WideShapes Go.ChangeAt Go.RowKit
open Go.ChangeMaps (open_string shut_string)
open Go.Proofs.Ytonedijkgddepaa.Opens Go.Proofs.Ytonedijkgddepaa.P Go.Proofs.YtonedijkgddepaaW.PrintWords
set_option linter.unusedVariables false
theorem own : ownKnob Try.prog.godebug = none := by kernel_rfl
theorem laidOut : laidOutB Try.prog = true := by kernel_rfl
set_option maxRecDepth 100000 in
theorem lifted (os : Os) (started : os.Started) (H : Type) (enc : TypeId × Value → H) :
  ReturnsInHanded {} Try.checked os 4 .any (Rows.frontEndsSpec.pre6 enc Try.prog Try.f4 Rows.frontEndsRow.domain false) (Rows.frontEndsSpec.post enc Try.prog Try.f4 false true false false) := by
 refine returnsInHanded_of_change_sized (C := Try.checked) own started (by kernel_rfl) Try.func4
  (ChangeSpec.witness6 (enc := enc) (C := Try.checked) false ⟨#[], #[.int .i64 0, .agg #[.int .i64 0, .int .i64 0, .int .i64 0, .int .i64 0, .string ByteArray.empty, .slice none 0 0], .slice none 0 0], []⟩ 8 (by kernel_rfl) (by kernel_rfl) (by kernel_rfl) (by kernel_rfl)) ?_
 intro W base args ds gs before hval0 hW hcnd hsz0 _
 have hsz : (DataW.weightsEach Try.prog (Try.f4.params.toList ++ Rows.frontEndsSpec.plain.varTypes Try.prog) (ds ++ gs)).all (· ≤ reachBytes) = true := hsz0
 have hval : ∀ (j : Nat) t v, Try.f4.params[j]? = some t → args[j]? = some v → Value.okWide Try.prog W .any base t v := hval0
 have hW' := hW
 obtain ⟨p, q, hA0, hV, rfl, hfz, hnd⟩ := hW
 have hA : DataW.TrodAll enc Try.prog W 0 (fun _ => true) true Try.f4.params.toList args.toList ds p := hA0
 rw [Try.params4] at hA hval hsz
 obtain ⟨v0, vs0, d0, ds0, p0, q0, hargs, rfl, rfl, h0, r0⟩ := trodAll_cons hA
 obtain ⟨v1, vs1, d1, ds1, p1, q1, rfl, rfl, rfl, h1, r1⟩ := trodAll_cons r0
 obtain ⟨v2, vs2, d2, ds2, p2, q2, rfl, rfl, rfl, h2, r2⟩ := trodAll_cons r1
 obtain ⟨rfl, rfl, rfl⟩ := trodAll_nil r2
 obtain rfl : args = #[v0, v1, v2] := by cases args; simp_all
 obtain ⟨rfl, rfl⟩ := trodVars_none hV
 have kk0 := h0
 have lt0 : ∀ x ∈ p0, x.block < W.heap.size := by obtain ⟨m, hm⟩ := kk0; exact DataW.trod_lt m _ _ _ hm
 have hw0 : ∀ z ∈ d0.weights Try.prog 3, z ≤ reachBytes := fun z hz => by simpa using List.all_eq_true.1 hsz z (DataW.weights_mem_each (j := 0) rfl rfl z hz)
 obtain ⟨a0, rfl, rfl, rfl, w0⟩ := open_int Try.underlying3 (hval 0 3 v0 rfl rfl) h0
 have kk1 := h1
 have lt1 : ∀ x ∈ p1, x.block < W.heap.size := by obtain ⟨m, hm⟩ := kk1; exact DataW.trod_lt m _ _ _ hm
 have hw1 : ∀ z ∈ d1.weights Try.prog 50, z ≤ reachBytes := fun z hz => by simpa using List.all_eq_true.1 hsz z (DataW.weights_mem_each (j := 1) rfl rfl z hz)
 obtain ⟨cs1, rfl, _, _⟩ : ∃ cs, v1 = .agg cs ∧ cs.size = Try.prog.cellsOf 50 ∧ Row.okWide Try.prog W .any base 50 cs := by have z := (hval 1 50 v1 rfl rfl); unfold Value.okWide at z; rw [Try.underlying50] at z; exact z
 obtain ⟨x1, hx1, gx1⟩ : ∃ x, (k50).K W x cs1.toList ∧ (G50 x) := by
  obtain ⟨fuel, hf⟩ := h1
  exact opens50 H enc W true fuel _ d1 p1 (by simpa [Value.cells] using hf) hw1
 obtain ⟨A5, c5, he1, hs1⟩ := k50_open hx1
 obtain rfl : cs1 = #[.int .i64 x1.f0, .int .i64 x1.f1, .int .i64 x1.f2, .int .i64 x1.f3, .string x1.f4, .slice A5 x1.f5.length c5] := Array.toList_inj.1 he1
 have kk2 := h2
 have lt2 : ∀ x ∈ p2, x.block < W.heap.size := by obtain ⟨m, hm⟩ := kk2; exact DataW.trod_lt m _ _ _ hm
 have hw2 : ∀ z ∈ d2.weights Try.prog 63, z ≤ reachBytes := fun z hz => by simpa using List.all_eq_true.1 hsz z (DataW.weights_mem_each (j := 2) rfl rfl z hz)
 obtain ⟨A2_, n2_, c2_, rfl⟩ := okWide_slice Try.underlying63 (hval 2 63 v2 rfl rfl)
 obtain ⟨x2, hx2, gx2⟩ : ∃ x, (Kd.slice 3 (Kd.int .i64)).K W x [.slice A2_ n2_ c2_] ∧ (∀ y_ ∈ x, (Lit.int .i64 y_).wf = true) := by
  obtain ⟨fuel, hf⟩ := h2
  obtain ⟨x, z1, _, _, z2⟩ := (Opens.slice (b := Try.prog.bytesOf 3) (Opens.int Try.underlying3) Try.underlying63 (by kernel_rfl) rfl) H enc W true fuel _ d2 p2 (by simpa [Value.cells] using hf) hw2
  exact ⟨x, z1, z2⟩
 obtain ⟨A2, c2, he2, hc2, hr2⟩ := hx2
 simp only [List.cons.injEq, and_true, Value.slice.injEq] at he2
 obtain ⟨rfl, rfl, rfl⟩ := he2
 clear hA0 hval0 hsz0 hsz
 refine (Go.Proofs.Ytonedijkgddepaa.P.frontEnds.calls W a0 x1 A5 c5 hs1.2 hs1.1 (G50_len gx1) (call_ok50 gx1) A2_ c2_ x2 hr2).mono fun e W' he0 => ?_
 obtain ⟨he, bel0⟩ := he0
 have bel : Below W.heap.size W W' := bel0
 subst he
 exact ⟨_, rfl, _, _, _, [], _, [], hW', trodAll_mk1 (shut_bool Try.underlying4 _), (trodAll_cons_mk (Below.trod laidOut (by kernel_rfl) (of_decide_eq_true (by kernel_rfl)) kk0 bel lt0) (trodAll_cons_mk (Below.trod laidOut (by kernel_rfl) (of_decide_eq_true (by kernel_rfl)) kk1 bel lt1) (trodAll_cons_mk (Below.trod laidOut (by kernel_rfl) (of_decide_eq_true (by kernel_rfl)) kk2 bel lt2) trodAll_mk0))), rfl, bel.frame _, fun h => by cases h⟩
theorem over : Rows.frontEndsRow.holds Try.pinned (OpenSpec.ofChange Rows.frontEndsSpec) :=
 OpenClaim.holds_of_wide 4 Try.f4 rfl rfl rfl rfl rfl rfl rfl ⟨rfl, rfl, rfl, rfl, rfl⟩ rfl rfl rfl rfl rfl (by kernel_rfl) Try.func4 (by kernel_rfl)
  (of_decide_eq_true (by kernel_rfl)) (by unfold Func.isWrapper; first | (rw [if_pos (by decide +kernel)]; kernel_rfl) | (rw [if_neg (by decide +kernel)]; exact ⟨rfl, rfl⟩))
  (fun os started H enc _ => lifted os started H enc)
theorem proved : Rows.FrontEndsSaid := over
#print axioms proved
end Go.Proofs.Ytonedijkgddepaa.frontEnds
namespace Go.Proofs.Ytonedijkgddepaa
/-- The row, under a short name, for the claim. -/
theorem frontEnds_holds : Rows.FrontEndsSaid := frontEnds.proved
end Go.Proofs.Ytonedijkgddepaa
