/- Small facts on rows that were just made, for the law PlaceCovers. No conditions. -/
import Derived.Test.YtimlagmgcfaepaaHKeep
import Derived.Test.YtimlagmgcfaepaaPWorks04
namespace Go.Proofs.Ytimlagmgcfaepaa.P
open Go.RowKit Go.Proofs.YtimlagmgcfaepaaW.PrintWords Go.Proofs.YtimlagmgcfaepaaW.PrintLast Go.Proofs.YtimlagmgcfaepaaW.PrintMore
set_option linter.unusedVariables false
set_option linter.unusedSimpArgs false
theorem reps1 (w : World) (base : Nat) (x : S26) : Reps (k26.M w base (fun _ => False)) k26.sz [x] [.int .i64 x.f0, .int .i64 x.f1] := by
  refine ⟨rfl, fun j p hj => ?_⟩
  match j, hj with
  | 0, hj => cases hj; exact k26_mkM _ _ _ x
  | j + 1, hj => simp at hj
theorem reps2 (w : World) (base : Nat) (x : S26) : Reps (k26.M w base (fun _ => False)) k26.sz [x, x] [.int .i64 x.f0, .int .i64 x.f1, .int .i64 x.f0, .int .i64 x.f1] := by
  refine ⟨rfl, fun j p hj => ?_⟩
  match j, hj with
  | 0, hj => cases hj; exact k26_mkM _ _ _ x
  | 1, hj => cases hj; exact k26_mkM _ _ _ x
  | j + 2, hj => simp at hj
theorem newC (w : World) (cs : Array Value) (t : TypeId) : ∀ j u, cs.toList[j]? = some u → (w.alloc (.cells cs t)).cell? ((⟨w.heap.size, 0, none⟩ : Addr).add j) = some u := by
  intro j u h
  rw [add_at, Nat.zero_add, blk_cell (heap_alloc_new w _) j]
  simpa using h
theorem new1 (w : World) (a b : Int) : ∀ j u, [Value.int .i64 a, .int .i64 b][j]? = some u → (w.alloc (.cells #[.int .i64 a, .int .i64 b] 26)).cell? ((⟨w.heap.size, 0, none⟩ : Addr).add j) = some u := newC w #[.int .i64 a, .int .i64 b] 26
theorem new2 (w : World) (a b c d : Int) : ∀ j u, [Value.int .i64 a, .int .i64 b, .int .i64 c, .int .i64 d][j]? = some u → (w.alloc (.cells #[.int .i64 a, .int .i64 b, .int .i64 c, .int .i64 d] 26)).cell? ((⟨w.heap.size, 0, none⟩ : Addr).add j) = some u := newC w #[.int .i64 a, .int .i64 b, .int .i64 c, .int .i64 d] 26
theorem one1 (a b : Int) : ∀ u ∈ [Value.int .i64 a, .int .i64 b], u.oneCell' = true := by
  intro u hu
  simp only [List.mem_cons, List.not_mem_nil, or_false] at hu
  rcases hu with rfl | rfl <;> rfl
theorem one2 (a b c d : Int) : ∀ u ∈ [Value.int .i64 a, .int .i64 b, .int .i64 c, .int .i64 d], u.oneCell' = true := by
  intro u hu
  simp only [List.mem_cons, List.not_mem_nil, or_false] at hu
  rcases hu with rfl | rfl | rfl | rfl <;> rfl
theorem worksC (w : World) : Calls Try.prog 12 #[] w fun e w' => e = .returned (.bool true) ∧ Below w.heap.size w w' := by
  obtain ⟨k, hk⟩ := Ev.rounds works_ev
  exact racewaylaw04_works.calls k true w hk
end Go.Proofs.Ytimlagmgcfaepaa.P
