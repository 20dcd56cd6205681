/- front.Asker, by hand: Turn, Tick. No conditions. -/
import Derived.Test.YtonedijkgddepaaFB
namespace Go.Proofs.Ytonedijkgddepaa.P
open Go.RowKit Go.Maps Go.Proofs.YtonedijkgddepaaW.PrintWords Go.Proofs.YtonedijkgddepaaW.PrintLast Go.Proofs.YtonedijkgddepaaW.PrintMore
set_option linter.unusedVariables false
set_option linter.unusedSimpArgs false

instance (g : Int) : Decidable (isG g) := by unfold isG; infer_instance
def turnV (s : As) (g : Int) : Int × As := if s.busy = true then (if isG g then (0, { s with group := g, sent := false }) else (2, s)) else (9, s)
theorem turnV_ok {s : As} {q : Nat} (hk : s.ok q) (g : Int) : (turnV s g).2.ok q := by
 unfold turnV
 split
 ·split
  ·rename_i h
   exact ⟨hk.id1, hk.nodes1, hk.retry1, hk.num1, h, hk.waited1, hk.lead1, hk.q1, hk.data0⟩
  ·exact hk
 ·exact hk
set_option maxHeartbeats 4000000 in
set_option maxRecDepth 100000 in
theorem askTurn (w : World) (B bl q : Nat) (s : As) (h : AskAt w B bl q s) (hk : s.ok q) (g : Int) :
  Calls Try.prog 29 #[.pointer (some ⟨B, 0, none⟩), .int .i64 g] w fun e' w' => e' = .returned (.int .i64 (turnV s g).1) ∧ AskAt w' B bl q (turnV s g).2 ∧ Upd w w' (fun k => k = B) := by
 have H := Aside0.mk h
 have HK := Aside0.mk hk
 have HI := Aside0.mk (show s.id ≠ 0 by have := hk.id1; omega)
 have HB := Aside0.mk h.blk
 clear h hk
 cases hbz : s.busy with
 | false =>
  have HV := Aside0.mk (show turnV s g = (9, s) by unfold turnV; rw [if_neg (by rw [hbz]; decide)])
  rw [HV.out]
  have a24 : w.cell? ⟨B, 24, none⟩ = some (.bool s.busy) := (blk_cell HB.out 24).trans rfl
  rw [hbz] at a24
  go_enter Try.func29, Try.ntmps29
  go_wp2_with (first | (go_at_call 50; (with_reducible refine (askNoneOk _ B bl q s H.out HI.out).mono ?_); rintro e1 w1 ⟨rfl, rfl⟩))
  go_ret
  exact ⟨rfl, H.out, Upd.refl _ _⟩
 | true =>
  by_cases hg : isG g
  ·have HV := Aside0.mk (show turnV s g = (0, { s with group := g, sent := false }) by unfold turnV; rw [if_pos hbz, if_pos hg])
   rw [HV.out]
   have HG := Aside0.mk hg
   clear hg
   have a24 : w.cell? ⟨B, 24, none⟩ = some (.bool s.busy) := (blk_cell HB.out 24).trans rfl
   have a4 : w.cell? ⟨B, 4, none⟩ = some (.int .i64 s.group) := (blk_cell HB.out 4).trans rfl
   have a25 : w.cell? ⟨B, 25, none⟩ = some (.bool s.sent) := (blk_cell HB.out 25).trans rfl
   have az4 := blk_frozen HB.out 4
   have az25 := blk_frozen HB.out 25
   rw [hbz] at a24
   go_enter Try.func29, Try.ntmps29
   go_wp2_with (first | (go_at_call 50; (with_reducible refine (askNoneOk _ B bl q s H.out HI.out).mono ?_); rintro e1 w1 ⟨rfl, rfl⟩) | (go_at_call 51; (with_reducible refine (isC _ g HG.out).mono ?_); rintro e1 w1 ⟨rfl, rfl⟩))
   go_ret
   exact ⟨rfl, ⟨askSet (s := { s with group := g }) (s' := { s with group := g, sent := false }) (askSet (s' := { s with group := g }) HB.out 4 _ rfl) 25 _ rfl, H.out.map.keep ((Below.heap_setCell _ _ _ _ H.out.lt.2.2.symm).trans (Below.heap_setCell _ _ _ _ H.out.lt.2.2.symm)) (fun _ _ h => h)⟩, (Upd.set _ ⟨B, 4, none⟩ _).and (Upd.set _ ⟨B, 25, none⟩ _)⟩
  ·have HV := Aside0.mk (show turnV s g = (2, s) by unfold turnV; rw [if_pos hbz, if_neg hg])
   rw [HV.out]
   have HG := Aside0.mk hg
   clear hg
   have a24 : w.cell? ⟨B, 24, none⟩ = some (.bool s.busy) := (blk_cell HB.out 24).trans rfl
   rw [hbz] at a24
   go_enter Try.func29, Try.ntmps29
   go_wp2_with (first | (go_at_call 50; (with_reducible refine (askNoneOk _ B bl q s H.out HI.out).mono ?_); rintro e1 w1 ⟨rfl, rfl⟩) | (go_at_call 51; (with_reducible refine (isNotC _ g HG.out).mono ?_); rintro e1 w1 ⟨rfl, rfl⟩))
   go_ret
   exact ⟨rfl, H.out, Upd.refl _ _⟩
end Go.Proofs.Ytonedijkgddepaa.P
