/- front: the chapter's example, plainly. No conditions. -/
import Derived.Test.YtonedijkgddepaaSepH
namespace Go.Proofs.Ytonedijkgddepaa.P
open Go.RowKit Go.Maps Go.Proofs.YtonedijkgddepaaW.PrintWords Go.Proofs.YtonedijkgddepaaW.PrintLast Go.Proofs.YtonedijkgddepaaW.PrintMore
set_option linter.unusedVariables false
set_option linter.unusedSimpArgs false

def went : S106 := ⟨⟨#[103]⟩, ⟨#[98]⟩, ⟨#[]⟩, z33⟩
def wcall : Ca := ⟨1, 0, 0, 0, ⟨#[]⟩, [went]⟩
def wpcs : List S108 := [⟨⟨0, 65536⟩, 1⟩]
def wa0 : As := newAs 1 1 3
def wc1 : Cl := ⟨wcall, true, true, true, 0, 0, [], 0, [], []⟩
def wpk1 : S47 := ⟨5, 0, -1, 0, z31, z38, z42, ⟨1, wpcs⟩, []⟩
def wc2 : Cl := ⟨wcall, true, true, false, 0, 1, wpcs, 0, [], []⟩
def wcmd : S38 := ⟨1, 1, 1, 0, 0, ⟨#[103]⟩, ⟨#[98]⟩, ⟨#[]⟩, ⟨#[]⟩, 0, 0, z33, z35, 0, []⟩
def wa1 : As := ⟨1, 1, 3, 1, 1, wcmd, true, false, 0, []⟩
def wa2 : As := ⟨1, 1, 3, 1, 1, wcmd, true, true, 0, []⟩
def wrep : S42 := ⟨0, 9, 0, [], [], []⟩
def wpk2 : S47 := ⟨3, 0, -1, 1, z31, ⟨0, 1, 1, 0, 0, ⟨#[]⟩, ⟨#[]⟩, ⟨#[]⟩, ⟨#[]⟩, 0, 0, z33, z35, 0, []⟩, wrep, z45, []⟩
def wa3 : As := ⟨1, 1, 3, 1, 1, wcmd, false, true, 0, []⟩
def wc3 : Cl := ⟨wcall, false, true, false, 0, 1, wpcs, 1, [], [wrep]⟩
theorem w_conf : confOk 1 1 3 := by unfold confOk; omega
theorem w_ok0 : wa0.ok 0 := newAs_ok w_conf
theorem w_start : startV newCl wcall = (0, wc1) := by
 unfold startV
 rw [if_neg (by decide), if_pos]
 ·rfl
 ·unfold callOk numB
  refine ⟨by decide, fun h => ?_, fun _ => by decide, by decide, by decide, by decide⟩
  revert h
  decide
theorem w_tick1 : cliTickV wa0 wc1 wa0 wc1 = (wa0, wc1, [mapPk 1 0]) := by kernel_rfl
theorem w_first : ∃ k, racewayref15_First.f k 1 = some (1, wpcs, 0) := ⟨20, by kernel_rfl⟩
theorem w_may : ∃ k, chart_May.f k 1 wpcs = some true := ⟨200, by kernel_rfl⟩
theorem w_may2 : ∃ k, chart_May.f k 0 [] = some false := ⟨200, by kernel_rfl⟩
theorem w_recv1 : cliRecvV wa0 wc1 wpk1 true 1 = (wa0, wc2) := by kernel_rfl
theorem w_place : ∃ k, place_Of.f k ⟨#[103]⟩ = some 50186 := ⟨20, by kernel_rfl⟩
theorem w_of : ∃ k, chart_Of.f k 1 wpcs 50186 = some 1 := ⟨20, by kernel_rfl⟩
theorem w_ask : (askV wa0 1 (cmdV wc2.call (wc2.call.entries.getD 0 z106))).2 = wa1 := by kernel_rfl
theorem w_next (w0 : World) (L : List Thing) (BC BA bl : Nat) (v1 v2 v3 v4 : Value) : NextDoes w0 L BC BA bl 3 wa0 wc2 v1 v2 v3 v4 wa1 wc2 := by
 have h := nextSendT w0 L BC BA bl 3 wa0 wc2 v1 v2 v3 v4 (w_ok0.mono (by decide) (by decide)) 0 rfl (by decide) rfl 50186 1 w_place w_of
 rw [w_ask] at h
 exact h
theorem w_ok1 : wa1.ok 1 := by rw [← w_ask]; exact askV_ok w_ok0 (by decide) 1 _ rfl
theorem w_tick2 : cliTickV wa0 wc2 wa1 wc2 = (wa2, wc2, [askPk wa2]) := by kernel_rfl
theorem w_ok2 : wa2.ok 3 := ⟨by decide, by decide, by decide, by decide, by decide, by decide, fun x h => (by cases h), by decide, rfl⟩
theorem w_recv2 : cliRecvV wa2 wc2 wpk2 false 0 = (wa3, wc3) := by kernel_rfl
end Go.Proofs.Ytonedijkgddepaa.P
