/- The plain law: a reply is like itself. No program in sight. Turned from the session's PSess13. -/
import Derived.Test.YtonedijkgddepaaP28
namespace Go.Proofs.Ytonedijkgddepaa.P
open Go.RowKit Go.Proofs.YtonedijkgddepaaW.PrintWords Go.Proofs.YtonedijkgddepaaW.PrintLast Go.Proofs.YtonedijkgddepaaW.PrintMore
set_option linter.unusedVariables false

theorem w64_small {i : Int} (h0 : 0 ≤ i) (h1 : i < 9223372036854775808) : wrap64 i = i := by
 unfold wrap64
 omega
theorem texts_self (l : List ByteArray) (h : l.length < 1000) (d : Nat) : ∀ (i : Nat), i + d = l.length → Ev (fun k => racewayref01_SameTexts.l0 k l l (i : Int)) true := by
 induction d with
 | zero =>
  intro i hi
  refine Ev.step (f := fun _ => some true) (fun k => ?_) (Ev.now _)
  simp only [racewayref01_SameTexts.l0]
  rw [if_neg (by omega)]
 | succ d ih =>
  intro i hi
  refine Ev.step (fun k => ?_) (ih (i + 1) (by omega))
  simp only [racewayref01_SameTexts.l0]
  rw [if_pos (by omega), if_pos (by omega)]
  simp
  rw [w64_small (by omega) (by omega), if_pos (by omega)]
theorem ranges_self (l : List S35) (h : l.length < 1000) (d : Nat) : ∀ (i : Nat), i + d = l.length → Ev (fun k => racewayref04_Same.l0 k l l (i : Int)) true := by
 induction d with
 | zero =>
  intro i hi
  refine Ev.step (f := fun _ => some true) (fun k => ?_) (Ev.now _)
  simp only [racewayref04_Same.l0]
  rw [if_neg (by omega)]
 | succ d ih =>
  intro i hi
  refine Ev.step (fun k => ?_) (ih (i + 1) (by omega))
  simp only [racewayref04_Same.l0]
  rw [if_pos (by omega), if_pos (by omega)]
  simp
  rw [w64_small (by omega) (by omega), if_pos (by omega)]
theorem gots_self (e s n : Int) (l : List S115) (t : List ByteArray) (a : List S35) (h : l.length < 1000) (d : Nat) : ∀ (i : Nat), i + d = l.length → Ev (fun k => racewayref05_SameReply.l0 k (i : Int) e s n l t a e s n l t a) true := by
 induction d with
 | zero =>
  intro i hi
  refine Ev.step (f := fun _ => some true) (fun k => ?_) (Ev.now _)
  simp only [racewayref05_SameReply.l0]
  rw [if_neg (by omega)]
 | succ d ih =>
  intro i hi
  refine Ev.step (fun k => ?_) (ih (i + 1) (by omega))
  simp only [racewayref05_SameReply.l0]
  rw [if_pos (by omega), if_pos (by omega)]
  simp
  rw [w64_small (by omega) (by omega), if_pos (by omega)]
theorem reply_self (e s n : Int) (l : List S115) (t : List ByteArray) (a : List S35) (h1 : l.length < 1000) (h2 : t.length < 1000) (h3 : a.length < 1000) : Ev (fun k => racewayref05_SameReply.f k e s n l t a e s n l t a) true := by
 unfold racewayref05_SameReply.f
 simp only [if_true]
 have t1 : Ev (fun k => racewayref01_SameTexts.f k t t) true := by
  unfold racewayref01_SameTexts.f
  simp only [if_true]
  exact texts_self t h2 t.length 0 (by omega)
 have a1 : Ev (fun k => racewayref04_Same.f k a a) true := by
  unfold racewayref04_Same.f
  simp only [if_true]
  exact ranges_self a h3 a.length 0 (by omega)
 refine Ev.bind t1 ?_
 simp only [if_true]
 refine Ev.bind a1 (Ev.step (fun k => ?_) (gots_self e s n l t a h1 l.length 0 (by omega)))
 simp only [racewayref05_SameReply.j0]
 rw [if_neg (by decide)]
 rfl
end Go.Proofs.Ytonedijkgddepaa.P
