/- An act as it comes in: its kind, and how a row of acts is read, by hand. No conditions. -/
import Derived.Test.YtonedijkgddepaaRJ
import Derived.Test.YtonedijkgddepaaRK
namespace Go.Proofs.Ytonedijkgddepaa.P
open Go.RowKit Go.Maps Go.Proofs.YtonedijkgddepaaW.PrintWords Go.Proofs.YtonedijkgddepaaW.PrintLast Go.Proofs.YtonedijkgddepaaW.PrintMore
set_option linter.unusedVariables false
set_option linter.unusedSimpArgs false

structure S50 where
 f0 : Int
 f1 : Int
 f2 : Int
 f3 : Int
 f4 : ByteArray
 f5 : (List S106)
def z50 : S50 := ⟨0, 0, 0, 0, (⟨#[]⟩ : ByteArray), []⟩
def k50 : Kd S50 := Kd.iso (Kd.pair (Kd.int .i64) (Kd.pair (Kd.int .i64) (Kd.pair (Kd.int .i64) (Kd.pair (Kd.int .i64) (Kd.pair Kd.string (Kd.slice 106 k106)))))) (fun x : S50 => (x.f0, x.f1, x.f2, x.f3, x.f4, x.f5))
structure S52 where
 f0 : Int
 f1 : Bool
 f2 : S47
 f3 : S50
def z52 : S52 := ⟨0, false, z47, z50⟩
def k52 : Kd S52 := Kd.iso (Kd.pair (Kd.int .i64) (Kd.pair Kd.bool (Kd.pair k47 k50))) (fun x : S52 => (x.f0, x.f1, x.f2, x.f3))
theorem k50_open {w : World} {x : S50} {cs : List Value} (h : k50.K w x cs) : ∃ A5 c5, cs = [.int .i64 x.f0, .int .i64 x.f1, .int .i64 x.f2, .int .i64 x.f3, .string x.f4, .slice A5 x.f5.length c5] ∧ x.f5.length ≤ c5 ∧ k106.C w A5 x.f5.length x.f5 := by
 obtain ⟨_, _, rfl, rfl, ⟨_, _, rfl, rfl, ⟨_, _, rfl, rfl, ⟨_, _, rfl, rfl, ⟨_, _, rfl, rfl, ⟨A5, c5, rfl, l5, g5⟩⟩⟩⟩⟩⟩ := h
 exact ⟨A5, c5, rfl, l5, g5⟩
def actL (x : S52) (A10 : Option Addr) (c10 : Nat) (A11 : Option Addr) (c11 : Nat) (A30 : Option Addr) (c30 : Nat) (A34 : Option Addr) (c34 : Nat) (A35 : Option Addr) (c35 : Nat) (A36 : Option Addr) (c36 : Nat) (A38 : Option Addr) (c38 : Nat) (A39 : Option Addr) (c39 : Nat) (A47 : Option Addr) (c47 : Nat) : List Value := [.int .i64 x.f0, .bool x.f1, .int .i64 x.f2.f0, .int .i64 x.f2.f1, .int .i64 x.f2.f2, .int .i64 x.f2.f3, .int .i64 x.f2.f4.f0, .int .i64 x.f2.f4.f1, .int .i64 x.f2.f4.f2, .int .i64 x.f2.f4.f3, .int .i64 x.f2.f4.f4, .int .i64 x.f2.f4.f5, .slice A10 x.f2.f4.f6.length c10, .slice A11 x.f2.f4.f7.length c11, .int .i64 x.f2.f5.f0, .int .i64 x.f2.f5.f1, .int .i64 x.f2.f5.f2, .int .i64 x.f2.f5.f3, .int .i64 x.f2.f5.f4, .string x.f2.f5.f5, .string x.f2.f5.f6, .string x.f2.f5.f7, .string x.f2.f5.f8, .int .i64 x.f2.f5.f9, .int .i64 x.f2.f5.f10, .int .i64 x.f2.f5.f11.f0, .string x.f2.f5.f11.f1, .int .i64 x.f2.f5.f11.f2, .int .i64 x.f2.f5.f11.f3, .int .i64 x.f2.f5.f12.f0, .int .i64 x.f2.f5.f12.f1, .int .i64 x.f2.f5.f13, .slice A30 x.f2.f5.f14.length c30, .int .i64 x.f2.f6.f0, .int .i64 x.f2.f6.f1, .int .i64 x.f2.f6.f2, .slice A34 x.f2.f6.f3.length c34, .slice A35 x.f2.f6.f4.length c35, .slice A36 x.f2.f6.f5.length c36, .int .i64 x.f2.f7.f0, .slice A38 x.f2.f7.f1.length c38, .slice A39 x.f2.f8.length c39, .int .i64 x.f3.f0, .int .i64 x.f3.f1, .int .i64 x.f3.f2, .int .i64 x.f3.f3, .string x.f3.f4, .slice A47 x.f3.f5.length c47]
theorem k52_open {w : World} {x : S52} {cs : List Value} (h : k52.K w x cs) : ∃ A10 c10 A11 c11 A30 c30 A34 c34 A35 c35 A36 c36 A38 c38 A39 c39 A47 c47, cs = actL x A10 c10 A11 c11 A30 c30 A34 c34 A35 c35 A36 c36 A38 c38 A39 c39 A47 c47 ∧ x.f2.f6.f3.length ≤ c34 ∧ k115.C w A34 x.f2.f6.f3.length x.f2.f6.f3 ∧ x.f2.f6.f5.length ≤ c36 ∧ k35.C w A36 x.f2.f6.f5.length x.f2.f6.f5 ∧ x.f2.f7.f1.length ≤ c38 ∧ k108.C w A38 x.f2.f7.f1.length x.f2.f7.f1 := by
 obtain ⟨_, _, rfl, rfl, ⟨_, _, rfl, rfl, ⟨_, _, rfl, h2, h3⟩⟩⟩ := h
 obtain ⟨A10, c10, A11, c11, A30, c30, A34, c34, A35, c35, A36, c36, A38, c38, A39, c39, rfl, l10, g10, l11, g11, l30, g30, l34, g34, l35, g35, l36, g36, l38, g38, l39, g39⟩ := k47_open h2
 obtain ⟨A5, c5, rfl, l5, g5⟩ := k50_open h3
 exact ⟨A10, c10, A11, c11, A30, c30, A34, c34, A35, c35, A36, c36, A38, c38, A39, c39, A5, c5, rfl, l34, g34, l36, g36, l38, g38⟩
/-- An act of a row that came in. -/
theorem act_at {w : World} {A : Option Addr} {n : Nat} {xs : List S52} (h : Kd.C k52 w A n xs) (i : Nat) (h1 : i < n) : ∃ (ad : Addr) (A10 : Option Addr) (c10 : Nat) (A11 : Option Addr) (c11 : Nat) (A30 : Option Addr) (c30 : Nat) (A34 : Option Addr) (c34 : Nat) (A35 : Option Addr) (c35 : Nat) (A36 : Option Addr) (c36 : Nat) (A38 : Option Addr) (c38 : Nat) (A39 : Option Addr) (c39 : Nat) (A47 : Option Addr) (c47 : Nat), A = some ad ∧
  (∀ j v, (actL (xs.getD i z52) A10 c10 A11 c11 A30 c30 A34 c34 A35 c35 A36 c36 A38 c38 A39 c39 A47 c47)[j]? = some v → w.cell? ((ad.add (i * 48)).add j) = some v) ∧ (xs.getD i z52).f2.f6.f3.length ≤ c34 ∧ k115.C w A34 (xs.getD i z52).f2.f6.f3.length (xs.getD i z52).f2.f6.f3 ∧ (xs.getD i z52).f2.f6.f5.length ≤ c36 ∧ k35.C w A36 (xs.getD i z52).f2.f6.f5.length (xs.getD i z52).f2.f6.f5 ∧ (xs.getD i z52).f2.f7.f1.length ≤ c38 ∧ k108.C w A38 (xs.getD i z52).f2.f7.f1.length (xs.getD i z52).f2.f7.f1 := by
 obtain ⟨ad, c, e, _, hK, hc0⟩ := Kd.C_get h z52 (i : Int) (by omega) (by omega)
 rw [Int.toNat_natCast] at hK hc0
 obtain ⟨A10, c10, A11, c11, A30, c30, A34, c34, A35, c35, A36, c36, A38, c38, A39, c39, A5, c5, rfl, l34, g34, l36, g36, l38, g38⟩ := k52_open hK
 refine ⟨ad, A10, c10, A11, c11, A30, c30, A34, c34, A35, c35, A36, c36, A38, c38, A39, c39, A5, c5, e, fun j v hv => ?_, l34, g34, l36, g36, l38, g38⟩
 have hc : ∀ j u, _ → w.cell? (ad.add (i * 48 + j)) = some u := hc0
 have e2 : (ad.add (i * 48)).add j = ad.add (i * 48 + j) := by
  rcases Nat.eq_zero_or_pos j with h0 | h0
  ·subst h0
   simp [Addr.add]
  ·have h3 : ¬ j = 0 := by omega
   have h4 : ¬ i * 48 + j = 0 := by omega
   unfold Addr.add
   rw [if_neg h3, if_neg h4]
   rcases Nat.eq_zero_or_pos i with h5 | h5
   ·subst h5
    simp
   ·have h6 : ¬ i * 48 = 0 := by omega
    rw [if_neg h6, Nat.add_assoc]
 rw [e2]
 exact hc j v hv
section
variable {P : Program} {ops : Array Oper} {rest : List Oper} {o : Oper} {a : Act} {Q : Exit → Act → World → Prop} {W : World}
theorem load_at (hgd : o.guard = none) (ty : TypeId) (x : Operand) (ho : o.op = .load ty x) (ad : Addr) (hx : a.eval x = .pointer (some ad)) (cs : List Value) (hc : ∀ j v, cs[j]? = some v → W.cell? (ad.add j) = some v)
  {d : TypeDesc} (hu : P.underlying ty = some d) (hd : d.isRow = true) (hi : (P.info? ty).map (·.size) = some cs.length) (h : wpList P ops Q rest (a.put o.dst (.agg cs.toArray)) W) : wpList P ops Q (o :: rest) a W := by
 refine Go.wpList_plain hgd fun K hK => ?_
 have hl : (loadCells ad cs.length).run P W = .ok cs.toArray W := run_loadCells_list (P := P) W ad cs hc
 have hv : (loadVar ty ad).run P W = .ok (.agg cs.toArray) W := by
  cases hq : P.info? ty with
  | none => simp [hq] at hi
  | some i =>
   have hs : i.size = cs.length := by simpa [hq] using hi
   have hagg : (isAgg ty).run P W = .ok true W := by
    unfold isAgg
    rw [Sem.run_bind, run_underlying hu W]
    cases d <;> simp_all
   simp [loadVar, Sem.run_bind, hagg, sizeOf, typeInfo, hq, hs, hl]
 unfold Oper.wp execOp
 simp only [ho, hx, Instr.loadAt, Instr.sureAddr, Sem.run_bind, Sem.run_pure, Result.andThen_ok, hv]
 exact hK _ _ h
end
end Go.Proofs.Ytonedijkgddepaa.P
