/- session.Note of a number that is too old, by hand. No conditions. -/
import Derived.Test.YthelhieeplfffaaHNote
namespace Go.Proofs.Ythelhieeplfffaa.P
open Go.RowKit Go.Maps Go.Proofs.YthelhieeplfffaaW.PrintWords Go.Proofs.YthelhieeplfffaaW.PrintLast Go.Proofs.YthelhieeplfffaaW.PrintMore
set_option linter.unusedVariables false
set_option linter.unusedSimpArgs false

set_option maxHeartbeats 4000000 in
set_option maxRecDepth 100000 in
theorem noteOldR (S : Nat → Prop) (w : World) (B b q : Nat) (M : List (Int × (Int × Rp))) (h : TabR S w B b q M) (c num : Int) (e s n : Int) (got : List S56) (data : List ByteArray) (about : List S76) (A1 A2 A3 : Option Addr) (c1 c2 c3 : Nat) (hf : (⟨e, s, n, got, data, about⟩ : Rp).few) (hcc : got.length ≤ c1 ∧ data.length ≤ c2 ∧ about.length ≤ c3) (hr1 : Kd.C k56 w A1 got.length got) (hr2 : Kd.C Kd.string w A2 data.length data) (hr3 : Kd.C k76 w A3 about.length about) (hS : ∀ k, S k → k < w.heap.size) (hSb : S b) (hc : 1 ≤ c ∧ c ≤ 1099511627776) (hn : 1 ≤ num ∧ num ≤ 1099511627776) (y : Int × Rp) (hin : (c, y) ∈ M) (hy : num ≤ y.1) (hq : q < 1000) :
    Calls Try.prog 8 #[.pointer (some ⟨B, 0, none⟩), .int .i64 c, .int .i64 num, .agg #[.int .i64 e, .int .i64 s, .int .i64 n, .slice A1 got.length c1, .slice A2 data.length c2, .slice A3 about.length c3]] w fun e' w' => e' = .returned (.int .i64 16) ∧ Below w.heap.size w w' := by
  have HT := Aside0.mk h
  have HF := Aside0.mk hf
  have HCC := Aside0.mk hcc
  have HS := Aside0.mk hS
  have HSB := Aside0.mk hSb
  have HR := Aside0.mk (And.intro hr1 (And.intro hr2 hr3))
  clear hf hcc hS hSb hr1 hr2 hr3
  obtain ⟨hb, D, hown, hrel⟩ := h
  have HO := Aside0.mk hown
  have HB := Aside0.mk hb
  have HREL := Aside0.mk hrel
  have HIN := Aside0.mk hin
  have HK := Aside0.mk (keyOf_int_mk (P := Try.prog) (k := 3) Try.underlying3 (show (Lit.int .i64 c).wf = true by simp [Lit.wf]; simp [IntKind.min, IntKind.bits]; omega))
  have HC := Aside0.mk hc
  have HN := Aside0.mk hn
  have hcell : w.cell? ⟨B, 0, none⟩ = some (.map (some b)) := (blk_cell hb 0).trans rfl
  have hlt := blk_lt hb
  have hne := Nat.ne_of_lt hlt
  have hne1 : B ≠ w.heap.size + 1 := by omega
  have hne2 : B ≠ w.heap.size + 1 + 1 := by omega
  have hlt1 : B < w.heap.size + 1 := by omega
  have hlt2 : B < w.heap.size + 1 + 1 := by omega
  have HHAS := Aside0.mk (show Maps.has D (.int .i64 c) = true from (hrel.keys c).2 ⟨_, hin, rfl⟩)
  obtain ⟨vy, hvy, gy0, dy0, ay0, rfl, ⟨⟨gA, gc, rfl, _, _⟩, ⟨dA, dc, rfl, _, _⟩, ⟨aA, ac, rfl, _, _⟩⟩, hyf⟩ := hrel.vals _ hin
  unfold lasV at hvy
  have HAT := Aside0.mk hvy
  clear hvy hyf
  have HQ := Aside0.mk (show q < maxLen by unfold maxLen; omega)
  have f1 : decide (num ≤ y.1) = true := decide_eq_true hy
  clear hb hown hrel hin hc hn hy hq
  go_enter Try.func8, Try.ntmps8
  go_wp2_with (first
    | (go_at_call 18; (with_reducible refine (noneC _ B b (by repeat (first | exact HB.out | refine blk_alloc ?_ _))).mono ?_); rintro e1 w1 ⟨rfl, rfl⟩)
    | (go_at_call 19; (with_reducible refine (numberC _ _ c num (by refine blk_at ?_; simp) HC.out HN.out).mono ?_); rintro e1 w1 ⟨rfl, rfl⟩)
    | (at_lookup; refine look_ok_held _ rfl _ _ 46 rfl 3 59 law3 Try.underlying46 zeroV (zero59 _) b q D rfl (by repeat (first | exact HO.out | refine World.ownsMap.alloc ?_ _)) _ (.int .i64 c) rfl HK.out (.agg #[.int .i64 y.1, .int .i64 y.2.e, .int .i64 y.2.s, .int .i64 y.2.n, .slice gA y.2.got.length gc, .slice dA y.2.data.length dc, .slice aA y.2.about.length ac]) HAT.out true HHAS.out ?_))
  go_ret
  refine ⟨rfl, ?_⟩
  repeat (first | exact Below.refl _ _ | refine below_alloc ?_ _)
end Go.Proofs.Ythelhieeplfffaa.P
