/- session.Note, whatever is known: one contract. No conditions. -/
import Derived.Test.YthelhieeplfffaaHOld
namespace Go.Proofs.Ythelhieeplfffaa.P
open Go.RowKit Go.Maps Go.Proofs.YthelhieeplfffaaW.PrintWords Go.Proofs.YthelhieeplfffaaW.PrintLast Go.Proofs.YthelhieeplfffaaW.PrintMore
set_option linter.unusedVariables false
set_option linter.unusedSimpArgs false

def zLa : Int × Rp := (0, ⟨0, 0, 0, [], [], []⟩)
def lastM (c : Int) (M : List (Int × (Int × Rp))) : Int := (getG zLa c M).1
def inM {β : Type} (c : Int) (M : List (Int × β)) : Bool := M.any (fun x => x.1 == c)
theorem inM_iff {β : Type} (c : Int) (M : List (Int × β)) : inM c M = true ↔ ∃ y, (c, y) ∈ M := by
  unfold inM
  rw [List.any_eq_true]
  constructor
  · rintro ⟨x, hx, he⟩
    have : x.1 = c := by simpa using he
    exact ⟨x.2, by rw [← this]; exact hx⟩
  · rintro ⟨y, hy⟩
    exact ⟨_, hy, by simp⟩
def putM {β : Type} (c : Int) (y : β) (M : List (Int × β)) : List (Int × β) := if inM c M = true then setG c y M else M ++ [(c, y)]
theorem TabR.mono {S : Nat → Prop} {w : World} {B b q q' : Nat} {M : List (Int × (Int × Rp))} (h : TabR S w B b q M) (hq : q ≤ q') : TabR S w B b q' M := by
  obtain ⟨h1, D, h2, h3⟩ := h
  exact ⟨h1, D, h2.mono hq, h3⟩
theorem noteAny (S : Nat → Prop) (w : World) (B b q : Nat) (M : List (Int × (Int × Rp))) (h : TabR S w B b q M) (c num : Int) (e s n : Int) (got : List S56) (data : List ByteArray) (about : List S76) (A1 A2 A3 : Option Addr) (c1 c2 c3 : Nat) (hf : (⟨e, s, n, got, data, about⟩ : Rp).few) (hcc : got.length ≤ c1 ∧ data.length ≤ c2 ∧ about.length ≤ c3) (hr1 : Kd.C k56 w A1 got.length got) (hr2 : Kd.C Kd.string w A2 data.length data) (hr3 : Kd.C k76 w A3 about.length about) (hS : ∀ k, S k → k < w.heap.size) (hSb : S b) (hc : 1 ≤ c ∧ c ≤ 1099511627776) (hn : 1 ≤ num ∧ num ≤ 1099511627776) (hl : M.length < 64) (hq : q < 1000) :
    Calls Try.prog 8 #[.pointer (some ⟨B, 0, none⟩), .int .i64 c, .int .i64 num, .agg #[.int .i64 e, .int .i64 s, .int .i64 n, .slice A1 got.length c1, .slice A2 data.length c2, .slice A3 about.length c3]] w fun e' w' =>
      ∃ (ev : Int) (M' : List (Int × (Int × Rp))), e' = .returned (.int .i64 ev) ∧ TabR S w' B b (q + 1) M' ∧ w.grownBy w' (some b) ∧ ((ev = 0 ∧ lastM c M < num ∧ M' = putM c (num, ⟨e, s, n, got, data, about⟩) M) ∨ (ev = 16 ∧ num ≤ lastM c M ∧ M' = M)) := by
  have hap := h.2
  obtain ⟨D, _, hrel⟩ := hap
  by_cases hin : ∃ y, (c, y) ∈ M
  · obtain ⟨y, hy⟩ := hin
    have hlast : lastM c M = y.1 := by unfold lastM; rw [getG_in zLa c y M hrel.apart hy]
    by_cases hlt : y.1 < num
    · refine (noteMoreR S w B b q M h c num e s n got data about A1 A2 A3 c1 c2 c3 hf hcc hr1 hr2 hr3 hS hSb hc hn y hy hlt hq).mono ?_
      rintro e' w' ⟨rfl, hT, hg⟩
      refine ⟨0, _, rfl, hT, hg, Or.inl ⟨rfl, by rw [hlast]; exact hlt, ?_⟩⟩
      unfold putM
      rw [if_pos ((inM_iff c M).2 ⟨y, hy⟩)]
    · refine (noteOldR S w B b q M h c num e s n got data about A1 A2 A3 c1 c2 c3 hf hcc hr1 hr2 hr3 hS hSb hc hn y hy (by omega) hq).mono ?_
      rintro e' w' ⟨rfl, hb⟩
      exact ⟨16, M, rfl, (h.below hb).mono (Nat.le_succ _), grown_of_below hb _, Or.inr ⟨rfl, by rw [hlast]; omega, rfl⟩⟩
  · have hno : ∀ x ∈ M, x.1 ≠ c := fun x hx he => hin ⟨x.2, by rw [← he]; exact hx⟩
    have hlast : lastM c M = 0 := by unfold lastM; rw [getG_no zLa c M hno]; rfl
    refine (noteNewR S w B b q M h c num e s n got data about A1 A2 A3 c1 c2 c3 hf hcc hr1 hr2 hr3 hS hSb hc hn hno hl hq).mono ?_
    rintro e' w' ⟨rfl, hT, hg⟩
    refine ⟨0, _, rfl, hT, hg, Or.inl ⟨rfl, by rw [hlast]; omega, ?_⟩⟩
    unfold putM
    rw [if_neg (fun hh => hin ((inM_iff c M).1 hh))]
end Go.Proofs.Ythelhieeplfffaa.P
