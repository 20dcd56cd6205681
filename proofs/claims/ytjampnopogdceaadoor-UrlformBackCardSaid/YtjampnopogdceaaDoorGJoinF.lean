/- strings.Join in the print's own form. No conditions. -/
import Derived.Test.YtjampnopogdceaaDoorGJoin
namespace Go.Proofs.YtjampnopogdceaaDoor.P
open Go.RowKit Go.Lib Go.Proofs.YtjampnopogdceaaDoorW.PrintWords Go.Proofs.YtjampnopogdceaaDoorW.PrintLast Go.Proofs.YtjampnopogdceaaDoorW.PrintMore
set_option linter.unusedVariables false
def strings_Join.f (l0 : List ByteArray) (a1 : ByteArray) : Option ByteArray :=
  if l0.length ≤ 1000000 ∧ (Lib.join (l0.map (·.data.toList)) a1.data.toList).length ≤ 140737488355328 then some (ofL (Lib.join (l0.map (·.data.toList)) a1.data.toList)) else none
theorem at_string {w : World} {A : Option Addr} {n : Nat} {xs : List ByteArray} (h : Kd.C Kd.string w A n xs) (i : Nat) (h1 : i < n) : ∃ ad, A = some ad ∧ w.cell? (ad.add i) = some (.string (xs.getD i ⟨#[]⟩)) := by
  obtain ⟨ad, c, e, _, hK, hc0⟩ := Kd.C_get h ⟨#[]⟩ (i : Int) (by omega) (by omega)
  have hc : ∀ j u, c[j]? = some u → w.cell? (ad.add ((i : Int).toNat * 1 + j)) = some u := hc0
  have hK2 : c = [.string (xs.getD (i : Int).toNat ⟨#[]⟩)] := hK
  have := hc 0 (.string (xs.getD (i : Int).toNat ⟨#[]⟩)) (by rw [hK2]; rfl)
  simp only [Int.toNat_natCast, Nat.mul_one, Nat.add_zero] at this
  exact ⟨ad, e, this⟩
theorem strings_Join.calls (A0 : Option Addr) (c0 : Nat) (l0 : List ByteArray) (a1 : ByteArray) (r : ByteArray) (w : World) (hr0 : Kd.C Kd.string w A0 l0.length l0) (hc0 : l0.length ≤ c0) (h : strings_Join.f l0 a1 = some r) :
    Calls Tryd.prog 42 #[.slice A0 l0.length c0, .string a1] w fun e w' => e = .returned (.string r) ∧ Below w.heap.size w w' := by
  unfold strings_Join.f at h
  split at h
  case isFalse => cases h
  rename_i hb
  obtain rfl := Option.some.inj h
  cases l0 with
  | nil =>
    refine (joinNone A0 c0 a1 w).mono fun e w' ⟨he, hw⟩ => ⟨he, hw ▸ Below.refl _ _⟩
  | cons x l =>
    obtain ⟨ad, rfl, hx⟩ := at_string hr0 0 (by simp)
    refine joinC ad c0 (x :: l) a1 w (fun j y hj => ?_) ?_ (by omega) hc0 hb.2
    · obtain ⟨ad', e, hy⟩ := at_string hr0 j (List.getElem?_eq_some_iff.1 hj).1
      cases e
      rw [hy, List.getD, hj]; rfl
    · have := World.block_lt_of_cell? w _ hx
      rw [add_block] at this
      exact this
end Go.Proofs.YtjampnopogdceaaDoor.P
