/- SessionLast's argument, told by the print's kinds: calls with their replies. No conditions. -/
import Derived.Test.YthelhieeplfffaaHMap
import Derived.Test.YthelhieeplfffaaOpens
namespace Go.Proofs.Ythelhieeplfffaa.P
open Go.RowKit Go.Maps Go.Proofs.YthelhieeplfffaaW.PrintWords Go.Proofs.YthelhieeplfffaaW.PrintLast Go.Proofs.YthelhieeplfffaaW.PrintMore
set_option linter.unusedVariables false
set_option linter.unusedSimpArgs false

def k32 : Kd Rp := Kd.iso (Kd.pair (Kd.int .i64) (Kd.pair (Kd.int .i64) (Kd.pair (Kd.int .i64) (Kd.pair (Kd.slice 56 k56) (Kd.pair (Kd.slice 9 Kd.string) (Kd.slice 76 k76)))))) (fun x : Rp => (x.e, x.s, x.n, x.got, x.data, x.about))
theorem k32_open {w : World} {x : Rp} {cs : List Value} (h : k32.K w x cs) : ∃ A1 c1 A2 c2 A3 c3, cs = [.int .i64 x.e, .int .i64 x.s, .int .i64 x.n, .slice A1 x.got.length c1, .slice A2 x.data.length c2, .slice A3 x.about.length c3] ∧ (x.got.length ≤ c1 ∧ x.data.length ≤ c2 ∧ x.about.length ≤ c3) ∧ k56.C w A1 x.got.length x.got ∧ Kd.string.C w A2 x.data.length x.data ∧ k76.C w A3 x.about.length x.about := by
  obtain ⟨_, _, rfl, rfl, _, _, rfl, rfl, _, _, rfl, rfl, _, _, rfl, ⟨A1, c1, rfl, l1, g1⟩, _, _, rfl, ⟨A2, c2, rfl, l2, g2⟩, ⟨A3, c3, rfl, l3, g3⟩⟩ := h
  exact ⟨A1, c1, A2, c2, A3, c3, rfl, ⟨l1, l2, l3⟩, g1, g2, g3⟩
/-- A call of the table. -/
structure Ac where
  kind : Int
  client : Int
  num : Int
  r : Rp
  texts : List ByteArray
def z34 : Ac := ⟨0, 0, 0, ⟨0, 0, 0, [], [], []⟩, []⟩
def k34 : Kd Ac := Kd.iso (Kd.pair (Kd.int .i64) (Kd.pair (Kd.int .i64) (Kd.pair (Kd.int .i64) (Kd.pair k32 (Kd.slice 9 Kd.string))))) (fun x : Ac => (x.kind, x.client, x.num, x.r, x.texts))
theorem k34_open {w : World} {x : Ac} {cs : List Value} (h : k34.K w x cs) : ∃ A1 c1 A2 c2 A3 c3 A4 c4, cs = [.int .i64 x.kind, .int .i64 x.client, .int .i64 x.num, .int .i64 x.r.e, .int .i64 x.r.s, .int .i64 x.r.n, .slice A1 x.r.got.length c1, .slice A2 x.r.data.length c2, .slice A3 x.r.about.length c3, .slice A4 x.texts.length c4] ∧ (x.r.got.length ≤ c1 ∧ x.r.data.length ≤ c2 ∧ x.r.about.length ≤ c3) ∧ k56.C w A1 x.r.got.length x.r.got ∧ Kd.string.C w A2 x.r.data.length x.r.data ∧ k76.C w A3 x.r.about.length x.r.about := by
  obtain ⟨_, _, rfl, rfl, _, _, rfl, rfl, _, _, rfl, rfl, _, _, rfl, h32, ⟨A4, c4, rfl, l4, g4⟩⟩ := h
  obtain ⟨A1, c1, A2, c2, A3, c3, rfl, hl, g1, g2, g3⟩ := k32_open h32
  exact ⟨A1, c1, A2, c2, A3, c3, A4, c4, rfl, hl, g1, g2, g3⟩
def rd_T34 (xs : List Ac) (i : Int) : Ac := xs.getD i.toNat z34
end Go.Proofs.Ythelhieeplfffaa.P
