/- The plain law of ballots' numbers: Make, Next, Round, Node, Quorum in closed form, both the code's and the document's. No program in sight. -/
import Derived.Test.YtjofllllnmfneaaP1
import Derived.Test.YtjofllllnmfneaaP1
import Derived.Test.YtjofllllnmfneaaP2
import Derived.Test.YtjofllllnmfneaaP3
import Derived.Test.YtjofllllnmfneaaP7
import Derived.Test.YtjofllllnmfneaaP8
import Derived.Test.YtjofllllnmfneaaP11
import Derived.Test.YtjofllllnmfneaaP4
import Derived.Test.YtjofllllnmfneaaP5
import Derived.Test.YtjofllllnmfneaaP6
import Derived.Test.YtjofllllnmfneaaP9
import Derived.Test.YtjofllllnmfneaaP10
import Derived.Test.YtjofllllnmfneaaP12
import Derived.Test.YtjofllllnmfneaaP12
namespace Go.Proofs.Ytjofllllnmfneaa.P
open Go.RowKit Go.Proofs.YtjofllllnmfneaaW.PrintWords Go.Proofs.YtjofllllnmfneaaW.PrintLast

theorem w64 {x : Int} (h1 : -9223372036854775808 ≤ x) (h2 : x ≤ 9223372036854775807) : wrap64 x = x := by unfold wrap64; omega
theorem wfI {x : Int} (h : (Lit.int .i64 x).wf = true) : -9223372036854775808 ≤ x ∧ x ≤ 9223372036854775807 := by simp [Lit.wf] at h; simp [IntKind.min, IntKind.bits] at h; omega
theorem tdiv8 {b : Int} (h : 0 ≤ b) : Int.tdiv b 8 = b / 8 := Int.tdiv_eq_ediv_of_nonneg h
theorem tmod8 {b : Int} (h : 0 ≤ b) : Int.tmod b 8 = b % 8 := Int.tmod_eq_emod_of_nonneg h

def nodeB (n : Int) : Bool := decide (0 ≤ n ∧ n ≤ 4)
theorem node_f (n : Int) : ballot_node.f n = some (nodeB n) := by
  unfold ballot_node.f nodeB
  by_cases h1 : 0 ≤ n <;> by_cases h2 : n < 5 <;> simp [h1, h2] <;> omega
/-- A ballot, or 0 and the fault 2. -/
def mkB (r n : Int) : Int × Int := if 1 ≤ r ∧ r ≤ 68719476736 ∧ 0 ≤ n ∧ n ≤ 4 then (8 * r + n, 0) else (0, 2)
theorem make_f (r n : Int) : ballot_Make.f r n = some (mkB r n) := by
  unfold ballot_Make.f mkB
  by_cases h1 : r < 1
  · rw [if_pos h1, if_neg (by omega)]
  · rw [if_neg h1]
    by_cases h2 : r > 68719476736
    · rw [if_pos h2, if_neg (by omega)]
    · rw [if_neg h2, node_f]
      simp only [Option.bind_some, nodeB, decide_eq_true_eq]
      by_cases h3 : 0 ≤ n ∧ n ≤ 4
      · rw [if_pos h3, if_pos (by omega), w64 (x := r * 8) (by omega) (by omega), w64 (by omega) (by omega), Int.mul_comm]
      · rw [if_neg h3, if_neg (by omega)]
def nxB (b n : Int) : Int × Int := if b < 0 ∨ n < 0 ∨ 4 < n ∨ 549755813888 + n ≤ b then (0, 2) else (if b - b % 8 + n ≤ b then b - b % 8 + n + 8 else (if b - b % 8 + n < 8 then 8 + n else b - b % 8 + n), 0)
theorem next_f (b n : Int) (hb : b ≤ 9223372036854775807) : ballot_Next.f b n = some (nxB b n) := by
  unfold ballot_Next.f nxB
  by_cases h0 : b < 0
  · rw [if_pos h0, if_pos (Or.inl h0)]
  · rw [if_neg h0, node_f]
    simp only [Option.bind_some, nodeB, decide_eq_true_eq]
    by_cases h1 : 0 ≤ n ∧ n ≤ 4
    · rw [if_pos h1, tdiv8 (by omega), w64 (x := b / 8) (by omega) (by omega)]
      obtain ⟨m, hm, hm2⟩ : ∃ m, mx 1 (b / 8) = m ∧ ((b / 8 ≤ 1 ∧ m = 1) ∨ (1 ≤ b / 8 ∧ m = b / 8)) := ⟨_, rfl, by unfold mx; omega⟩
      rw [hm, w64 (x := m * 8) (by omega) (by omega), w64 (x := m * 8 + n) (by omega) (by omega), w64 (x := m + 1) (by omega) (by omega)]
      by_cases h2 : m * 8 + n ≤ b
      · rw [if_pos h2, make_f]
        simp only [Option.bind_some, mkB]
        by_cases h3 : 549755813888 + n ≤ b
        · rw [if_neg (by omega), if_pos (by omega)]
        · rw [if_pos (by omega), if_neg (by omega), if_pos (by omega)]
          congr 2
          omega
      · rw [if_neg h2, make_f]
        simp only [Option.bind_some, mkB]
        by_cases h3 : 549755813888 + n ≤ b
        · rw [if_neg (by omega), if_pos (by omega)]
        · rw [if_pos (by omega), if_neg (by omega)]
          congr 2
          split <;> (try split) <;> omega
    · rw [if_neg h1, if_pos (by omega)]
def isB (b : Int) : Bool := decide (8 ≤ b ∧ b ≤ 549755813892 ∧ b % 8 ≤ 4)
theorem is_f (b : Int) (hb : b ≤ 9223372036854775807) : ballot_is.f b = some (isB b) := by
  unfold ballot_is.f isB
  by_cases h0 : b ≥ 8
  · rw [if_pos h0, tdiv8 (by omega), w64 (x := b / 8) (by omega) (by omega), tmod8 (by omega)]
    by_cases h1 : b / 8 ≤ 68719476736
    · rw [if_pos h1, node_f]
      simp only [Option.bind_some, nodeB, Option.some.injEq, decide_eq_decide]
      omega
    · rw [if_neg h1]
      simp only [Option.some.injEq]
      exact (decide_eq_false (by omega)).symm
  · rw [if_neg h0]
    simp only [Option.some.injEq]
    exact (decide_eq_false (by omega)).symm
def roundB (b : Int) : Int := if isB b = true then b / 8 else 0
def nodeOf (b : Int) : Int := if isB b = true then b % 8 else -1
theorem isB_iff (b : Int) : isB b = true ↔ 8 ≤ b ∧ b ≤ 549755813892 ∧ b % 8 ≤ 4 := by unfold isB; exact decide_eq_true_iff
theorem round_f (b : Int) (hb : b ≤ 9223372036854775807) : ballot_Round.f b = some (roundB b) := by
  unfold ballot_Round.f roundB
  rw [is_f b hb]
  simp only [Option.bind_some]
  by_cases h : isB b = true
  · have h2 := (isB_iff b).1 h
    rw [if_pos h, if_pos h, tdiv8 (by omega), w64 (by omega) (by omega)]
  · rw [if_neg h, if_neg h]
theorem nodeOf_f (b : Int) (hb : b ≤ 9223372036854775807) : ballot_Node.f b = some (nodeOf b) := by
  unfold ballot_Node.f nodeOf
  rw [is_f b hb]
  simp only [Option.bind_some]
  by_cases h : isB b = true
  · have h2 := (isB_iff b).1 h
    rw [if_pos h, if_pos h, tmod8 (by omega)]
  · rw [if_neg h, if_neg h]
def quorumB (n : Int) : Int := if n < 1 then 0 else n / 2 + 1
theorem quorum_f (n : Int) (hn : n ≤ 9223372036854775807) : ballot_Quorum.f n = some (quorumB n) := by
  unfold ballot_Quorum.f quorumB
  by_cases h : n < 1
  · rw [if_pos h, if_pos h]
  · rw [if_neg h, if_neg h, Int.tdiv_eq_ediv_of_nonneg (by omega), w64 (x := n / 2) (by omega) (by omega), w64 (by omega) (by omega)]
theorem works_f : racewaylaw09_works.f = some true := by
  unfold racewaylaw09_works.f
  rw [make_f, next_f _ _ (by decide), quorum_f _ (by decide)]
  rfl
theorem rmake_f (r n : Int) : racewayref09_Make.f r n = some (mkB r n) := by
  unfold racewayref09_Make.f mkB
  by_cases h1 : r < 1
  · rw [if_pos h1, if_neg (by omega)]
  · rw [if_neg h1]
    by_cases h2 : r > 68719476736
    · rw [if_pos h2, if_neg (by omega)]
    · rw [if_neg h2]
      by_cases h3 : n < 0
      · rw [if_pos h3, if_neg (by omega)]
      · rw [if_neg h3]
        by_cases h4 : n > 4
        · rw [if_pos h4, if_neg (by omega)]
        · rw [if_neg h4, if_pos (by omega), w64 (x := 8 * r) (by omega) (by omega), w64 (by omega) (by omega)]
theorem rnext_f (b n : Int) (hb : b ≤ 9223372036854775807) : racewayref09_Next.f b n = some (nxB b n) := by
  unfold racewayref09_Next.f nxB
  by_cases h0 : b < 0
  · rw [if_pos h0, if_pos (by omega)]
  · rw [if_neg h0]
    by_cases h1 : n < 0
    · rw [if_pos h1, if_pos (by omega)]
    · rw [if_neg h1]
      by_cases h2 : n > 4
      · rw [if_pos h2, if_pos (by omega)]
      · rw [if_neg h2, w64 (x := 549755813888 + n) (by omega) (by omega), tmod8 (by omega)]
        by_cases h3 : b ≥ 549755813888 + n
        · rw [if_pos h3, if_pos (by omega)]
        · have h9 : ¬ (b < 0 ∨ n < 0 ∨ 4 < n ∨ 549755813888 + n ≤ b) := by omega
          rw [if_neg h3, if_neg h9, w64 (x := b - b % 8) (by omega) (by omega), w64 (x := b - b % 8 + n) (by omega) (by omega), w64 (x := 8 + n) (by omega) (by omega)]
          by_cases h4 : b - b % 8 + n ≤ b
          · have h10 : ¬ (b - b % 8 + n + 8 < 8) := by omega
            rw [if_pos h4, if_pos h4, w64 (x := b - b % 8 + n + 8) (by omega) (by omega), if_neg h10]
          · rw [if_neg h4, if_neg h4]
            by_cases h5 : b - b % 8 + n < 8
            · rw [if_pos h5, if_pos h5]
            · rw [if_neg h5, if_neg h5]
theorem ris_f (b : Int) : racewayref09_Is.f b = some (isB b) := by
  unfold racewayref09_Is.f isB
  by_cases h0 : b ≥ 8
  · rw [if_pos h0, tmod8 (by omega)]
    by_cases h1 : b ≤ 549755813892
    · rw [if_pos h1]
      simp only [Option.some.injEq, decide_eq_decide]
      omega
    · rw [if_neg h1]
      simp only [Option.some.injEq]
      exact (decide_eq_false (by omega)).symm
  · rw [if_neg h0]
    simp only [Option.some.injEq]
    exact (decide_eq_false (by omega)).symm
theorem rround_f (b : Int) : racewayref09_Round.f b = some (roundB b) := by
  unfold racewayref09_Round.f roundB
  rw [ris_f b]
  simp only [Option.bind_some]
  by_cases h : isB b = true
  · have h2 := (isB_iff b).1 h
    rw [if_pos h, if_pos h, tmod8 (by omega), w64 (x := b - b % 8) (by omega) (by omega), tdiv8 (by omega), w64 (by omega) (by omega)]
    congr 1
    omega
  · rw [if_neg h, if_neg h]
theorem rnode_f (b : Int) : racewayref09_Node.f b = some (nodeOf b) := by
  unfold racewayref09_Node.f nodeOf
  rw [ris_f b]
  simp only [Option.bind_some]
  by_cases h : isB b = true
  · have h2 := (isB_iff b).1 h
    rw [if_pos h, if_pos h, tmod8 (by omega)]
  · rw [if_neg h, if_neg h]
theorem rquorum_f (n : Int) (hn : n ≤ 9223372036854775807) : racewayref09_Quorum.f n = some (quorumB n) := by
  unfold racewayref09_Quorum.f quorumB
  by_cases h : n < 1
  · rw [if_pos h, if_pos h]
  · rw [if_neg h, if_neg h, Int.tmod_eq_emod_of_nonneg (by omega), w64 (x := n - n % 2) (by omega) (by omega), Int.tdiv_eq_ediv_of_nonneg (by omega), w64 (x := (n - n % 2) / 2) (by omega) (by omega), w64 (by omega) (by omega)]
    congr 1
    omega
end Go.Proofs.Ytjofllllnmfneaa.P
