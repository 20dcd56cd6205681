/-
 DERIVED: THE SHELF's CONTRACTS AT THIS DUMP, IN PLAIN WORDS (tools/lay-plain.mjs out of 'YtonedijkgddepaaGLayB.lean', which tools/lay-shelf.mjs wrote): THE SAME DECLARATIONS UNDER THE SAME NAMES: 'import', 'namespace', 'open', 'def', 'theorem' AND NOTHING ELSE: no command of the shelf's: FOR A HAND-IN. Each laying: the table of numbers ('.._ren') and one theorem, a field a fact of the dump's own or the kernel's comparison; each contract: ONE APPLICATION.
-/
import Derived.Shelf.SlGeneric
import Derived.Shelf.SortM.Plain
import Derived.Shelf.SlicesG.CompactI
import Derived.Ground.SlgmProg
import Derived.Ground.SlgnProg
import Derived.Test.YtonedijkgddepaaProg
namespace Go.Proofs
open Go.Shelf
def Try.sortA_ren : Go.Shelf.Ren := ⟨fun | 5 => 58 | 8 => 65 | 7 => 64 | 19 => 77 | 20 => 78 | 10 => 68 | 11 => 69 | 12 => 70 | 13 => 71 | 14 => 72 | 15 => 73 | 16 => 74 | 17 => 75 | 18 => 76 | 30 => 82 | 31 => 83 | 32 => 84 | 33 => 85 | 34 => 86 | 35 => 87 | 40 => 89 | n => n, fun | 23 => 63 | 25 => 3 | 3 => 3 | 32 => 132 | 22 => 63 | 0 => 0 | 44 => 134 | 46 => 146 | 4 => 4 | 36 => 137 | 35 => 136 | 41 => 142 | 5 => 5 | 9 => 9 | 53 => 150 | 57 => 154 | 63 => 157 | 64 => 158 | n => n, fun | n => n⟩
theorem Try.sortA : Go.Proofs.SlLaysM.n5 Try.prog Try.sortA_ren := {
 mixed := by kernel_rfl
 f5 := ⟨Try.f58.name, by decide, Try.func58.trans (congrArg some (by kernel_rfl))⟩
 f7 := ⟨Try.f64.name, by decide, Try.func64.trans (congrArg some (by kernel_rfl))⟩
 f8 := Try.func65.trans (congrArg some (by kernel_rfl))
 f10 := ⟨Try.f68.name, by decide, Try.func68.trans (congrArg some (by kernel_rfl))⟩
 f11 := ⟨Try.f69.name, by decide, Try.func69.trans (congrArg some (by kernel_rfl))⟩
 f12 := ⟨Try.f70.name, by decide, Try.func70.trans (congrArg some (by kernel_rfl))⟩
 f13 := ⟨Try.f71.name, by decide, Try.func71.trans (congrArg some (by kernel_rfl))⟩
 f14 := ⟨Try.f72.name, by decide, Try.func72.trans (congrArg some (by kernel_rfl))⟩
 f15 := ⟨Try.f73.name, by decide, Try.func73.trans (congrArg some (by kernel_rfl))⟩
 f16 := ⟨Try.f74.name, by decide, Try.func74.trans (congrArg some (by kernel_rfl))⟩
 f17 := ⟨Try.f75.name, by decide, Try.func75.trans (congrArg some (by kernel_rfl))⟩
 f18 := ⟨Try.f76.name, by decide, Try.func76.trans (congrArg some (by kernel_rfl))⟩
 f19 := Try.func77.trans (congrArg some (by kernel_rfl))
 f20 := Try.func78.trans (congrArg some (by kernel_rfl))
 f30 := ⟨Try.f82.name, by decide, Try.func82.trans (congrArg some (by kernel_rfl))⟩
 f31 := Try.func83.trans (congrArg some (by kernel_rfl))
 f32 := Try.func84.trans (congrArg some (by kernel_rfl))
 f33 := ⟨Try.f85.name, by decide, Try.func85.trans (congrArg some (by kernel_rfl))⟩
 f34 := ⟨Try.f86.name, by decide, Try.func86.trans (congrArg some (by kernel_rfl))⟩
 f35 := ⟨Try.f87.name, by decide, Try.func87.trans (congrArg some (by kernel_rfl))⟩
 f40 := ⟨Try.f89.name, by decide, Try.func89.trans (congrArg some (by kernel_rfl))⟩
 t0 := Try.underlying0
 a0 := Try.isAgg0
 z0 := Try.sizeOf0
 v0 := Try.zeroValue0
 t3 := Try.underlying3
 a3 := Try.isAgg3
 z3 := Try.sizeOf3
 v3 := Try.zeroValue3
 t4 := Try.underlying4
 a4 := Try.isAgg4
 z4 := Try.sizeOf4
 v4 := Try.zeroValue4
 t5 := Try.underlying5
 a5 := Try.isAgg5
 z5 := Try.sizeOf5
 v5 := Try.zeroValue5
 t9 := Try.underlying9
 a9 := Try.isAgg9
 z9 := Try.sizeOf9
 v9 := Try.zeroValue9
 t22 := Try.underlying63
 a22 := Try.isAgg63
 z22 := Try.sizeOf63
 v22 := Try.zeroValue63
 t23 := Try.underlying63
 a23 := Try.isAgg63
 z23 := Try.sizeOf63
 v23 := Try.zeroValue63
 t25 := Try.underlying3
 a25 := Try.isAgg3
 z25 := Try.sizeOf3
 v25 := Try.zeroValue3
 t32 := Try.underlying132
 a32 := Try.isAgg132
 z32 := Try.sizeOf132
 v32 := Try.zeroValue132
 t35 := Try.underlying136
 a35 := Try.isAgg136
 z35 := Try.sizeOf136
 v35 := Try.zeroValue136
 t36 := Try.underlying137
 a36 := Try.isAgg137
 z36 := Try.sizeOf137
 v36 := Try.zeroValue137
 t41 := Try.underlying142
 a41 := Try.isAgg142
 z41 := Try.sizeOf142
 v41 := Try.zeroValue142
 t44 := Try.underlying134
 a44 := Try.isAgg134
 z44 := Try.sizeOf134
 v44 := Try.zeroValue134
 t46 := Try.underlying146
 a46 := Try.isAgg146
 z46 := Try.sizeOf146
 v46 := Try.zeroValue146
 t53 := Try.underlying150
 a53 := Try.isAgg150
 z53 := Try.sizeOf150
 v53 := Try.zeroValue150
 t57 := Try.underlying154
 a57 := Try.isAgg154
 z57 := Try.sizeOf154
 v57 := Try.zeroValue154
 t63 := Try.underlying157
 a63 := Try.isAgg157
 z63 := Try.sizeOf157
 v63 := Try.zeroValue157
 t64 := Try.underlying158
 a64 := Try.isAgg158
 z64 := Try.sizeOf158
 v64 := Try.zeroValue158 }
def Try.compactA_ren : Go.Shelf.Ren := ⟨fun | 43 => 59 | n => n, fun | 22 => 63 | 23 => 3 | 3 => 3 | 4 => 4 | 0 => 0 | n => n, fun | n => n⟩
theorem Try.compactA : Go.Proofs.SlLaysN.n43 Try.prog Try.compactA_ren := {
 mixed := by kernel_rfl
 f43 := ⟨Try.f59.name, by decide, Try.func59.trans (congrArg some (by kernel_rfl))⟩
 t0 := Try.underlying0
 a0 := Try.isAgg0
 z0 := Try.sizeOf0
 v0 := Try.zeroValue0
 t3 := Try.underlying3
 a3 := Try.isAgg3
 z3 := Try.sizeOf3
 v3 := Try.zeroValue3
 t4 := Try.underlying4
 a4 := Try.isAgg4
 z4 := Try.sizeOf4
 v4 := Try.zeroValue4
 t22 := Try.underlying63
 a22 := Try.isAgg63
 z22 := Try.sizeOf63
 v22 := Try.zeroValue63
 t23 := Try.underlying3
 a23 := Try.isAgg3
 z23 := Try.sizeOf3
 v23 := Try.zeroValue3
 i23 := by kernel_rfl }
end Go.Proofs
