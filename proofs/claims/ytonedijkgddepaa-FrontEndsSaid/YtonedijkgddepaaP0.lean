-- Cut down by the session's own program (wip/tools/prune.py) to what this claim uses; before that: written or printed by the session's programs.
import Derived.Test.YtonedijkgddepaaProg
import Derived.Below
import Derived.Deep.Draws
import Derived.Deep.AppendLies
import Derived.Maps.AppendAt
import Derived.OwnWalk
import Derived.Laws.BytesArg
import Derived.Laws.MakeOwn
import Derived.Laws.OwnMore
import Derived.Deep.OwnRows
import Derived.Tactics
import Derived.Lib.ConvBytes
import Derived.Laws.Slices
import Derived.WalkKit
import Derived.KernelRfl
import Derived.RowKit3
import Derived.Deep.LoopGhost
import Derived.Deep.QuietTactic
import Derived.BigQuiet
import Derived.WideLaws
import Derived.Deep.DeepCutAuto
import Derived.Deep.CutBlock
import Derived.Deep.RegionHeld3
import Derived.Laws.Rows
import Derived.Lib.AppendStr
import Derived.ArgAppend
import Derived.Laws.IdiomCopy
import Derived.OrdersHeld
import Derived.Laws.BitsLemmas
import Derived.RowKit
import Derived.Test.YtonedijkgddepaaWWords
import Derived.Test.YtonedijkgddepaaWLast
import Derived.Test.YtonedijkgddepaaWTab
import Derived.Test.YtonedijkgddepaaWApart
import Derived.Test.YtonedijkgddepaaWFoot
import Derived.Test.YtonedijkgddepaaWKept
import Derived.Test.YtonedijkgddepaaWShare
import Derived.Test.YtonedijkgddepaaWN
import Derived.Test.YtonedijkgddepaaWAt
import Derived.Test.YtonedijkgddepaaWEqStruct
import Derived.Test.YtonedijkgddepaaWRepsOne
import Derived.Test.YtonedijkgddepaaWMore
namespace Go.Proofs.Ytonedijkgddepaa.P
open Go.RowKit Go.Proofs.YtonedijkgddepaaW.PrintWords Go.Proofs.YtonedijkgddepaaW.PrintLast Go.Proofs.YtonedijkgddepaaW.PrintMore
attribute [local go_sem] max2_int min2_int max_two min_two max_three min_three max_four min_four   -- for this text's walks alone
set_option linter.unusedVariables false
set_option linter.unusedSimpArgs false
def errW : Option Int → Value
 | none => .nilIface
 | some c => .iface 0 (.int .i64 c)
theorem errW_none : errW none = .nilIface := rfl
theorem errW_some (c : Int) : errW (some c) = .iface 0 (.int .i64 c) := rfl
theorem info35 : (Try.prog.info? 35).map (fun i => (i.zero, i.size, i.bytes)) = some (some (.agg #[(.int .i64 0), (.int .i64 0)]), 2, 16) := by kernel_rfl
theorem info106 : (Try.prog.info? 106).map (fun i => (i.zero, i.size, i.bytes)) = some (some (.agg #[(.string ⟨#[]⟩), (.string ⟨#[]⟩), (.string ⟨#[]⟩), (.int .i64 0), (.string ⟨#[]⟩), (.int .i64 0), (.int .i64 0)]), 7, 88) := by kernel_rfl
theorem info108 : (Try.prog.info? 108).map (fun i => (i.zero, i.size, i.bytes)) = some (some (.agg #[(.int .i64 0), (.int .i64 0), (.int .i64 0)]), 3, 24) := by kernel_rfl
theorem info115 : (Try.prog.info? 115).map (fun i => (i.zero, i.size, i.bytes)) = some (some (.agg #[(.int .i64 0), (.string ⟨#[]⟩), (.int .i64 0), (.int .i64 0), (.string ⟨#[]⟩), (.int .i64 0)]), 6, 64) := by kernel_rfl
structure S35 where
 f0 : Int
 f1 : Int
def z35 : S35 := ⟨(0 : Int), (0 : Int)⟩
def k35 : Kd S35 := Kd.iso (Kd.pair (Kd.int .i64) (Kd.int .i64)) (fun x : S35 => (x.f0, x.f1))
theorem k35_open {w : World} {x : S35} {cs : List Value} (h : k35.K w x cs) : cs = [.int .i64 x.f0, .int .i64 x.f1] := by
 obtain ⟨_, _, rfl, rfl, rfl⟩ := h
 exact rfl
theorem k35_openM {w : World} {base : Nat} {ok : Nat → Prop} {x : S35} {cs : List Value} (h : k35.M w base ok x cs) : cs = [.int .i64 x.f0, .int .i64 x.f1] := by
 obtain ⟨_, _, rfl, rfl, rfl⟩ := h
 exact rfl
theorem k35_mkM (w : World) (base : Nat) (ok : Nat → Prop) (x : S35)  : k35.M w base ok x [.int .i64 x.f0, .int .i64 x.f1] := ⟨[.int .i64 x.f0], [.int .i64 x.f1], rfl, rfl, rfl⟩
def rd_T35 (xs : List S35) (i : Int) : S35 := xs.getD i.toNat z35
theorem at_T35 {w : World} {A : Option Addr} {n : Nat} {xs : List S35} (h : Kd.C k35 w A n xs) (i : Int) (h0 : 0 ≤ i) (h1 : i < n) : ∃ ad , A = some ad ∧ w.cell? (ad.add (i.toNat * 2)) = some (.int .i64 (rd_T35 xs i).f0) ∧ w.cell? ⟨(ad.add (i.toNat * 2)).block, (ad.add (i.toNat * 2)).off + 1, none⟩ = some (.int .i64 (rd_T35 xs i).f1) := by
 obtain ⟨ad, c, e, _, hK, hc0⟩ := Kd.C_get h z35 i h0 h1
 have hc : ∀ j u, c[j]? = some u → w.cell? (ad.add (i.toNat * 2 + j)) = some u := hc0
 obtain rfl := k35_open hK
 exact ⟨ad, e, hc 0 _ rfl, by rw [← add_field _ _ 1 (by omega)]; exact hc 1 _ rfl⟩
structure S108 where
 f0 : S35
 f1 : Int
def z108 : S108 := ⟨z35, (0 : Int)⟩
def k108 : Kd S108 := Kd.iso (Kd.pair k35 (Kd.int .i64)) (fun x : S108 => (x.f0, x.f1))
theorem k108_open {w : World} {x : S108} {cs : List Value} (h : k108.K w x cs) : cs = [.int .i64 x.f0.f0, .int .i64 x.f0.f1, .int .i64 x.f1] := by
 obtain ⟨_, _, rfl, s0, rfl⟩ := h
 obtain rfl := k35_open s0
 exact rfl
theorem k108_mkM (w : World) (base : Nat) (ok : Nat → Prop) (x : S108)  : k108.M w base ok x [.int .i64 x.f0.f0, .int .i64 x.f0.f1, .int .i64 x.f1] := ⟨[.int .i64 x.f0.f0, .int .i64 x.f0.f1], [.int .i64 x.f1], rfl, (k35_mkM w base ok x.f0 ), rfl⟩
def rd_T108 (xs : List S108) (i : Int) : S108 := xs.getD i.toNat z108
theorem at_T108 {w : World} {A : Option Addr} {n : Nat} {xs : List S108} (h : Kd.C k108 w A n xs) (i : Int) (h0 : 0 ≤ i) (h1 : i < n) : ∃ ad , A = some ad ∧ w.cell? (ad.add (i.toNat * 3)) = some (.int .i64 (rd_T108 xs i).f0.f0) ∧ w.cell? ⟨(ad.add (i.toNat * 3)).block, (ad.add (i.toNat * 3)).off + 1, none⟩ = some (.int .i64 (rd_T108 xs i).f0.f1) ∧ w.cell? ⟨(ad.add (i.toNat * 3)).block, (ad.add (i.toNat * 3)).off + 2, none⟩ = some (.int .i64 (rd_T108 xs i).f1) := by
 obtain ⟨ad, c, e, _, hK, hc0⟩ := Kd.C_get h z108 i h0 h1
 have hc : ∀ j u, c[j]? = some u → w.cell? (ad.add (i.toNat * 3 + j)) = some u := hc0
 obtain rfl := k108_open hK
 exact ⟨ad, e, hc 0 _ rfl, by rw [← add_field _ _ 1 (by omega)]; exact hc 1 _ rfl, by rw [← add_field _ _ 2 (by omega)]; exact hc 2 _ rfl⟩
structure S129 where
 f0 : Int
 f1 : Int
 f2 : (List Int)
def z129 : S129 := ⟨(0 : Int), (0 : Int), ([] : List Int)⟩
def k129 : Kd S129 := Kd.iso (Kd.pair (Kd.int .i64) (Kd.pair (Kd.int .i64) (Kd.slice 5 (Kd.int .u8)))) (fun x : S129 => (x.f0, x.f1, x.f2))
def rd_T129 (xs : List S129) (i : Int) : S129 := xs.getD i.toNat z129
structure S33 where
 f0 : Int
 f1 : ByteArray
 f2 : Int
 f3 : Int
def z33 : S33 := ⟨(0 : Int), (⟨#[]⟩ : ByteArray), (0 : Int), (0 : Int)⟩
def k33 : Kd S33 := Kd.iso (Kd.pair (Kd.int .i64) (Kd.pair Kd.string (Kd.pair (Kd.int .i64) (Kd.int .i64)))) (fun x : S33 => (x.f0, x.f1, x.f2, x.f3))
theorem k33_open {w : World} {x : S33} {cs : List Value} (h : k33.K w x cs) : cs = [.int .i64 x.f0, .string x.f1, .int .i64 x.f2, .int .i64 x.f3] := by
 obtain ⟨_, _, rfl, rfl, ⟨_, _, rfl, rfl, ⟨_, _, rfl, rfl, rfl⟩⟩⟩ := h
 exact rfl
theorem k33_mkM (w : World) (base : Nat) (ok : Nat → Prop) (x : S33)  : k33.M w base ok x [.int .i64 x.f0, .string x.f1, .int .i64 x.f2, .int .i64 x.f3] := ⟨[.int .i64 x.f0], [.string x.f1, .int .i64 x.f2, .int .i64 x.f3], rfl, rfl, ⟨[.string x.f1], [.int .i64 x.f2, .int .i64 x.f3], rfl, rfl, ⟨[.int .i64 x.f2], [.int .i64 x.f3], rfl, rfl, rfl⟩⟩⟩
structure S115 where
 f0 : S33
 f1 : ByteArray
 f2 : Int
def z115 : S115 := ⟨z33, (⟨#[]⟩ : ByteArray), (0 : Int)⟩
def k115 : Kd S115 := Kd.iso (Kd.pair k33 (Kd.pair Kd.string (Kd.int .i64))) (fun x : S115 => (x.f0, x.f1, x.f2))
def rd_T115 (xs : List S115) (i : Int) : S115 := xs.getD i.toNat z115
structure S106 where
 f0 : ByteArray
 f1 : ByteArray
 f2 : ByteArray
 f3 : S33
def z106 : S106 := ⟨(⟨#[]⟩ : ByteArray), (⟨#[]⟩ : ByteArray), (⟨#[]⟩ : ByteArray), z33⟩
def k106 : Kd S106 := Kd.iso (Kd.pair Kd.string (Kd.pair Kd.string (Kd.pair Kd.string k33))) (fun x : S106 => (x.f0, x.f1, x.f2, x.f3))
theorem k106_open {w : World} {x : S106} {cs : List Value} (h : k106.K w x cs) : cs = [.string x.f0, .string x.f1, .string x.f2, .int .i64 x.f3.f0, .string x.f3.f1, .int .i64 x.f3.f2, .int .i64 x.f3.f3] := by
 obtain ⟨_, _, rfl, rfl, ⟨_, _, rfl, rfl, ⟨_, _, rfl, rfl, s3⟩⟩⟩ := h
 obtain rfl := k33_open s3
 exact rfl
theorem k106_mkM (w : World) (base : Nat) (ok : Nat → Prop) (x : S106)  : k106.M w base ok x [.string x.f0, .string x.f1, .string x.f2, .int .i64 x.f3.f0, .string x.f3.f1, .int .i64 x.f3.f2, .int .i64 x.f3.f3] := ⟨[.string x.f0], [.string x.f1, .string x.f2, .int .i64 x.f3.f0, .string x.f3.f1, .int .i64 x.f3.f2, .int .i64 x.f3.f3], rfl, rfl, ⟨[.string x.f1], [.string x.f2, .int .i64 x.f3.f0, .string x.f3.f1, .int .i64 x.f3.f2, .int .i64 x.f3.f3], rfl, rfl, ⟨[.string x.f2], [.int .i64 x.f3.f0, .string x.f3.f1, .int .i64 x.f3.f2, .int .i64 x.f3.f3], rfl, rfl, (k33_mkM w base ok x.f3 )⟩⟩⟩
def rd_T106 (xs : List S106) (i : Int) : S106 := xs.getD i.toNat z106
theorem at_T106 {w : World} {A : Option Addr} {n : Nat} {xs : List S106} (h : Kd.C k106 w A n xs) (i : Int) (h0 : 0 ≤ i) (h1 : i < n) : ∃ ad , A = some ad ∧ w.cell? (ad.add (i.toNat * 7)) = some (.string (rd_T106 xs i).f0) ∧ w.cell? ⟨(ad.add (i.toNat * 7)).block, (ad.add (i.toNat * 7)).off + 1, none⟩ = some (.string (rd_T106 xs i).f1) ∧ w.cell? ⟨(ad.add (i.toNat * 7)).block, (ad.add (i.toNat * 7)).off + 2, none⟩ = some (.string (rd_T106 xs i).f2) ∧ w.cell? ⟨(ad.add (i.toNat * 7)).block, (ad.add (i.toNat * 7)).off + 3, none⟩ = some (.int .i64 (rd_T106 xs i).f3.f0) ∧ w.cell? ⟨(ad.add (i.toNat * 7)).block, (ad.add (i.toNat * 7)).off + 4, none⟩ = some (.string (rd_T106 xs i).f3.f1) ∧ w.cell? ⟨(ad.add (i.toNat * 7)).block, (ad.add (i.toNat * 7)).off + 5, none⟩ = some (.int .i64 (rd_T106 xs i).f3.f2) ∧ w.cell? ⟨(ad.add (i.toNat * 7)).block, (ad.add (i.toNat * 7)).off + 6, none⟩ = some (.int .i64 (rd_T106 xs i).f3.f3) := by
 obtain ⟨ad, c, e, _, hK, hc0⟩ := Kd.C_get h z106 i h0 h1
 have hc : ∀ j u, c[j]? = some u → w.cell? (ad.add (i.toNat * 7 + j)) = some u := hc0
 obtain rfl := k106_open hK
 exact ⟨ad, e, hc 0 _ rfl, by rw [← add_field _ _ 1 (by omega)]; exact hc 1 _ rfl, by rw [← add_field _ _ 2 (by omega)]; exact hc 2 _ rfl, by rw [← add_field _ _ 3 (by omega)]; exact hc 3 _ rfl, by rw [← add_field _ _ 4 (by omega)]; exact hc 4 _ rfl, by rw [← add_field _ _ 5 (by omega)]; exact hc 5 _ rfl, by rw [← add_field _ _ 6 (by omega)]; exact hc 6 _ rfl⟩
structure S31 where
 f0 : Int
 f1 : Int
 f2 : Int
 f3 : Int
 f4 : Int
 f5 : Int
 f6 : (List Int)
 f7 : (List S129)
def z31 : S31 := ⟨(0 : Int), (0 : Int), (0 : Int), (0 : Int), (0 : Int), (0 : Int), ([] : List Int), ([] : List S129)⟩
def k31 : Kd S31 := Kd.iso (Kd.pair (Kd.int .i64) (Kd.pair (Kd.int .i64) (Kd.pair (Kd.int .i64) (Kd.pair (Kd.int .i64) (Kd.pair (Kd.int .i64) (Kd.pair (Kd.int .i64) (Kd.pair (Kd.slice 5 (Kd.int .u8)) (Kd.slice 129 k129)))))))) (fun x : S31 => (x.f0, x.f1, x.f2, x.f3, x.f4, x.f5, x.f6, x.f7))
theorem k31_open {w : World} {x : S31} {cs : List Value} (h : k31.K w x cs) : ∃ A6 c6 A7 c7, cs = [.int .i64 x.f0, .int .i64 x.f1, .int .i64 x.f2, .int .i64 x.f3, .int .i64 x.f4, .int .i64 x.f5, .slice A6 x.f6.length c6, .slice A7 x.f7.length c7] ∧ x.f6.length ≤ c6 ∧ (Kd.int .u8).C w A6 x.f6.length x.f6 ∧ x.f7.length ≤ c7 ∧ k129.C w A7 x.f7.length x.f7 := by
 obtain ⟨_, _, rfl, rfl, ⟨_, _, rfl, rfl, ⟨_, _, rfl, rfl, ⟨_, _, rfl, rfl, ⟨_, _, rfl, rfl, ⟨_, _, rfl, rfl, ⟨_, _, rfl, ⟨A6, c6, rfl, l6, g6⟩, ⟨A7, c7, rfl, l7, g7⟩⟩⟩⟩⟩⟩⟩⟩ := h
 exact ⟨A6, c6, A7, c7, rfl, l6, g6, l7, g7⟩
theorem k31_mkM (w : World) (base : Nat) (ok : Nat → Prop) (x : S31) {v6 : Value} (g6 : (Kd.int .u8).R 5 w base ok v6 x.f6) {v7 : Value} (g7 : k129.R 129 w base ok v7 x.f7) : k31.M w base ok x [.int .i64 x.f0, .int .i64 x.f1, .int .i64 x.f2, .int .i64 x.f3, .int .i64 x.f4, .int .i64 x.f5, v6, v7] := ⟨[.int .i64 x.f0], [.int .i64 x.f1, .int .i64 x.f2, .int .i64 x.f3, .int .i64 x.f4, .int .i64 x.f5, v6, v7], rfl, rfl, ⟨[.int .i64 x.f1], [.int .i64 x.f2, .int .i64 x.f3, .int .i64 x.f4, .int .i64 x.f5, v6, v7], rfl, rfl, ⟨[.int .i64 x.f2], [.int .i64 x.f3, .int .i64 x.f4, .int .i64 x.f5, v6, v7], rfl, rfl, ⟨[.int .i64 x.f3], [.int .i64 x.f4, .int .i64 x.f5, v6, v7], rfl, rfl, ⟨[.int .i64 x.f4], [.int .i64 x.f5, v6, v7], rfl, rfl, ⟨[.int .i64 x.f5], [v6, v7], rfl, rfl, ⟨[v6], [v7], rfl, ⟨v6, rfl, g6⟩, ⟨v7, rfl, g7⟩⟩⟩⟩⟩⟩⟩⟩
structure S38 where
 f0 : Int
 f1 : Int
 f2 : Int
 f3 : Int
 f4 : Int
 f5 : ByteArray
 f6 : ByteArray
 f7 : ByteArray
 f8 : ByteArray
 f9 : Int
 f10 : Int
 f11 : S33
 f12 : S35
 f13 : Int
 f14 : (List ByteArray)
def z38 : S38 := ⟨(0 : Int), (0 : Int), (0 : Int), (0 : Int), (0 : Int), (⟨#[]⟩ : ByteArray), (⟨#[]⟩ : ByteArray), (⟨#[]⟩ : ByteArray), (⟨#[]⟩ : ByteArray), (0 : Int), (0 : Int), z33, z35, (0 : Int), ([] : List ByteArray)⟩
def k38 : Kd S38 := Kd.iso (Kd.pair (Kd.int .i64) (Kd.pair (Kd.int .i64) (Kd.pair (Kd.int .i64) (Kd.pair (Kd.int .i64) (Kd.pair (Kd.int .i64) (Kd.pair Kd.string (Kd.pair Kd.string (Kd.pair Kd.string (Kd.pair Kd.string (Kd.pair (Kd.int .i64) (Kd.pair (Kd.int .i64) (Kd.pair k33 (Kd.pair k35 (Kd.pair (Kd.int .i64) (Kd.slice 9 Kd.string))))))))))))))) (fun x : S38 => (x.f0, x.f1, x.f2, x.f3, x.f4, x.f5, x.f6, x.f7, x.f8, x.f9, x.f10, x.f11, x.f12, x.f13, x.f14))
theorem k38_open {w : World} {x : S38} {cs : List Value} (h : k38.K w x cs) : ∃ A18 c18, cs = [.int .i64 x.f0, .int .i64 x.f1, .int .i64 x.f2, .int .i64 x.f3, .int .i64 x.f4, .string x.f5, .string x.f6, .string x.f7, .string x.f8, .int .i64 x.f9, .int .i64 x.f10, .int .i64 x.f11.f0, .string x.f11.f1, .int .i64 x.f11.f2, .int .i64 x.f11.f3, .int .i64 x.f12.f0, .int .i64 x.f12.f1, .int .i64 x.f13, .slice A18 x.f14.length c18] ∧ x.f14.length ≤ c18 ∧ Kd.string.C w A18 x.f14.length x.f14 := by
 obtain ⟨_, _, rfl, rfl, ⟨_, _, rfl, rfl, ⟨_, _, rfl, rfl, ⟨_, _, rfl, rfl, ⟨_, _, rfl, rfl, ⟨_, _, rfl, rfl, ⟨_, _, rfl, rfl, ⟨_, _, rfl, rfl, ⟨_, _, rfl, rfl, ⟨_, _, rfl, rfl, ⟨_, _, rfl, rfl, ⟨_, _, rfl, s11, ⟨_, _, rfl, s15, ⟨_, _, rfl, rfl, ⟨A18, c18, rfl, l18, g18⟩⟩⟩⟩⟩⟩⟩⟩⟩⟩⟩⟩⟩⟩⟩ := h
 obtain rfl := k33_open s11
 obtain rfl := k35_open s15
 exact ⟨A18, c18, rfl, l18, g18⟩
theorem k38_mkM (w : World) (base : Nat) (ok : Nat → Prop) (x : S38) {v18 : Value} (g18 : Kd.string.R 9 w base ok v18 x.f14) : k38.M w base ok x [.int .i64 x.f0, .int .i64 x.f1, .int .i64 x.f2, .int .i64 x.f3, .int .i64 x.f4, .string x.f5, .string x.f6, .string x.f7, .string x.f8, .int .i64 x.f9, .int .i64 x.f10, .int .i64 x.f11.f0, .string x.f11.f1, .int .i64 x.f11.f2, .int .i64 x.f11.f3, .int .i64 x.f12.f0, .int .i64 x.f12.f1, .int .i64 x.f13, v18] := ⟨[.int .i64 x.f0], [.int .i64 x.f1, .int .i64 x.f2, .int .i64 x.f3, .int .i64 x.f4, .string x.f5, .string x.f6, .string x.f7, .string x.f8, .int .i64 x.f9, .int .i64 x.f10, .int .i64 x.f11.f0, .string x.f11.f1, .int .i64 x.f11.f2, .int .i64 x.f11.f3, .int .i64 x.f12.f0, .int .i64 x.f12.f1, .int .i64 x.f13, v18], rfl, rfl, ⟨[.int .i64 x.f1], [.int .i64 x.f2, .int .i64 x.f3, .int .i64 x.f4, .string x.f5, .string x.f6, .string x.f7, .string x.f8, .int .i64 x.f9, .int .i64 x.f10, .int .i64 x.f11.f0, .string x.f11.f1, .int .i64 x.f11.f2, .int .i64 x.f11.f3, .int .i64 x.f12.f0, .int .i64 x.f12.f1, .int .i64 x.f13, v18], rfl, rfl, ⟨[.int .i64 x.f2], [.int .i64 x.f3, .int .i64 x.f4, .string x.f5, .string x.f6, .string x.f7, .string x.f8, .int .i64 x.f9, .int .i64 x.f10, .int .i64 x.f11.f0, .string x.f11.f1, .int .i64 x.f11.f2, .int .i64 x.f11.f3, .int .i64 x.f12.f0, .int .i64 x.f12.f1, .int .i64 x.f13, v18], rfl, rfl, ⟨[.int .i64 x.f3], [.int .i64 x.f4, .string x.f5, .string x.f6, .string x.f7, .string x.f8, .int .i64 x.f9, .int .i64 x.f10, .int .i64 x.f11.f0, .string x.f11.f1, .int .i64 x.f11.f2, .int .i64 x.f11.f3, .int .i64 x.f12.f0, .int .i64 x.f12.f1, .int .i64 x.f13, v18], rfl, rfl, ⟨[.int .i64 x.f4], [.string x.f5, .string x.f6, .string x.f7, .string x.f8, .int .i64 x.f9, .int .i64 x.f10, .int .i64 x.f11.f0, .string x.f11.f1, .int .i64 x.f11.f2, .int .i64 x.f11.f3, .int .i64 x.f12.f0, .int .i64 x.f12.f1, .int .i64 x.f13, v18], rfl, rfl, ⟨[.string x.f5], [.string x.f6, .string x.f7, .string x.f8, .int .i64 x.f9, .int .i64 x.f10, .int .i64 x.f11.f0, .string x.f11.f1, .int .i64 x.f11.f2, .int .i64 x.f11.f3, .int .i64 x.f12.f0, .int .i64 x.f12.f1, .int .i64 x.f13, v18], rfl, rfl, ⟨[.string x.f6], [.string x.f7, .string x.f8, .int .i64 x.f9, .int .i64 x.f10, .int .i64 x.f11.f0, .string x.f11.f1, .int .i64 x.f11.f2, .int .i64 x.f11.f3, .int .i64 x.f12.f0, .int .i64 x.f12.f1, .int .i64 x.f13, v18], rfl, rfl, ⟨[.string x.f7], [.string x.f8, .int .i64 x.f9, .int .i64 x.f10, .int .i64 x.f11.f0, .string x.f11.f1, .int .i64 x.f11.f2, .int .i64 x.f11.f3, .int .i64 x.f12.f0, .int .i64 x.f12.f1, .int .i64 x.f13, v18], rfl, rfl, ⟨[.string x.f8], [.int .i64 x.f9, .int .i64 x.f10, .int .i64 x.f11.f0, .string x.f11.f1, .int .i64 x.f11.f2, .int .i64 x.f11.f3, .int .i64 x.f12.f0, .int .i64 x.f12.f1, .int .i64 x.f13, v18], rfl, rfl, ⟨[.int .i64 x.f9], [.int .i64 x.f10, .int .i64 x.f11.f0, .string x.f11.f1, .int .i64 x.f11.f2, .int .i64 x.f11.f3, .int .i64 x.f12.f0, .int .i64 x.f12.f1, .int .i64 x.f13, v18], rfl, rfl, ⟨[.int .i64 x.f10], [.int .i64 x.f11.f0, .string x.f11.f1, .int .i64 x.f11.f2, .int .i64 x.f11.f3, .int .i64 x.f12.f0, .int .i64 x.f12.f1, .int .i64 x.f13, v18], rfl, rfl, ⟨[.int .i64 x.f11.f0, .string x.f11.f1, .int .i64 x.f11.f2, .int .i64 x.f11.f3], [.int .i64 x.f12.f0, .int .i64 x.f12.f1, .int .i64 x.f13, v18], rfl, (k33_mkM w base ok x.f11 ), ⟨[.int .i64 x.f12.f0, .int .i64 x.f12.f1], [.int .i64 x.f13, v18], rfl, (k35_mkM w base ok x.f12 ), ⟨[.int .i64 x.f13], [v18], rfl, rfl, ⟨v18, rfl, g18⟩⟩⟩⟩⟩⟩⟩⟩⟩⟩⟩⟩⟩⟩⟩
structure S42 where
 f0 : Int
 f1 : Int
 f2 : Int
 f3 : (List S115)
 f4 : (List ByteArray)
 f5 : (List S35)
def z42 : S42 := ⟨(0 : Int), (0 : Int), (0 : Int), ([] : List S115), ([] : List ByteArray), ([] : List S35)⟩
def k42 : Kd S42 := Kd.iso (Kd.pair (Kd.int .i64) (Kd.pair (Kd.int .i64) (Kd.pair (Kd.int .i64) (Kd.pair (Kd.slice 115 k115) (Kd.pair (Kd.slice 9 Kd.string) (Kd.slice 35 k35)))))) (fun x : S42 => (x.f0, x.f1, x.f2, x.f3, x.f4, x.f5))
theorem k42_open {w : World} {x : S42} {cs : List Value} (h : k42.K w x cs) : ∃ A3 c3 A4 c4 A5 c5, cs = [.int .i64 x.f0, .int .i64 x.f1, .int .i64 x.f2, .slice A3 x.f3.length c3, .slice A4 x.f4.length c4, .slice A5 x.f5.length c5] ∧ x.f3.length ≤ c3 ∧ k115.C w A3 x.f3.length x.f3 ∧ x.f4.length ≤ c4 ∧ Kd.string.C w A4 x.f4.length x.f4 ∧ x.f5.length ≤ c5 ∧ k35.C w A5 x.f5.length x.f5 := by
 obtain ⟨_, _, rfl, rfl, ⟨_, _, rfl, rfl, ⟨_, _, rfl, rfl, ⟨_, _, rfl, ⟨A3, c3, rfl, l3, g3⟩, ⟨_, _, rfl, ⟨A4, c4, rfl, l4, g4⟩, ⟨A5, c5, rfl, l5, g5⟩⟩⟩⟩⟩⟩ := h
 exact ⟨A3, c3, A4, c4, A5, c5, rfl, l3, g3, l4, g4, l5, g5⟩
theorem k42_mkM (w : World) (base : Nat) (ok : Nat → Prop) (x : S42) {v3 : Value} (g3 : k115.R 115 w base ok v3 x.f3) {v4 : Value} (g4 : Kd.string.R 9 w base ok v4 x.f4) {v5 : Value} (g5 : k35.R 35 w base ok v5 x.f5) : k42.M w base ok x [.int .i64 x.f0, .int .i64 x.f1, .int .i64 x.f2, v3, v4, v5] := ⟨[.int .i64 x.f0], [.int .i64 x.f1, .int .i64 x.f2, v3, v4, v5], rfl, rfl, ⟨[.int .i64 x.f1], [.int .i64 x.f2, v3, v4, v5], rfl, rfl, ⟨[.int .i64 x.f2], [v3, v4, v5], rfl, rfl, ⟨[v3], [v4, v5], rfl, ⟨v3, rfl, g3⟩, ⟨[v4], [v5], rfl, ⟨v4, rfl, g4⟩, ⟨v5, rfl, g5⟩⟩⟩⟩⟩⟩
structure S45 where
 f0 : Int
 f1 : (List S108)
def z45 : S45 := ⟨(0 : Int), ([] : List S108)⟩
def k45 : Kd S45 := Kd.iso (Kd.pair (Kd.int .i64) (Kd.slice 108 k108)) (fun x : S45 => (x.f0, x.f1))
theorem k45_open {w : World} {x : S45} {cs : List Value} (h : k45.K w x cs) : ∃ A1 c1, cs = [.int .i64 x.f0, .slice A1 x.f1.length c1] ∧ x.f1.length ≤ c1 ∧ k108.C w A1 x.f1.length x.f1 := by
 obtain ⟨_, _, rfl, rfl, ⟨A1, c1, rfl, l1, g1⟩⟩ := h
 exact ⟨A1, c1, rfl, l1, g1⟩
theorem k45_mkM (w : World) (base : Nat) (ok : Nat → Prop) (x : S45) {v1 : Value} (g1 : k108.R 108 w base ok v1 x.f1) : k45.M w base ok x [.int .i64 x.f0, v1] := ⟨[.int .i64 x.f0], [v1], rfl, rfl, ⟨v1, rfl, g1⟩⟩
structure S47 where
 f0 : Int
 f1 : Int
 f2 : Int
 f3 : Int
 f4 : S31
 f5 : S38
 f6 : S42
 f7 : S45
 f8 : (List ByteArray)
def z47 : S47 := ⟨(0 : Int), (0 : Int), (0 : Int), (0 : Int), z31, z38, z42, z45, ([] : List ByteArray)⟩
def k47 : Kd S47 := Kd.iso (Kd.pair (Kd.int .i64) (Kd.pair (Kd.int .i64) (Kd.pair (Kd.int .i64) (Kd.pair (Kd.int .i64) (Kd.pair k31 (Kd.pair k38 (Kd.pair k42 (Kd.pair k45 (Kd.slice 9 Kd.string))))))))) (fun x : S47 => (x.f0, x.f1, x.f2, x.f3, x.f4, x.f5, x.f6, x.f7, x.f8))
theorem k47_open {w : World} {x : S47} {cs : List Value} (h : k47.K w x cs) : ∃ A10 c10 A11 c11 A30 c30 A34 c34 A35 c35 A36 c36 A38 c38 A39 c39, cs = [.int .i64 x.f0, .int .i64 x.f1, .int .i64 x.f2, .int .i64 x.f3, .int .i64 x.f4.f0, .int .i64 x.f4.f1, .int .i64 x.f4.f2, .int .i64 x.f4.f3, .int .i64 x.f4.f4, .int .i64 x.f4.f5, .slice A10 x.f4.f6.length c10, .slice A11 x.f4.f7.length c11, .int .i64 x.f5.f0, .int .i64 x.f5.f1, .int .i64 x.f5.f2, .int .i64 x.f5.f3, .int .i64 x.f5.f4, .string x.f5.f5, .string x.f5.f6, .string x.f5.f7, .string x.f5.f8, .int .i64 x.f5.f9, .int .i64 x.f5.f10, .int .i64 x.f5.f11.f0, .string x.f5.f11.f1, .int .i64 x.f5.f11.f2, .int .i64 x.f5.f11.f3, .int .i64 x.f5.f12.f0, .int .i64 x.f5.f12.f1, .int .i64 x.f5.f13, .slice A30 x.f5.f14.length c30, .int .i64 x.f6.f0, .int .i64 x.f6.f1, .int .i64 x.f6.f2, .slice A34 x.f6.f3.length c34, .slice A35 x.f6.f4.length c35, .slice A36 x.f6.f5.length c36, .int .i64 x.f7.f0, .slice A38 x.f7.f1.length c38, .slice A39 x.f8.length c39] ∧ x.f4.f6.length ≤ c10 ∧ (Kd.int .u8).C w A10 x.f4.f6.length x.f4.f6 ∧ x.f4.f7.length ≤ c11 ∧ k129.C w A11 x.f4.f7.length x.f4.f7 ∧ x.f5.f14.length ≤ c30 ∧ Kd.string.C w A30 x.f5.f14.length x.f5.f14 ∧ x.f6.f3.length ≤ c34 ∧ k115.C w A34 x.f6.f3.length x.f6.f3 ∧ x.f6.f4.length ≤ c35 ∧ Kd.string.C w A35 x.f6.f4.length x.f6.f4 ∧ x.f6.f5.length ≤ c36 ∧ k35.C w A36 x.f6.f5.length x.f6.f5 ∧ x.f7.f1.length ≤ c38 ∧ k108.C w A38 x.f7.f1.length x.f7.f1 ∧ x.f8.length ≤ c39 ∧ Kd.string.C w A39 x.f8.length x.f8 := by
 obtain ⟨_, _, rfl, rfl, ⟨_, _, rfl, rfl, ⟨_, _, rfl, rfl, ⟨_, _, rfl, rfl, ⟨_, _, rfl, s4, ⟨_, _, rfl, s12, ⟨_, _, rfl, s31, ⟨_, _, rfl, s37, ⟨A39, c39, rfl, l39, g39⟩⟩⟩⟩⟩⟩⟩⟩⟩ := h
 obtain ⟨A10, c10, A11, c11, rfl, l10, g10, l11, g11⟩ := k31_open s4
 obtain ⟨A30, c30, rfl, l30, g30⟩ := k38_open s12
 obtain ⟨A34, c34, A35, c35, A36, c36, rfl, l34, g34, l35, g35, l36, g36⟩ := k42_open s31
 obtain ⟨A38, c38, rfl, l38, g38⟩ := k45_open s37
 exact ⟨A10, c10, A11, c11, A30, c30, A34, c34, A35, c35, A36, c36, A38, c38, A39, c39, rfl, l10, g10, l11, g11, l30, g30, l34, g34, l35, g35, l36, g36, l38, g38, l39, g39⟩
theorem k47_mkM (w : World) (base : Nat) (ok : Nat → Prop) (x : S47) {v10 : Value} (g10 : (Kd.int .u8).R 5 w base ok v10 x.f4.f6) {v11 : Value} (g11 : k129.R 129 w base ok v11 x.f4.f7) {v30 : Value} (g30 : Kd.string.R 9 w base ok v30 x.f5.f14) {v34 : Value} (g34 : k115.R 115 w base ok v34 x.f6.f3) {v35 : Value} (g35 : Kd.string.R 9 w base ok v35 x.f6.f4) {v36 : Value} (g36 : k35.R 35 w base ok v36 x.f6.f5) {v38 : Value} (g38 : k108.R 108 w base ok v38 x.f7.f1) {v39 : Value} (g39 : Kd.string.R 9 w base ok v39 x.f8) : k47.M w base ok x [.int .i64 x.f0, .int .i64 x.f1, .int .i64 x.f2, .int .i64 x.f3, .int .i64 x.f4.f0, .int .i64 x.f4.f1, .int .i64 x.f4.f2, .int .i64 x.f4.f3, .int .i64 x.f4.f4, .int .i64 x.f4.f5, v10, v11, .int .i64 x.f5.f0, .int .i64 x.f5.f1, .int .i64 x.f5.f2, .int .i64 x.f5.f3, .int .i64 x.f5.f4, .string x.f5.f5, .string x.f5.f6, .string x.f5.f7, .string x.f5.f8, .int .i64 x.f5.f9, .int .i64 x.f5.f10, .int .i64 x.f5.f11.f0, .string x.f5.f11.f1, .int .i64 x.f5.f11.f2, .int .i64 x.f5.f11.f3, .int .i64 x.f5.f12.f0, .int .i64 x.f5.f12.f1, .int .i64 x.f5.f13, v30, .int .i64 x.f6.f0, .int .i64 x.f6.f1, .int .i64 x.f6.f2, v34, v35, v36, .int .i64 x.f7.f0, v38, v39] := ⟨[.int .i64 x.f0], [.int .i64 x.f1, .int .i64 x.f2, .int .i64 x.f3, .int .i64 x.f4.f0, .int .i64 x.f4.f1, .int .i64 x.f4.f2, .int .i64 x.f4.f3, .int .i64 x.f4.f4, .int .i64 x.f4.f5, v10, v11, .int .i64 x.f5.f0, .int .i64 x.f5.f1, .int .i64 x.f5.f2, .int .i64 x.f5.f3, .int .i64 x.f5.f4, .string x.f5.f5, .string x.f5.f6, .string x.f5.f7, .string x.f5.f8, .int .i64 x.f5.f9, .int .i64 x.f5.f10, .int .i64 x.f5.f11.f0, .string x.f5.f11.f1, .int .i64 x.f5.f11.f2, .int .i64 x.f5.f11.f3, .int .i64 x.f5.f12.f0, .int .i64 x.f5.f12.f1, .int .i64 x.f5.f13, v30, .int .i64 x.f6.f0, .int .i64 x.f6.f1, .int .i64 x.f6.f2, v34, v35, v36, .int .i64 x.f7.f0, v38, v39], rfl, rfl, ⟨[.int .i64 x.f1], [.int .i64 x.f2, .int .i64 x.f3, .int .i64 x.f4.f0, .int .i64 x.f4.f1, .int .i64 x.f4.f2, .int .i64 x.f4.f3, .int .i64 x.f4.f4, .int .i64 x.f4.f5, v10, v11, .int .i64 x.f5.f0, .int .i64 x.f5.f1, .int .i64 x.f5.f2, .int .i64 x.f5.f3, .int .i64 x.f5.f4, .string x.f5.f5, .string x.f5.f6, .string x.f5.f7, .string x.f5.f8, .int .i64 x.f5.f9, .int .i64 x.f5.f10, .int .i64 x.f5.f11.f0, .string x.f5.f11.f1, .int .i64 x.f5.f11.f2, .int .i64 x.f5.f11.f3, .int .i64 x.f5.f12.f0, .int .i64 x.f5.f12.f1, .int .i64 x.f5.f13, v30, .int .i64 x.f6.f0, .int .i64 x.f6.f1, .int .i64 x.f6.f2, v34, v35, v36, .int .i64 x.f7.f0, v38, v39], rfl, rfl, ⟨[.int .i64 x.f2], [.int .i64 x.f3, .int .i64 x.f4.f0, .int .i64 x.f4.f1, .int .i64 x.f4.f2, .int .i64 x.f4.f3, .int .i64 x.f4.f4, .int .i64 x.f4.f5, v10, v11, .int .i64 x.f5.f0, .int .i64 x.f5.f1, .int .i64 x.f5.f2, .int .i64 x.f5.f3, .int .i64 x.f5.f4, .string x.f5.f5, .string x.f5.f6, .string x.f5.f7, .string x.f5.f8, .int .i64 x.f5.f9, .int .i64 x.f5.f10, .int .i64 x.f5.f11.f0, .string x.f5.f11.f1, .int .i64 x.f5.f11.f2, .int .i64 x.f5.f11.f3, .int .i64 x.f5.f12.f0, .int .i64 x.f5.f12.f1, .int .i64 x.f5.f13, v30, .int .i64 x.f6.f0, .int .i64 x.f6.f1, .int .i64 x.f6.f2, v34, v35, v36, .int .i64 x.f7.f0, v38, v39], rfl, rfl, ⟨[.int .i64 x.f3], [.int .i64 x.f4.f0, .int .i64 x.f4.f1, .int .i64 x.f4.f2, .int .i64 x.f4.f3, .int .i64 x.f4.f4, .int .i64 x.f4.f5, v10, v11, .int .i64 x.f5.f0, .int .i64 x.f5.f1, .int .i64 x.f5.f2, .int .i64 x.f5.f3, .int .i64 x.f5.f4, .string x.f5.f5, .string x.f5.f6, .string x.f5.f7, .string x.f5.f8, .int .i64 x.f5.f9, .int .i64 x.f5.f10, .int .i64 x.f5.f11.f0, .string x.f5.f11.f1, .int .i64 x.f5.f11.f2, .int .i64 x.f5.f11.f3, .int .i64 x.f5.f12.f0, .int .i64 x.f5.f12.f1, .int .i64 x.f5.f13, v30, .int .i64 x.f6.f0, .int .i64 x.f6.f1, .int .i64 x.f6.f2, v34, v35, v36, .int .i64 x.f7.f0, v38, v39], rfl, rfl, ⟨[.int .i64 x.f4.f0, .int .i64 x.f4.f1, .int .i64 x.f4.f2, .int .i64 x.f4.f3, .int .i64 x.f4.f4, .int .i64 x.f4.f5, v10, v11], [.int .i64 x.f5.f0, .int .i64 x.f5.f1, .int .i64 x.f5.f2, .int .i64 x.f5.f3, .int .i64 x.f5.f4, .string x.f5.f5, .string x.f5.f6, .string x.f5.f7, .string x.f5.f8, .int .i64 x.f5.f9, .int .i64 x.f5.f10, .int .i64 x.f5.f11.f0, .string x.f5.f11.f1, .int .i64 x.f5.f11.f2, .int .i64 x.f5.f11.f3, .int .i64 x.f5.f12.f0, .int .i64 x.f5.f12.f1, .int .i64 x.f5.f13, v30, .int .i64 x.f6.f0, .int .i64 x.f6.f1, .int .i64 x.f6.f2, v34, v35, v36, .int .i64 x.f7.f0, v38, v39], rfl, (k31_mkM w base ok x.f4 g10 g11), ⟨[.int .i64 x.f5.f0, .int .i64 x.f5.f1, .int .i64 x.f5.f2, .int .i64 x.f5.f3, .int .i64 x.f5.f4, .string x.f5.f5, .string x.f5.f6, .string x.f5.f7, .string x.f5.f8, .int .i64 x.f5.f9, .int .i64 x.f5.f10, .int .i64 x.f5.f11.f0, .string x.f5.f11.f1, .int .i64 x.f5.f11.f2, .int .i64 x.f5.f11.f3, .int .i64 x.f5.f12.f0, .int .i64 x.f5.f12.f1, .int .i64 x.f5.f13, v30], [.int .i64 x.f6.f0, .int .i64 x.f6.f1, .int .i64 x.f6.f2, v34, v35, v36, .int .i64 x.f7.f0, v38, v39], rfl, (k38_mkM w base ok x.f5 g30), ⟨[.int .i64 x.f6.f0, .int .i64 x.f6.f1, .int .i64 x.f6.f2, v34, v35, v36], [.int .i64 x.f7.f0, v38, v39], rfl, (k42_mkM w base ok x.f6 g34 g35 g36), ⟨[.int .i64 x.f7.f0, v38], [v39], rfl, (k45_mkM w base ok x.f7 g38), ⟨v39, rfl, g39⟩⟩⟩⟩⟩⟩⟩⟩⟩
end Go.Proofs.Ytonedijkgddepaa.P
