/- urlform.Escape and urlform.Unescape, by hand, in the print's own form. No conditions. -/
import Derived.Test.YtjampnopogdceaaDoorGBuild
import Derived.Test.YtjampnopogdceaaDoorWMore
import Derived.StillTailTactics
import Derived.Deep.QuietTactic
import Derived.BigQuiet
import Derived.Deep.LoopGhost
namespace Go.Proofs.YtjampnopogdceaaDoor.P
open Go.RowKit Go.Lib Go.Shelf Go.Proofs.YtjampnopogdceaaDoorW.PrintWords Go.Proofs.YtjampnopogdceaaDoorW.PrintLast Go.Proofs.YtjampnopogdceaaDoorW.PrintMore
set_option linter.unusedVariables false
set_option linter.unusedSimpArgs false

def ofL (l : L8) : ByteArray := ⟨l.toArray⟩
theorem ofL_list (l : L8) : (ofL l).data.toList = l := by simp [ofL]
theorem size_list (s : ByteArray) : s.data.toList.length = s.size := by rw [← Lib.size_eq]
theorem byte_at (s : ByteArray) (i : Nat) (h : i < s.size) : s.data.toList[i]'(by rw [size_list]; exact h) = s[i]'h := by simp [ByteArray.getElem_eq_getElem_data]
theorem cells_esc (s : ByteArray) (i : Nat) (h : i < s.size) : byteCells (esc (s.data.toList.take (i + 1))) = byteCells (esc (s.data.toList.take i)) ++ byteCells (escB (s[i]'h)) := by
  rw [esc_take _ i (by rw [size_list]; exact h), Lib.byteCells_append, byte_at s i h]
theorem esc_room (s : ByteArray) (i : Nat) (hs : s.size ≤ 35184372088832) : (byteCells (esc (s.data.toList.take i))).length + 3 ≤ 140737488355328 := by
  rw [Lib.byteCells_length]
  have h1 := esc_le (s.data.toList.take i)
  have h2 : (s.data.toList.take i).length ≤ s.size := by rw [List.length_take, size_list]; exact Nat.min_le_right _ _
  omega
theorem idx_nat (c : UInt8) : ((c.toNat : Int)).toNat.toUInt8 = c := by simp
theorem byteCells_one (c : UInt8) : byteCells [c] = [.int .u8 c.toNat] := rfl
theorem esc32 (c : UInt8) (h : ((c.toNat : Int) == 32) = true) : byteCells (escB c) = [.int .u8 43] := by
  have e : c = 32 := by
    have := beq_iff_eq.1 h
    exact UInt8.toNat_inj.1 (by show c.toNat = 32; omega)
  subst e; rfl
theorem ne32 (c : UInt8) (h : ((c.toNat : Int) == 32) = false) : c ≠ 32 := by rintro rfl; simp at h
theorem escPlain (c : UInt8) (h : ((c.toNat : Int) == 32) = false) (h2 : 0 ≤ indexByte plainL ((c.toNat : Int)).toNat.toUInt8) : byteCells (escB c) = [.int .u8 c.toNat] := by
  rw [idx_nat] at h2
  unfold escB; rw [if_neg (ne32 c h), if_pos h2]; rfl
theorem and15 (c : UInt8) : bits .and .u8 (c.toNat : Int) 15 = (c.toNat : Int) % 16 := byteAll (p := fun c => bits .and .u8 (c.toNat : Int) 15 = (c.toNat : Int) % 16) (by decide +kernel) c
theorem isB_drew {T e B b : Nat} {bs : List Value} {w : World} (h : IsBuilder T e B b bs w) : IsBuilder T e B b bs w.drew := h
theorem isB_lt {T e B b : Nat} {bs : List Value} {w : World} (h : IsBuilder T e B b bs w) : b < w.heap.size := by rcases h with h | h <;> exact h.lt
theorem isB_alloc {T e B b : Nat} {bs : List Value} {w : World} (h : IsBuilder T e B b bs w) (o : Obj) : IsBuilder T e B b bs (w.alloc o) := by
  have one : ∀ p, BuilderAt T e B b p bs w → BuilderAt T e B b p bs (w.alloc o) := fun p h => by
    have hl := h.lt
    obtain ⟨hB, v, hb, hown, hne⟩ := h
    exact ⟨hB, v, by rw [Lib.alloc_old w _ b hl]; exact hb, hown.alloc o, hne⟩
  exact h.imp (one _) (one _)
theorem new3 (W : World) (x y z : Value) : ∀ j u, [x, y, z][j]? = some u → (W.alloc (.cells #[x, y, z] 5)).cell? ((⟨W.heap.size, 0, none⟩ : Addr).add j) = some u := by
  intro j u hj
  have hb := heap_alloc_new W (.cells #[x, y, z] 5)
  match j, hj with
  | 0, hj => simp at hj; subst hj; exact (blk_cell hb 0).trans rfl
  | 1, hj => simp at hj; subst hj; exact (blk_cell hb 1).trans rfl
  | 2, hj => simp at hj; subst hj; exact (blk_cell hb 2).trans rfl
  | j + 3, hj => simp at hj
theorem new3d (W : World) (x y z : Value) : ∀ j u, [x, y, z][j]? = some u → (W.alloc (.cells #[x, y, z] 5)).drew.cell? ((⟨W.heap.size, 0, none⟩ : Addr).add j) = some u := new3 W x y z
theorem lgAt (n : Nat) (h : n < 16) : ((⟨#[48, 49, 50, 51, 52, 53, 54, 55, 56, 57, 65, 66, 67, 68, 69, 70]⟩ : ByteArray)[n]'h) = lg n := by
  have : ∀ n, (h : n < 16) → ((⟨#[48, 49, 50, 51, 52, 53, 54, 55, 56, 57, 65, 66, 67, 68, 69, 70]⟩ : ByteArray)[n]'h) = lg n := by decide
  exact this n h
theorem escHex (c : UInt8) (h : ((c.toNat : Int) == 32) = false) (h2 : ¬ 0 ≤ indexByte plainL c) : byteCells (escB c) = [.int .u8 37, .int .u8 (lg (c.toNat / 16)).toNat, .int .u8 (lg (c.toNat % 16)).toNat] := by
  unfold escB; rw [if_neg (ne32 c h), if_neg h2]; rfl
def urlform_Escape.f (a0 : ByteArray) : Option ByteArray := if a0.size ≤ 35184372088832 then some (ofL (esc a0.data.toList)) else none

set_option maxHeartbeats 2000000 in
set_option maxRecDepth 100000 in
theorem urlform_Escape.calls (a0 : ByteArray) (r : ByteArray) (w : World) (h : urlform_Escape.f a0 = some r) :
    Calls Tryd.prog 11 #[.string a0] w fun e w' => e = .returned (.string r) ∧ Below w.heap.size w w' := by
  unfold urlform_Escape.f at h
  split at h
  case isFalse => cases h
  rename_i hs
  obtain rfl := Option.some.inj h
  clear h
  have HS := Aside0.mk hs
  go_enter Tryd.func11, Tryd.ntmps11
  go_wp2
  go_loopg [8] a0.size (fun kq v8 w' => ∃ i : Nat, v8 = .int .i64 i ∧ i ≤ a0.size ∧ a0.size - i ≤ kq ∧ Aside0 (IsBuilder 59 5 w.heap.size w.heap.size (byteCells (esc (a0.data.toList.take i))) w') ∧ Aside0 (Below w.heap.size w w'))
  case atStart => exact ⟨0, rfl, Nat.zero_le _, by omega, ⟨fresh_isBuilder 59 5 w⟩, ⟨(Below.refl _ w).alloc (Nat.le_refl _) _⟩⟩
  case round =>
    obtain ⟨i, rfl, hi, hg, HT, HB⟩ := hrel
    by_cases hlt : i < a0.size
    · have hw1 : wrap64 ((i : Int) + 1) = (i : Int) + 1 := by unfold wrap64; have := HS.out; omega
      have HCell := Aside0.mk (cells_esc a0 i hlt)
      have HR := Aside0.mk (esc_room a0 i HS.out)
      have HN := Aside0.mk (idx_nat (a0[i]'hlt))
      go_wp2_with (first
        | (go_at_call 26; (with_reducible refine (writeByteC w.heap.size w.heap.size _ _ _ HT.out (by have := HR.out; omega) HB.out.size).mono ?_); rintro e w2 ⟨rfl, h2, hb2⟩; have T2 := Aside0.mk (Or.inr h2 : IsBuilder 59 5 w.heap.size w.heap.size _ w2); have B2 := Aside0.mk (HB.out.trans hb2); clear h2 hb2)
        | (go_at_call 27; (with_reducible refine (indexByteC _ _ _).mono ?_); rintro e w2 ⟨rfl, rfl⟩))
      · have hcs := HCell.out
        rw [esc32 _ (by assumption)] at hcs
        have h2 := T2.out
        rw [← hcs] at h2
        have T3 := Aside0.mk h2
        clear hcs h2 T2
        go_roundg (a0.size - (i + 1))
        case measure => omega
        case rel => exact ⟨i + 1, by go_num, by omega, by omega, T3, B2⟩
      · have h1_ : (((a0[i]'hlt).toNat : Int) == 32) = false := by assumption
        have h2_ : 0 ≤ indexByte plainL (((a0[i]'hlt).toNat : Int)).toNat.toUInt8 := by rw [idx_nat]; assumption
        have hcs := HCell.out
        rw [escPlain _ h1_ h2_] at hcs
        have h2 := T2.out
        rw [← hcs] at h2
        have T3 := Aside0.mk h2
        clear hcs h2 T2
        go_roundg (a0.size - (i + 1))
        case measure => omega
        case rel => exact ⟨i + 1, by go_num, by omega, by omega, T3, B2⟩
      · have h1_ : (((a0[i]'hlt).toNat : Int) == 32) = false := by assumption
        have h2_ : ¬ 0 ≤ indexByte plainL (a0[i]'hlt) := by have h_ : indexByte plainL (a0[i]'hlt) < 0 := by assumption
                                                            omega
        have k1 : (0 : Int) ≤ ((a0[i]'hlt).toNat : Int) / 16 := by omega
        have k2 : ((a0[i]'hlt).toNat : Int) / 16 < 16 := by have := (a0[i]'hlt).toNat_lt; omega
        have k3 : (0 : Int) ≤ bits .and .u8 ((a0[i]'hlt).toNat : Int) 15 := by rw [and15]; omega
        have k4 : bits .and .u8 ((a0[i]'hlt).toNat : Int) 15 < 16 := by rw [and15]; omega
        refine wp_region_still_tail 6 (by kernel_rfl) (by kernel_rfl) ?_
        simp only [List.take_succ_cons, List.take_zero, List.drop_succ_cons, List.drop_zero]
        iterate 6 (refine wpStill_step (fun K hK => ?_); go_simp; refine hK _ ?_; clear hK K)
        refine wpStill_nil ?_
        change wpList _ _ _ _ _ (World.drew _)
        have hcs := HCell.out
        rw [escHex _ h1_ h2_, ← lgAt _ (show (a0[i]'hlt).toNat / 16 < 16 by have := (a0[i]'hlt).toNat_lt; omega), ← lgAt _ (show (a0[i]'hlt).toNat % 16 < 16 by omega)] at hcs
        have HC2 := Aside0.mk hcs
        clear hcs HCell
        go_wp2_with (first
          | (go_at_call 31; (with_reducible refine (writeC w.heap.size w.heap.size _ _ 3 3 [_, _, _] _ (isB_drew (isB_alloc HT.out _)) rfl (new3d _ _ _ _) (Nat.ne_of_gt (isB_lt HT.out)) (by simp [Value.oneCell']) (by have := HR.out; omega) (by have := HB.out.size; simp; omega)).mono ?_); rintro e w3 ⟨rfl, h2, hb2⟩; have T2 := Aside0.mk (Or.inr h2 : IsBuilder 59 5 w.heap.size w.heap.size _ w3); have B2 := Aside0.mk ((below_drew (HB.out.alloc (by have := HB.out.size; omega) _)).trans hb2); clear h2 hb2))
        have h2 := T2.out
        rw [← HC2.out] at h2
        have T3 := Aside0.mk h2
        clear h2 T2 HC2
        go_roundg (a0.size - (i + 1))
        case measure => omega
        case rel => exact ⟨i + 1, by go_num, by omega, by omega, T3, B2⟩
    · obtain rfl : i = a0.size := by omega
      have hx : a0.data.toList.take a0.size = a0.data.toList := by rw [← size_list]; exact List.take_length
      have hT := HT.out
      rw [hx] at hT
      have T2 := Aside0.mk hT
      clear hT hx
      go_wp2_with (first
        | (go_at_call 28; (with_reducible refine (stringC w.heap.size w.heap.size _ _ T2.out HB.out.size).mono ?_); rintro e w3 ⟨rfl, hb2⟩; have B2 := Aside0.mk (HB.out.trans hb2); clear hb2))
      go_ret
      exact ⟨rfl, B2.out⟩
def urlform_Unescape.f (a0 : ByteArray) : Option (ByteArray × Int × Int) := if a0.size ≤ 35184372088832 then some (ofL (un a0.data.toList 0 []).1, ((un a0.data.toList 0 []).2.1 : Int), ((un a0.data.toList 0 []).2.2 : Int)) else none
theorem drop_at (s : ByteArray) (i : Nat) (h : i < s.size) : s.data.toList.drop i = s[i]'h :: s.data.toList.drop (i + 1) := by
  rw [List.drop_eq_getElem_cons (by rw [size_list]; exact h), byte_at s i h]

theorem eqB (c : UInt8) (n : Nat) (hn : n < 256) (h : ((c.toNat : Int) == (n : Int)) = true) : c = UInt8.ofNat n := by
  have := beq_iff_eq.1 h
  have h2 : c.toNat = n := by omega
  rw [← h2]; simp
theorem neB (c : UInt8) (n : Nat) (hn : n < 256) (h : ((c.toNat : Int) == (n : Int)) = false) : c ≠ UInt8.ofNat n := by
  rintro rfl
  have h2 : (UInt8.ofNat n).toNat = n := by simp; omega
  rw [h2] at h; simp at h
theorem isB_drewN {T e B b : Nat} {bs : List Value} {w : World} (h : IsBuilder T e B b bs w) (n : Nat) : IsBuilder T e B b bs (w.drewN n) := h
theorem Words_below_drewN {B : Nat} {w w' : World} (h : Below B w w') (n : Nat) : Below B w (w'.drewN n) := ⟨h.os, h.tape, h.output, h.size, h.block⟩
theorem hexI_lt (c : UInt8) : hexI c < 32 := byteAll (p := fun c => hexI c < 32) (by decide +kernel) c
def hexOk (x y : Nat) : Bool := decide (bits .or .i64 (wrap64 (bits .and .i64 (x : Int) 15 * 16)) (bits .and .i64 (y : Int) 15) % 256 = ((x % 16 * 16 + y % 16 : Nat) : Int))
theorem hexOk_all : (List.range 32).all (fun x => (List.range 32).all (fun y => hexOk x y)) = true := by decide +kernel
theorem hexv (h l : UInt8) (h1 : 0 ≤ hexI h) (h2 : 0 ≤ hexI l) : bits .or .i64 (wrap64 (bits .and .i64 (hexI h) 15 * 16)) (bits .and .i64 (hexI l) 15) % 256 = ((hexB h l).toNat : Int) := by
  have k1 := hexI_lt h
  have k2 := hexI_lt l
  unfold hexB
  generalize hexI h = x at h1 k1 ⊢
  generalize hexI l = y at h2 k2 ⊢
  obtain ⟨x, rfl⟩ : ∃ n : Nat, x = n := ⟨x.toNat, by omega⟩
  obtain ⟨y, rfl⟩ : ∃ n : Nat, y = n := ⟨y.toNat, by omega⟩
  have e := of_decide_eq_true (List.all_eq_true.1 (List.all_eq_true.1 hexOk_all x (List.mem_range.2 (by omega))) y (List.mem_range.2 (by omega)))
  rw [e]
  simp
  omega
theorem snoc_b (T e B b : Nat) (acc : L8) (c : UInt8) (w : World) (h : IsBuilder T e B b (byteCells acc ++ [.int .u8 c.toNat]) w) : IsBuilder T e B b (byteCells (acc ++ [c])) w := by
  rw [Lib.byteCells_append]; exact h

set_option maxHeartbeats 4000000 in
set_option maxRecDepth 100000 in
theorem urlform_Unescape.calls (a0 : ByteArray) (r1 : ByteArray) (r2 r3 : Int) (w : World) (h : urlform_Unescape.f a0 = some (r1, r2, r3)) :
    Calls Tryd.prog 9 #[.string a0] w fun e w' => e = .returned (.tuple #[.string r1, .int .i64 r2, .int .i64 r3]) ∧ Below w.heap.size w w' := by
  unfold urlform_Unescape.f at h
  split at h
  case isFalse => cases h
  rename_i hs
  obtain ⟨rfl, rfl, rfl⟩ : ofL (un a0.data.toList 0 []).1 = r1 ∧ ((un a0.data.toList 0 []).2.1 : Int) = r2 ∧ ((un a0.data.toList 0 []).2.2 : Int) = r3 := by simpa using h
  clear h
  have HS := Aside0.mk hs
  generalize hU : un a0.data.toList 0 [] = U
  have HU := Aside0.mk hU
  clear hU
  go_enter Tryd.func9, Tryd.ntmps9
  go_wp2
  go_loopg [6] a0.size (fun kq v6 w' => ∃ (i : Nat) (acc : L8), v6 = .int .i64 i ∧ i ≤ a0.size ∧ a0.size - i ≤ kq ∧ Aside0 (IsBuilder 59 5 w.heap.size w.heap.size (byteCells acc) w') ∧ Aside0 (Below w.heap.size w w') ∧ Aside0 (acc.length ≤ i) ∧ Aside0 (un (a0.data.toList.drop i) i acc = U))
  case atStart => exact ⟨0, [], rfl, Nat.zero_le _, by omega, ⟨fresh_isBuilder 59 5 w⟩, ⟨(Below.refl _ w).alloc (Nat.le_refl _) _⟩, ⟨Nat.le_refl _⟩, HU⟩
  case round =>
    obtain ⟨i, acc, rfl, hi, hg, HT, HB, HA, HE⟩ := hrel
    by_cases hlt : i < a0.size
    · have hw1 : wrap64 ((i : Int) + 1) = (i : Int) + 1 := by unfold wrap64; have := HS.out; omega
      have hw2 : wrap64 ((i : Int) + 2) = (i : Int) + 2 := by unfold wrap64; have := HS.out; omega
      have hw3 : wrap64 ((i : Int) + 2 + 1) = (i : Int) + 2 + 1 := by unfold wrap64; have := HS.out; omega
      have hw4 : wrap64 ((a0.size : Int) - (i : Int)) = (a0.size : Int) - (i : Int) := by unfold wrap64; have := HS.out; omega
      have HR := Aside0.mk (show (byteCells acc).length + 1 ≤ 140737488355328 by rw [Lib.byteCells_length]; have := HA.out; have := HS.out; omega)
      have HD := Aside0.mk (drop_at a0 i hlt)
      have hn := idx_nat (a0[i]'hlt)
      go_wp2_with (first
        | (go_at_call 26; (with_reducible refine (writeByteC w.heap.size w.heap.size _ _ _ HT.out (by have := HR.out; omega) HB.out.size).mono ?_); rintro e w2 ⟨rfl, h2, hb2⟩; have T2 := Aside0.mk (Or.inr h2 : IsBuilder 59 5 w.heap.size w.heap.size _ w2); have B2 := Aside0.mk (HB.out.trans hb2); clear h2 hb2)
        | (go_at_call 27; (with_reducible refine (indexByteC _ _ _).mono ?_); rintro e w2 ⟨rfl, rfl⟩))
      · have e43 : a0[i]'hlt = 43 := eqB _ 43 (by decide) (by assumption)
        have hu : un (a0.data.toList.drop (i + 1)) (i + 1) (acc ++ [32]) = U := by rw [← HE.out, HD.out, e43, un_plus]
        have HE2 := Aside0.mk hu
        have T3 := Aside0.mk (snoc_b _ _ _ _ acc 32 _ T2.out)
        clear hu T2 HE HD e43
        go_roundg (a0.size - (i + 1))
        case measure => omega
        case rel => exact ⟨i + 1, acc ++ [32], by go_num, by omega, by omega, T3, B2, ⟨by simp; have := HA.out; omega⟩, HE2⟩
      · have e37 : a0[i]'hlt = 37 := eqB _ 37 (by decide) (by assumption)
        have hu : U = ([], i, 5) := by rw [← HE.out, HD.out, e37, un_short _ _ _ (by rw [List.length_drop, size_list]; omega)]
        subst hu
        go_ret3
        exact ⟨rfl, HB.out⟩
      · have e37 : a0[i]'hlt = 37 := eqB _ 37 (by decide) (by assumption)
        have g1 : (i : Int) + 1 < (a0.size : Int) := by omega
        have g2 : (i : Int) + 2 < (a0.size : Int) := by omega
        have g3 : (0 : Int) ≤ (i : Int) + 1 := by omega
        have g4 : (0 : Int) ≤ (i : Int) + 2 := by omega
        go_quiet (first | (go_at_call 27; exact Calls.quiet_of_same (indexByteC _ _ _)))
        have TN := Aside0.mk (isB_drewN HT.out nq)
        have BN := Aside0.mk (Words_below_drewN HB.out nq)
        have dD : a0.data.toList.drop i = 37 :: a0[i + 1]'(by omega) :: a0[i + 2]'(by omega) :: a0.data.toList.drop (i + 3) := by
          rw [HD.out, e37, drop_at a0 (i + 1) (by omega), drop_at a0 (i + 2) (by omega)]
        have HDD := Aside0.mk dD
        clear dD HD HT HB hn
        go_wp2_with (first
          | (go_at_call 26; (with_reducible refine (writeByteC w.heap.size w.heap.size _ _ _ TN.out (by have := HR.out; omega) BN.out.size).mono ?_); rintro e w2 ⟨rfl, h2, hb2⟩; have T2 := Aside0.mk (Or.inr h2 : IsBuilder 59 5 w.heap.size w.heap.size _ w2); have B2 := Aside0.mk (BN.out.trans hb2); clear h2 hb2))
        · have hx : hexI (a0[i + 1]'(by omega)) < 0 ∨ hexI (a0[i + 2]'(by omega)) < 0 := by assumption
          have hu : U = ([], i, 5) := by rw [← HE.out, HDD.out, un_hexbad _ _ _ _ _ (by omega)]
          subst hu
          go_ret3
          exact ⟨rfl, BN.out⟩
        · have hx : 0 ≤ hexI (a0[i + 1]'(by omega)) ∧ 0 ≤ hexI (a0[i + 2]'(by omega)) := by assumption
          have hu : un (a0.data.toList.drop (i + 3)) (i + 3) (acc ++ [hexB (a0[i + 1]'(by omega)) (a0[i + 2]'(by omega))]) = U := by rw [← HE.out, HDD.out, un_hex _ _ _ _ _ hx.1 hx.2]
          have HE2 := Aside0.mk hu
          have hv := hexv (a0[i + 1]'(by omega)) (a0[i + 2]'(by omega)) hx.1 hx.2
          have h2 := T2.out
          unfold hexI digitsL at hv
          rw [hv] at h2
          have T3 := Aside0.mk (snoc_b _ _ _ _ acc _ _ h2)
          clear hu T2 HE HDD hv h2 hx
          go_roundg (a0.size - (i + 3))
          case measure => omega
          case rel => exact ⟨i + 3, acc ++ [hexB (a0[i + 1]'(by omega)) (a0[i + 2]'(by omega))], by go_num, by omega, by omega, T3, B2, ⟨by simp; have := HA.out; omega⟩, HE2⟩
        · have hx : hexI (a0[i + 1]'(by omega)) < 0 := by assumption
          have hu : U = ([], i, 5) := by rw [← HE.out, HDD.out, un_hexbad _ _ _ _ _ (by omega)]
          subst hu
          go_ret3
          exact ⟨rfl, BN.out⟩
      · have h43 : a0[i]'hlt ≠ 43 := neB _ 43 (by decide) (by assumption)
        have h37 : a0[i]'hlt ≠ 37 := neB _ 37 (by decide) (by assumption)
        have hl : 0 ≤ indexByte letL (a0[i]'hlt) := by assumption
        have hu : un (a0.data.toList.drop (i + 1)) (i + 1) (acc ++ [a0[i]'hlt]) = U := by rw [← HE.out, HD.out, un_let _ _ _ _ h43 h37 hl]
        have HE2 := Aside0.mk hu
        have T3 := Aside0.mk (snoc_b _ _ _ _ acc _ _ T2.out)
        clear hu T2 HE HD h43 h37 hl
        go_roundg (a0.size - (i + 1))
        case measure => omega
        case rel => exact ⟨i + 1, acc ++ [a0[i]'hlt], by go_num, by omega, by omega, T3, B2, ⟨by simp; have := HA.out; omega⟩, HE2⟩
      · have h43 : a0[i]'hlt ≠ 43 := neB _ 43 (by decide) (by assumption)
        have h37 : a0[i]'hlt ≠ 37 := neB _ 37 (by decide) (by assumption)
        have hl : indexByte letL (a0[i]'hlt) < 0 := by assumption
        have hu : U = ([], i, 5) := by rw [← HE.out, HD.out, un_bad _ _ _ _ h43 h37 (by omega)]
        subst hu
        go_ret3
        exact ⟨rfl, HB.out⟩
    · obtain rfl : i = a0.size := by omega
      have hu : U = (acc, 0, 0) := by rw [← HE.out, List.drop_eq_nil_of_le (by rw [size_list]; exact Nat.le_refl _), un]
      subst hu
      go_wp2_with (first
        | (go_at_call 28; (with_reducible refine (stringC w.heap.size w.heap.size _ _ HT.out HB.out.size).mono ?_); rintro e w3 ⟨rfl, hb2⟩; have B2 := Aside0.mk (HB.out.trans hb2); clear hb2))
      go_ret3
      exact ⟨rfl, B2.out⟩
end Go.Proofs.YtjampnopogdceaaDoor.P
