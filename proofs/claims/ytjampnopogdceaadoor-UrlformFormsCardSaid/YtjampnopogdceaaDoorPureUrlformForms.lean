/- The plain law UrlformForms: any text is the form of the document's pairs, or refused at its place; any pairs have its form. No conditions. -/
import Derived.Test.YtjampnopogdceaaDoorP4
import Derived.KernelRfl
import Derived.Test.YtjampnopogdceaaDoorP6
import Derived.Test.YtjampnopogdceaaDoorP3
import Derived.Test.YtjampnopogdceaaDoorP17
import Derived.Test.YtjampnopogdceaaDoorGParse
import Derived.Test.YtjampnopogdceaaDoorP9
import Derived.Test.YtjampnopogdceaaDoorP18
import Derived.Test.YtjampnopogdceaaDoorP19
import Derived.Test.YtjampnopogdceaaDoorStmUrlformForms
namespace Go.Proofs.YtjampnopogdceaaDoor.P
open Go.RowKit Go.Proofs.YtjampnopogdceaaDoorW.PrintWords Go.Proofs.YtjampnopogdceaaDoorW.PrintLast
set_option maxRecDepth 100000
theorem works_k : racewaylaw26_works.f 10 = some true := by kernel_rfl
end Go.Proofs.YtjampnopogdceaaDoor.P

namespace Go.Proofs.YtjampnopogdceaaDoor.P
open Go.RowKit Go.Lib Go.Proofs.YtjampnopogdceaaDoorW.PrintWords Go.Proofs.YtjampnopogdceaaDoorW.PrintLast

theorem worksAt {k : Nat} (h : 10 ≤ k) : racewaylaw26_works.f k = some true := at_rounds racewaylaw26_works.mono h works_k
theorem ofL_app (a b : L8) : ofL a ++ ofL b = ofL (a ++ b) := by
  apply ByteArray.ext
  rw [ByteArray.data_append]
  simp [ofL]
theorem ofL_size (a : L8) : (ofL a).size = a.length := by rw [← size_list, ofL_list]
theorem ofL_of (s : ByteArray) : ofL s.data.toList = s := Lib.mk_data s
theorem parseF (l : L8) : urlform_Parse.f (ofL l) = some ((parse l).1.map toS, ((parse l).2.1 : Int), ((parse l).2.2 : Int)) := by
  unfold urlform_Parse.f; rw [ofL_list]
theorem same_loop (l : List S45) (hl : l.length ≤ 100000) : ∀ (d i k : Nat), i + d = l.length → d + 1 ≤ k → racewayref26_Same.l0 k l l (i : Int) = some true := by
  intro d
  induction d with
  | zero =>
    intro i k hi hk
    obtain ⟨k, rfl⟩ : ∃ m, k = m + 1 := ⟨k - 1, by omega⟩
    simp only [racewayref26_Same.l0]
    rw [if_neg (by omega)]
  | succ d ih =>
    intro i k hi hk
    obtain ⟨k, rfl⟩ : ∃ m, k = m + 1 := ⟨k - 1, by omega⟩
    have hw : wrap64 ((i : Int) + 1) = ((i + 1 : Nat) : Int) := by unfold wrap64; omega
    simp only [racewayref26_Same.l0]
    rw [if_pos (by omega), if_pos (by omega), if_pos (by omega), if_neg (by simp), hw]
    exact ih (i + 1) k (by omega) (by omega)
theorem same_self (l : List S45) (hl : l.length ≤ 100000) {k : Nat} (hk : l.length + 1 ≤ k) : racewayref26_Same.f k l l = some true := by
  unfold racewayref26_Same.f
  rw [if_pos rfl]
  exact same_loop l hl l.length 0 k (by omega) hk
/-- the text cut at most to n bytes -/
theorem cutTo (s : ByteArray) (n : Nat) : ∃ a : L8, s.extract 0 ((mn (s.size : Int) n : Int)).toNat = ofL a ∧ a.length ≤ n ∧ a = s.data.toList.take n := by
  refine ⟨s.data.toList.take n, ?_, by rw [List.length_take]; omega, rfl⟩
  have e : ((mn (s.size : Int) n : Int)).toNat = min s.size n := by unfold mn; omega
  rw [e, ← ofL_of (s.extract 0 (min s.size n)), Lib.extract_from_zero]
  congr 1
  rw [← size_list s, Nat.min_comm]
  rw [List.take_eq_take_iff]; omega
theorem mn_ok (s : ByteArray) (n : Nat) : 0 ≤ mn (s.size : Int) n ∧ mn (s.size : Int) n ≤ (s.size : Int) := by unfold mn; omega
theorem parse_zero (l : L8) (h : (parse l).2.2 = 0) : parse l = ((parse l).1, 0, 0) := by
  have h2 : (parse l).2.1 = 0 := by
    revert h
    unfold parse
    split
    · intro _; rfl
    · split
      · intro _; rfl
      · exact parseGo_zero _ _ _
  exact Prod.ext rfl (Prod.ext h2 h)
theorem parse_len (l : L8) (h : (parse l).2.2 = 0) : (parse l).1.length ≤ 1024 := by
  by_cases h0 : 65536 < l.length
  · unfold parse; rw [if_pos h0]; simp
  · by_cases h1 : l = []
    · subst h1; simp [parse]
    · exact ((parse_ok (by omega) h1).1 (parse_zero l h)).2
end Go.Proofs.YtjampnopogdceaaDoor.P

namespace Go.Proofs.YtjampnopogdceaaDoor.P
open Go.RowKit Go.Lib Go.Proofs.YtjampnopogdceaaDoorW.PrintWords Go.Proofs.YtjampnopogdceaaDoorW.PrintLast

theorem wrapU {x : Int} (h1 : -9223372036854775808 ≤ x) (h2 : x ≤ 9223372036854775807) : wrap64 x = x := by unfold wrap64; omega
def hexR (c : UInt8) : Int := (racewayref26_hex.f 5 (c.toNat : Int)).getD (-1)
theorem hexR_f (c : UInt8) {k : Nat} (hk : 5 ≤ k) : racewayref26_hex.f k (c.toNat : Int) = some (hexR c) := by
  refine at_rounds (racewayref26_hex.mono _) hk ?_
  exact byteAll (p := fun c => racewayref26_hex.f 5 (c.toNat : Int) = some (hexR c)) (by decide +kernel) c
theorem hexR_neg (c : UInt8) : (hexR c < 0) ↔ ¬ (0 ≤ hexI c) := byteAll (p := fun c => (hexR c < 0) ↔ ¬ (0 ≤ hexI c)) (by decide +kernel) c
theorem hexR_val (c : UInt8) (h : 0 ≤ hexI c) : hexR c = (((hexI c).toNat % 16 : Nat) : Int) :=
  byteAll (p := fun c => 0 ≤ hexI c → hexR c = (((hexI c).toNat % 16 : Nat) : Int)) (by decide +kernel) c h
theorem hexR_two (a b : UInt8) (h1 : 0 ≤ hexI a) (h2 : 0 ≤ hexI b) : wrap64 ((wrap64 (16 * hexR a)) + hexR b) % 256 = ((hexB a b).toNat : Int) := by
  rw [hexR_val a h1, hexR_val b h2]
  unfold hexB
  generalize (hexI a).toNat = x
  generalize (hexI b).toNat = y
  have hx : x % 16 < 16 := Nat.mod_lt _ (by decide)
  have hy : y % 16 < 16 := Nat.mod_lt _ (by decide)
  rw [show wrap64 (16 * ((x % 16 : Nat) : Int)) = 16 * ((x % 16 : Nat) : Int) from wrapU (by omega) (by omega), wrapU (by omega) (by omega)]
  simp
  omega
def nums (acc : L8) : List Int := acc.map (fun c => (c.toNat : Int))
theorem nums_snoc (acc : L8) (c : UInt8) : nums (acc ++ [c]) = nums acc ++ [(c.toNat : Int)] := by simp [nums]
theorem nums_len (acc : L8) : (nums acc).length = acc.length := by simp [nums]
theorem str_nums (acc : L8) : strOfNums (nums acc) = ofL acc := by
  unfold strOfNums nums ofL
  congr 2
  rw [List.map_map]
  conv => rhs; rw [← List.map_id acc]
  apply List.map_congr_left
  intro c _
  simp
theorem bt_nat (s : ByteArray) (i : Nat) (h : i < s.size) : bt s (i : Int) = ((s[i]'h).toNat : Int) := by
  rw [← bt_at s (i : Int) (by simpa using h)]; rfl
theorem itself_f (c : UInt8) : racewayref26_itself.f (c.toNat : Int) = some (decide (0 ≤ indexByte letL c)) := by
  unfold racewayref26_itself.f
  have := c.toNat_lt
  rw [if_pos (by omega), idx_nat]
def unR (s : ByteArray) (i : Nat) (acc : L8) : ByteArray × Int × Int := (ofL (un (s.data.toList.drop i) i acc).1, ((un (s.data.toList.drop i) i acc).2.1 : Int), ((un (s.data.toList.drop i) i acc).2.2 : Int))
theorem refUn (s : ByteArray) (hs : s.size ≤ 100000) : ∀ (d i k : Nat) (acc : L8), s.size - i ≤ d → i ≤ s.size → acc.length ≤ i → 2 * d + 12 ≤ k → racewayref26_Unescape.l0 k s (nums acc) (i : Int) = some (unR s i acc) := by
  intro d
  induction d with
  | zero =>
    intro i k acc h1 h2 h3 hk
    obtain ⟨k, rfl⟩ : ∃ m, k = m + 1 := ⟨k - 1, by omega⟩
    simp only [racewayref26_Unescape.l0]
    unfold unR
    rw [if_neg (by omega), List.drop_eq_nil_of_le (by rw [size_list]; omega), un, str_nums]
    rfl
  | succ d ih =>
    intro i k acc h1 h2 h3 hk
    by_cases hlt : i < s.size
    · obtain ⟨k, rfl⟩ : ∃ m, k = m + 1 := ⟨k - 1, by omega⟩
      have w1 : wrap64 ((i : Int) + 1) = ((i + 1 : Nat) : Int) := wrapU (by omega) (by omega)
      have w2 : wrap64 ((i : Int) + 2) = ((i + 2 : Nat) : Int) := wrapU (by omega) (by omega)
      have w3 : wrap64 ((i : Int) + 3) = ((i + 3 : Nat) : Int) := wrapU (by omega) (by omega)
      simp only [racewayref26_Unescape.l0]
      rw [w1, w2]
      rw [if_pos (by omega), if_pos (by omega), bt_nat s i hlt]
      have hd := drop_at s i hlt
      unfold unR
      rw [hd]
      generalize s[i]'hlt = c at hd
      by_cases h37 : c = 37
      · subst h37
        rw [if_pos (by rfl)]
        obtain ⟨k, rfl⟩ : ∃ m, k = m + 1 := ⟨k - 1, by omega⟩
        by_cases hsh : s.size ≤ i + 2
        · rw [if_pos (by omega), un_short _ _ _ (by rw [List.length_drop, size_list]; omega)]
          simp only [racewayref26_Unescape.j1]
          rw [if_pos trivial]; rfl
        · rw [if_neg (by omega), if_pos (by omega), if_pos (by omega), bt_nat s (i + 1) (by omega), hexR_f _ (by omega), drop_at s (i + 1) (by omega), drop_at s (i + 2) (by omega)]
          simp only [Option.bind_some]
          generalize ha : s[i + 1]'(by omega) = a
          generalize hb : s[i + 2]'(by omega) = b
          by_cases na : hexR a < 0
          · rw [if_pos na, un_hexbad _ _ _ _ _ (fun h => (hexR_neg a).1 na h.1)]
            simp only [racewayref26_Unescape.j1]
            rw [if_pos trivial]; rfl
          · rw [if_neg na, if_pos (by omega), if_pos (by omega), bt_nat s (i + 2) (by omega), hb, hexR_f _ (by omega)]
            simp only [Option.bind_some]
            by_cases nb : hexR b < 0
            · rw [un_hexbad _ _ _ _ _ (fun h => (hexR_neg b).1 nb h.2)]
              simp only [racewayref26_Unescape.j1]
              rw [if_pos (decide_eq_true nb)]; rfl
            · have pa : 0 ≤ hexI a := Classical.byContradiction fun h => na ((hexR_neg a).2 h)
              have pb : 0 ≤ hexI b := Classical.byContradiction fun h => nb ((hexR_neg b).2 h)
              rw [un_hex _ _ _ _ _ pa pb]
              simp only [racewayref26_Unescape.j1]
              rw [if_neg (by simpa using nb), w1, w2, w3, if_pos (by omega), if_pos (by omega), bt_nat s (i + 1) (by omega), ha, hexR_f _ (by omega)]
              simp only [Option.bind_some]
              rw [if_pos (by omega), if_pos (by omega), bt_nat s (i + 2) (by omega), hb, hexR_f _ (by omega)]
              simp only [Option.bind_some]
              rw [if_pos (by rw [nums_len]; omega), hexR_two a b pa pb, ← nums_snoc]
              exact ih (i + 3) k _ (by omega) (by omega) (by simp; omega) (by omega)
      · rw [if_neg (by intro h; exact h37 (UInt8.toNat_inj.1 (by show _ = 37; omega)))]
        by_cases h43 : c = 43
        · subst h43
          rw [if_pos (by rfl), if_pos (by rw [nums_len]; omega), un_plus, show nums acc ++ [(32 : Int)] = nums (acc ++ [32]) from (nums_snoc acc 32).symm]
          exact ih (i + 1) k _ (by omega) (by omega) (by simp; omega) (by omega)
        · rw [if_neg (by intro h; exact h43 (UInt8.toNat_inj.1 (by show _ = 43; omega))), itself_f]
          simp only [Option.bind_some]
          by_cases hl : 0 ≤ indexByte letL c
          · rw [if_pos (decide_eq_true hl), if_pos (by rw [nums_len]; omega), un_let _ _ _ _ h43 h37 hl, ← nums_snoc]
            exact ih (i + 1) k _ (by omega) (by omega) (by simp; omega) (by omega)
          · rw [if_neg (by simpa using hl), un_bad _ _ _ _ h43 h37 hl]; rfl
    · obtain rfl : i = s.size := by omega
      obtain ⟨k, rfl⟩ : ∃ m, k = m + 1 := ⟨k - 1, by omega⟩
      simp only [racewayref26_Unescape.l0]
      unfold unR
      rw [if_neg (by omega), List.drop_eq_nil_of_le (by rw [size_list]; omega), un, str_nums]
      rfl
theorem refUn_f (s : ByteArray) (hs : s.size ≤ 100000) {k : Nat} (hk : 2 * s.size + 12 ≤ k) : racewayref26_Unescape.f k s = some (ofL (un s.data.toList 0 []).1, ((un s.data.toList 0 []).2.1 : Int), ((un s.data.toList 0 []).2.2 : Int)) :=
  refUn s hs s.size 0 k [] (by omega) (by omega) (by simp) hk
end Go.Proofs.YtjampnopogdceaaDoor.P

namespace Go.Proofs.YtjampnopogdceaaDoor.P
open Go.RowKit Go.Lib Go.Proofs.YtjampnopogdceaaDoorW.PrintWords Go.Proofs.YtjampnopogdceaaDoorW.PrintLast

/-- what stands ahead of a sign -/
def tw (c : UInt8) : L8 → L8
  | [] => []
  | b :: r => if b = c then [] else b :: tw c r
theorem tw_le (c : UInt8) (l : L8) : (tw c l).length ≤ l.length := by
  induction l with
  | nil => simp [tw]
  | cons b r ih => unfold tw; split <;> simp <;> omega
theorem tw_take (c : UInt8) (l : L8) : l.take (tw c l).length = tw c l := by
  induction l with
  | nil => simp [tw]
  | cons b r ih => unfold tw; split <;> simp [ih]
theorem segs_tw (c : UInt8) (l : L8) : segs c l = tw c l :: (if (tw c l).length < l.length then segs c (l.drop ((tw c l).length + 1)) else []) := by
  induction l with
  | nil => simp [segs, tw]
  | cons b r ih =>
    rw [segs, tw]
    by_cases h : b = c
    · rw [if_pos h, if_pos h]; simp
    · rw [if_neg h, if_neg h, ih]; simp
theorem index_tw (c : UInt8) (l : L8) : index l [c] = if (tw c l).length < l.length then ((tw c l).length : Int) else -1 := by
  induction l with
  | nil => rfl
  | cons b r ih =>
    by_cases h : b = c
    · subst h
      have ht : tw b (b :: r) = [] := by rw [tw, if_pos rfl]
      rw [index_one, if_pos rfl, ht]; simp
    · have ht : tw c (b :: r) = b :: tw c r := by rw [tw, if_neg h]
      rw [index_one, if_neg (fun e => h e.symm), ih, ht]
      by_cases h2 : (tw c r).length < r.length
      · have hn : ¬ (((tw c r).length : Int) == -1) = true := by intro e; have := beq_iff_eq.1 e; omega
        rw [if_pos h2, if_neg hn, if_pos (by simp only [List.length_cons]; omega)]
        simp only [List.length_cons]; omega
      · rw [if_neg h2, if_pos (by decide), if_neg (by simp only [List.length_cons]; omega)]
theorem cut_tw (c : UInt8) (p : L8) : (cut p [c]).1 = tw c p ∧ (cut p [c]).2.1 = p.drop ((tw c p).length + 1) := by
  unfold cut
  rw [index_tw]
  by_cases h : (tw c p).length < p.length
  · rw [if_pos h, if_pos (by omega)]
    simp [tw_take]
  · rw [if_neg h, if_neg (by omega)]
    have hl := tw_le c p
    have e : (tw c p).length = p.length := by omega
    refine ⟨?_, ?_⟩
    · have := tw_take c p
      rw [e, List.take_length] at this
      exact this
    · rw [List.drop_eq_nil_of_le (by omega)]
theorem ext_list (s : ByteArray) (i j : Nat) : s.extract i j = ofL ((s.data.toList.drop i).take (j - i)) := by
  rw [← Lib.mk_data (s.extract i j), Lib.extract_data]; rfl
theorem evUn (t : L8) (h : t.length ≤ 100000) : Ev (fun k => racewayref26_Unescape.f k (ofL t)) (ofL (un t 0 []).1, ((un t 0 []).2.1 : Int), ((un t 0 []).2.2 : Int)) := by
  refine ⟨2 * t.length + 12, fun k hk => ?_⟩
  have hs : (ofL t).size = t.length := by rw [← size_list, ofL_list]
  show racewayref26_Unescape.f k (ofL t) = _
  rw [refUn_f (ofL t) (by omega) (by omega), ofL_list]
section
variable (s : ByteArray) (hs : s.size ≤ 65536)
include hs
theorem evL1 (out : List S45) (fr : Nat) (r : List S45 × Int × Int) : ∀ (d e : Nat), s.size - e ≤ d → e ≤ s.size → Ev (fun k => racewayref26_Parse.j3 k s out (fr : Int) ((e + (tw 38 (s.data.toList.drop e)).length : Nat) : Int)) r → Ev (fun k => racewayref26_Parse.l1 k s out (fr : Int) (e : Int)) r := by
  intro d
  induction d with
  | zero =>
    intro e h1 h2 hj
    rw [List.drop_eq_nil_of_le (by rw [size_list]; omega)] at hj
    refine Ev.step (f := fun k => racewayref26_Parse.j3 k s out (fr : Int) (e : Int)) (fun k => ?_) hj
    simp only [racewayref26_Parse.l1]
    rw [if_neg (by omega)]
  | succ d ih =>
    intro e h1 h2 hj
    by_cases hlt : e < s.size
    · rw [drop_at s e hlt, tw] at hj
      by_cases h38 : s[e]'hlt = 38
      · rw [if_pos h38] at hj
        refine Ev.step (f := fun k => racewayref26_Parse.j3 k s out (fr : Int) (e : Int)) (fun k => ?_) hj
        simp only [racewayref26_Parse.l1]
        rw [if_pos (by omega), if_pos (by omega), bt_nat s e hlt, if_pos (by rw [h38]; rfl)]
      · rw [if_neg h38] at hj
        have w1 : wrap64 ((e : Int) + 1) = ((e + 1 : Nat) : Int) := wrapU (by omega) (by omega)
        refine Ev.step (f := fun k => racewayref26_Parse.l1 k s out (fr : Int) ((e + 1 : Nat) : Int)) (fun k => ?_) (ih (e + 1) (by omega) (by omega) ?_)
        · simp only [racewayref26_Parse.l1]
          rw [if_pos (by omega), if_pos (by omega), bt_nat s e hlt, if_neg (fun h => h38 (UInt8.toNat_inj.1 (by show _ = 38; omega))), w1]
        · rw [show e + 1 + (tw 38 (s.data.toList.drop (e + 1))).length = e + (s[e]'hlt :: tw 38 (s.data.toList.drop (e + 1))).length by simp; omega]
          exact hj
    · have he : e = s.size := by omega
      rw [List.drop_eq_nil_of_le (by rw [size_list]; omega)] at hj
      refine Ev.step (f := fun k => racewayref26_Parse.j3 k s out (fr : Int) (e : Int)) (fun k => ?_) hj
      simp only [racewayref26_Parse.l1]
      rw [if_neg (by omega)]
theorem evL2 (out : List S45) (fr en : Nat) (hen : en ≤ s.size) (r : List S45 × Int × Int) : ∀ (d m : Nat), en - m ≤ d → m ≤ en → Ev (fun k => racewayref26_Parse.j5 k s out (fr : Int) (en : Int) ((m + (tw 61 ((s.data.toList.drop m).take (en - m))).length : Nat) : Int)) r → Ev (fun k => racewayref26_Parse.l2 k s out (fr : Int) (en : Int) (m : Int)) r := by
  intro d
  induction d with
  | zero =>
    intro m h1 h2 hj
    rw [show en - m = 0 by omega, List.take_zero] at hj
    refine Ev.step (f := fun k => racewayref26_Parse.j5 k s out (fr : Int) (en : Int) (m : Int)) (fun k => ?_) hj
    simp only [racewayref26_Parse.l2]
    rw [if_neg (by omega)]
  | succ d ih =>
    intro m h1 h2 hj
    by_cases hlt : m < en
    · rw [drop_at s m (by omega), show en - m = (en - (m + 1)) + 1 by omega, List.take_succ_cons, tw] at hj
      by_cases h61 : s[m]'(by omega) = 61
      · rw [if_pos h61] at hj
        refine Ev.step (f := fun k => racewayref26_Parse.j5 k s out (fr : Int) (en : Int) (m : Int)) (fun k => ?_) hj
        simp only [racewayref26_Parse.l2]
        rw [if_pos (by omega), if_pos (by omega), if_pos (by omega), bt_nat s m (by omega), if_pos (by rw [h61]; rfl)]
      · rw [if_neg h61] at hj
        have w1 : wrap64 ((m : Int) + 1) = ((m + 1 : Nat) : Int) := wrapU (by omega) (by omega)
        refine Ev.step (f := fun k => racewayref26_Parse.l2 k s out (fr : Int) (en : Int) ((m + 1 : Nat) : Int)) (fun k => ?_) (ih (m + 1) (by omega) (by omega) ?_)
        · simp only [racewayref26_Parse.l2]
          rw [if_pos (by omega), if_pos (by omega), if_pos (by omega), bt_nat s m (by omega), if_neg (fun h => h61 (UInt8.toNat_inj.1 (by show _ = 61; omega))), w1]
        · rw [show m + 1 + (tw 61 ((s.data.toList.drop (m + 1)).take (en - (m + 1)))).length = m + (s[m]'(by omega) :: tw 61 ((s.data.toList.drop (m + 1)).take (en - (m + 1)))).length by simp; omega]
          exact hj
    · rw [show en - m = 0 by omega, List.take_zero] at hj
      refine Ev.step (f := fun k => racewayref26_Parse.j5 k s out (fr : Int) (en : Int) (m : Int)) (fun k => ?_) hj
      simp only [racewayref26_Parse.l2]
      rw [if_neg (by omega)]
end
def parR (l : List L8) (at_ : Nat) (out : List Pr) : List S45 × Int × Int := ((parseGo l at_ out).1.map toS, ((parseGo l at_ out).2.1 : Int), ((parseGo l at_ out).2.2 : Int))
theorem evEnd (s : ByteArray) (out : List Pr) (fr : Nat) (h : s.size < fr) : Ev (fun k => racewayref26_Parse.l0 k s (out.map toS) (fr : Int)) (parR [] fr out) := by
  refine Ev.step (f := fun k => racewayref26_Parse.j1 k s (out.map toS) (fr : Int) false) (fun k => ?_) (Ev.step (f := fun _ => some (parR [] fr out)) (fun k => ?_) (Ev.now _))
  · simp only [racewayref26_Parse.l0]
    rw [if_neg (by omega)]
  · simp only [racewayref26_Parse.j1]
    rw [if_neg (by decide)]; rfl
theorem evParse (s : ByteArray) (hs : s.size ≤ 65536) (h0 : 0 < s.size) : ∀ (d fr : Nat) (out : List Pr), s.size - fr < d → fr ≤ s.size → out.length ≤ 1024 → Ev (fun k => racewayref26_Parse.l0 k s (out.map toS) (fr : Int)) (parR (segs 38 (s.data.toList.drop fr)) fr out) := by
  intro d
  induction d with
  | zero => intro fr out h; omega
  | succ d ih =>
    intro fr out h1 h2 h3
    have hl := size_list s
    rw [segs_tw]
    have hp := tw_take 38 (s.data.toList.drop fr)
    have hple := tw_le 38 (s.data.toList.drop fr)
    rw [List.length_drop, hl] at hple
    have hev := evL1 s hs (out.map toS) fr
    generalize hpp : tw 38 (s.data.toList.drop fr) = p at hp hple
    rw [List.length_drop, hl]
    refine Ev.step (f := fun k => racewayref26_Parse.j1 k s (out.map toS) (fr : Int) true) (fun k => ?_) ?_
    · simp only [racewayref26_Parse.l0]
      rw [if_pos (by omega), decide_eq_true (by omega)]
    · by_cases hF : out.length = 1024
      · refine Ev.step (f := fun _ => some (parR (p :: (if p.length < s.size - fr then segs 38 ((s.data.toList.drop fr).drop (p.length + 1)) else [])) fr out)) (fun k => ?_) (Ev.now _)
        simp only [racewayref26_Parse.j1]
        unfold parR
        rw [if_pos trivial, if_pos (by rw [List.length_map, hF]; rfl), parseGo, if_pos hF]; rfl
      · refine Ev.step (f := fun k => racewayref26_Parse.l1 k s (out.map toS) (fr : Int) (fr : Int)) (fun k => ?_) ?_
        · simp only [racewayref26_Parse.j1]
          rw [if_pos trivial, if_neg (by rw [List.length_map]; omega)]
        · refine hev _ s.size fr (by omega) h2 ?_
          rw [hpp]
          obtain ⟨en, hen⟩ : ∃ en, en = fr + p.length := ⟨_, rfl⟩
          rw [← hen]
          refine Ev.step (f := fun k => racewayref26_Parse.l2 k s (out.map toS) (fr : Int) (en : Int) (fr : Int)) (fun k => by simp only [racewayref26_Parse.j3]) ?_
          refine evL2 s hs _ fr en (by omega) _ en fr (by omega) (by omega) ?_
          rw [show en - fr = p.length by omega, hp]
          have hct := cut_tw 61 p
          have htl := tw_le 61 p
          have htt := tw_take 61 p
          have W1 := Aside0.mk (show wrap64 (((fr + (tw 61 p).length : Nat) : Int) + 1) = ((fr + (tw 61 p).length + 1 : Nat) : Int) from wrapU (by omega) (by omega))
          have W2 := Aside0.mk (show wrap64 ((en : Int) + 1) = ((en + 1 : Nat) : Int) from wrapU (by omega) (by omega))
          have q1 : (s.data.toList.drop fr).take (tw 61 p).length = tw 61 p := by
            have q0 : ((s.data.toList.drop fr).take p.length).take (tw 61 p).length = (s.data.toList.drop fr).take (tw 61 p).length := by rw [List.take_take, Nat.min_eq_left htl]
            rw [hp] at q0
            exact q0.symm.trans htt
          have q2 : ((s.data.toList.drop fr).take p.length).drop ((tw 61 p).length + 1) = p.drop ((tw 61 p).length + 1) := by rw [hp]
          rw [List.drop_take, List.drop_drop] at q2
          have x1 : s.extract (fr : Int).toNat ((fr + (tw 61 p).length : Nat) : Int).toNat = ofL (tw 61 p) := by
            rw [Int.toNat_natCast, Int.toNat_natCast, ext_list, show fr + (tw 61 p).length - fr = (tw 61 p).length by omega, q1]
          have x2 : s.extract ((fr + (tw 61 p).length + 1 : Nat) : Int).toNat (en : Int).toNat = ofL (p.drop ((tw 61 p).length + 1)) := by
            rw [Int.toNat_natCast, Int.toNat_natCast, ext_list, show en - (fr + (tw 61 p).length + 1) = p.length - ((tw 61 p).length + 1) by omega, show fr + (tw 61 p).length + 1 = fr + ((tw 61 p).length + 1) by omega, q2]
          clear q1 q2
          unfold parR
          rw [parseGo, if_neg hF, hct.1, hct.2]
          have e1 := evUn (tw 61 p) (by omega)
          have e2 := evUn (p.drop ((tw 61 p).length + 1)) (by rw [List.length_drop]; omega)
          have u1 := un_code (tw 61 p) _ (Nat.le_refl _) 0 []
          have u2 := un_code (p.drop ((tw 61 p).length + 1)) _ (Nat.le_refl _) 0 []
          obtain ⟨a1, b1, c1, hu1⟩ : ∃ a b c, un (tw 61 p) 0 [] = (a, b, c) := ⟨_, _, _, rfl⟩
          obtain ⟨a2, b2, c2, hu2⟩ : ∃ a b c, un (p.drop ((tw 61 p).length + 1)) 0 [] = (a, b, c) := ⟨_, _, _, rfl⟩
          rw [hu1] at e1 u1 ⊢
          rw [hu2] at e2 u2 ⊢
          dsimp only at e1 e2 u1 u2 ⊢
          have hrest : c1 = 0 → c2 = 0 → Ev (fun k => racewayref26_Parse.l0 k s (out.map toS ++ [(⟨ofL a1, ofL a2⟩ : S45)]) (wrap64 ((en : Int) + 1))) (parR (if p.length < s.size - fr then segs 38 ((s.data.toList.drop fr).drop (p.length + 1)) else []) (fr + p.length + 1) (out ++ [(a1, a2)])) := by
            intro _ _
            rw [W2.out, show out.map toS ++ [(⟨ofL a1, ofL a2⟩ : S45)] = (out ++ [(a1, a2)]).map toS by simp [toS], hen]
            by_cases hm : p.length < s.size - fr
            · rw [if_pos hm, List.drop_drop, show fr + (p.length + 1) = fr + p.length + 1 by omega]
              exact ih (fr + p.length + 1) _ (by omega) (by omega) (by simp; omega)
            · rw [if_neg hm]
              exact evEnd s _ _ (by omega)
          refine Ev.step (f := fun k => (racewayref26_Unescape.f k (ofL (tw 61 p))).bind fun bt223 => (if bt223.2.2 = 0 then (if (tw 61 p).length < p.length then ((racewayref26_Unescape.f k (ofL (p.drop ((tw 61 p).length + 1)))).bind fun bt226 => (if bt226.2.2 = 0 then racewayref26_Parse.l0 k s (out.map toS ++ [(⟨bt223.1, bt226.1⟩ : S45)]) (wrap64 ((en : Int) + 1)) else some (([] : List S45), wrap64 (((fr + (tw 61 p).length + 1 : Nat) : Int) + bt226.2.1), bt226.2.2))) else racewayref26_Parse.l0 k s (out.map toS ++ [(⟨bt223.1, (⟨#[]⟩ : ByteArray)⟩ : S45)]) (wrap64 ((en : Int) + 1))) else some (([] : List S45), wrap64 ((fr : Int) + bt223.2.1), bt223.2.2))) (fun k => ?_) ?_
          · simp only [racewayref26_Parse.j5]
            rw [if_pos (by omega), if_pos (by omega), if_pos (by omega), x1]
            congr 1
            funext bt
            by_cases hz : bt.2.2 = 0
            · rw [if_pos hz, if_pos hz]
              by_cases hm : (tw 61 p).length < p.length
              · rw [if_pos (show (((fr + (tw 61 p).length : Nat) : Int) < (en : Int)) by omega), if_pos hm, W1.out, if_pos (by omega), if_pos (by omega), if_pos (by omega), x2]
                congr 1
                funext bt2
                by_cases hz2 : bt2.2.2 = 0
                · rw [if_pos hz2, if_pos hz2, if_pos (by rw [List.length_map]; omega)]
                · rw [if_neg hz2, if_neg hz2]
              · rw [if_neg (show ¬ (((fr + (tw 61 p).length : Nat) : Int) < (en : Int)) by omega), if_neg hm, if_pos (by rw [List.length_map]; omega)]
            · rw [if_neg hz, if_neg hz]
          · refine Ev.bind e1 ?_
            rcases u1 with ⟨rfl, rfl⟩ | ⟨rfl, rfl, hb1⟩
            · rw [if_neg (by simp)]
              refine Ev.congr (f := fun k => if (tw 61 p).length < p.length then ((racewayref26_Unescape.f k (ofL (p.drop ((tw 61 p).length + 1)))).bind fun bt226 => (if bt226.2.2 = 0 then racewayref26_Parse.l0 k s (out.map toS ++ [(⟨ofL a1, bt226.1⟩ : S45)]) (wrap64 ((en : Int) + 1)) else some (([] : List S45), wrap64 (((fr + (tw 61 p).length + 1 : Nat) : Int) + bt226.2.1), bt226.2.2))) else racewayref26_Parse.l0 k s (out.map toS ++ [(⟨ofL a1, (⟨#[]⟩ : ByteArray)⟩ : S45)]) (wrap64 ((en : Int) + 1))) (fun k => by rw [if_pos (by rfl)]) ?_
              by_cases hm : (tw 61 p).length < p.length
              · refine Ev.congr (f := fun k => (racewayref26_Unescape.f k (ofL (p.drop ((tw 61 p).length + 1)))).bind fun bt226 => (if bt226.2.2 = 0 then racewayref26_Parse.l0 k s (out.map toS ++ [(⟨ofL a1, bt226.1⟩ : S45)]) (wrap64 ((en : Int) + 1)) else some (([] : List S45), wrap64 (((fr + (tw 61 p).length + 1 : Nat) : Int) + bt226.2.1), bt226.2.2))) (fun k => by rw [if_pos hm]) ?_
                refine Ev.bind e2 ?_
                rcases u2 with ⟨rfl, rfl⟩ | ⟨rfl, rfl, hb2⟩
                · rw [if_neg (by simp)]
                  exact Ev.congr (fun k => by rw [if_pos (by rfl)]) (hrest rfl rfl)
                · rw [if_pos (by decide)]
                  refine Ev.congr (f := fun _ => some (([] : List S45), ((fr + (tw 61 p).length + 1 + b2 : Nat) : Int), (5 : Int))) (fun k => ?_) (Ev.now _)
                  rw [List.length_drop] at hb2
                  show (if ((5 : Nat) : Int) = 0 then _ else some (([] : List S45), wrap64 (((fr + (tw 61 p).length + 1 : Nat) : Int) + (b2 : Int)), ((5 : Nat) : Int))) = _
                  rw [if_neg (by decide), wrapU (by omega) (by omega)]; rfl
              · have hd : p.drop ((tw 61 p).length + 1) = [] := List.drop_eq_nil_of_le (by omega)
                rw [hd, un] at hu2
                obtain ⟨rfl, rfl, rfl⟩ : ([] : L8) = a2 ∧ (0 : Nat) = b2 ∧ (0 : Nat) = c2 := by simpa using hu2
                rw [if_neg (by simp)]
                exact Ev.congr (fun k => by rw [if_neg hm]; rfl) (hrest rfl rfl)
            · rw [if_pos (by decide)]
              refine Ev.congr (f := fun _ => some (([] : List S45), ((fr + b1 : Nat) : Int), (5 : Int))) (fun k => ?_) (Ev.now _)
              show (if ((5 : Nat) : Int) = 0 then _ else some (([] : List S45), wrap64 ((fr : Int) + (b1 : Int)), ((5 : Nat) : Int))) = _
              rw [if_neg (by decide), wrapU (by omega) (by omega)]; rfl
theorem refParse (l : L8) (hl : l.length ≤ 65536) : Ev (fun k => racewayref26_Parse.f k (ofL l)) ((parse l).1.map toS, ((parse l).2.1 : Int), ((parse l).2.2 : Int)) := by
  have hs : (ofL l).size = l.length := by rw [← size_list, ofL_list]
  refine Ev.congr (f := fun k => racewayref26_Parse.l0 k (ofL l) ([] : List S45) 0) (fun k => ?_) ?_
  · unfold racewayref26_Parse.f
    rw [if_neg (by omega)]
  · by_cases h0 : l = []
    · subst h0
      have hp : parse [] = ([], 0, 0) := rfl
      rw [hp]
      refine Ev.step (f := fun k => racewayref26_Parse.j1 k (ofL []) ([] : List S45) 0 false) (fun k => ?_) (Ev.step (f := fun _ => some (([] : List S45), (0 : Int), (0 : Int))) (fun k => ?_) (Ev.now _))
      · simp only [racewayref26_Parse.l0]
        rw [if_pos (by omega), decide_eq_false (by rw [hs]; decide)]
      · simp only [racewayref26_Parse.j1]
        rw [if_neg (by decide)]
    · have hpos : 0 < l.length := by
        cases l with
        | nil => exact absurd rfl h0
        | cons _ _ => simp
      have := evParse (ofL l) (by omega) (by omega) (l.length + 1) 0 [] (by omega) (by omega) (by simp)
      rw [ofL_list, List.drop_zero] at this
      unfold parse
      rw [if_neg (by omega), if_neg h0]
      exact this
end Go.Proofs.YtjampnopogdceaaDoor.P

namespace Go.Proofs.YtjampnopogdceaaDoor.P
open Go.RowKit Go.Lib Go.Proofs.YtjampnopogdceaaDoorW.PrintWords Go.Proofs.YtjampnopogdceaaDoorW.PrintLast

def shortP (m : List Pr) : Prop := m.length ≤ 1030 ∧ ∀ p ∈ m, p.1.length ≤ 100 ∧ p.2.length ≤ 100
theorem rdS (l : List S45) (i : Nat) (h : i < l.length) : rd_T45 l (i : Int) = l[i]'h := by unfold rd_T45; simp [h]
theorem few_loop (l : List S45) : ∀ (d i : Nat) (m : List Pr), min l.length 1030 - i ≤ d → i ≤ min l.length 1030 → m.length = i → (∀ p ∈ m, p.1.length ≤ 100 ∧ p.2.length ≤ 100) →
    ∃ m', shortP m' ∧ Ev (fun k => racewaylaw26_few.l0 k l (m.map toS) (i : Int)) (m'.map toS) := by
  intro d
  induction d with
  | zero =>
    intro i m h1 h2 h3 h4
    refine ⟨m, ⟨by omega, h4⟩, Ev.step (f := fun _ => some (m.map toS)) (fun k => ?_) (Ev.now _)⟩
    simp only [racewaylaw26_few.l0]
    by_cases hl : i < l.length
    · rw [if_pos (by omega), if_neg (by omega)]
    · rw [if_neg (by omega)]
  | succ d ih =>
    intro i m h1 h2 h3 h4
    by_cases hlt : i < min l.length 1030
    · have hi : i < l.length := by omega
      obtain ⟨a, ea, la, _⟩ := cutTo (l[i]'hi).f0 100
      obtain ⟨b, eb, lb, _⟩ := cutTo (l[i]'hi).f1 100
      have m0 := mn_ok (l[i]'hi).f0 100
      have m1 := mn_ok (l[i]'hi).f1 100
      rw [show ((100 : Nat) : Int) = 100 from rfl] at ea eb m0 m1
      obtain ⟨m', hm, hev⟩ := ih (i + 1) (m ++ [(a, b)]) (by omega) (by omega) (by simp; omega) (fun p hp => by
        rcases List.mem_append.1 hp with hp | hp
        · exact h4 p hp
        · rw [List.mem_singleton.1 hp]; exact ⟨la, lb⟩)
      refine ⟨m', hm, Ev.step (f := fun k => racewaylaw26_few.l0 k l ((m ++ [(a, b)]).map toS) ((i + 1 : Nat) : Int)) (fun k => ?_) hev⟩
      have w1 : wrap64 ((i : Int) + 1) = ((i + 1 : Nat) : Int) := wrapU (by omega) (by omega)
      have e : (m ++ [(a, b)]).map toS = m.map toS ++ [(⟨ofL a, ofL b⟩ : S45)] := by simp [toS]
      simp only [racewaylaw26_few.l0]
      rw [rdS l i hi, w1, e]
      clear w1
      rw [if_pos (by omega), if_pos (by omega), if_pos (by omega), if_pos m0.1, if_pos m0.2, if_pos m1.1, if_pos m1.2, if_pos (by rw [List.length_map]; omega), ea, eb]
    · refine ⟨m, ⟨by omega, h4⟩, Ev.step (f := fun _ => some (m.map toS)) (fun k => ?_) (Ev.now _)⟩
      simp only [racewaylaw26_few.l0]
      by_cases hl : i < l.length
      · rw [if_pos (by omega), if_neg (by omega)]
      · rw [if_neg (by omega)]
theorem few_ev (l : List S45) : ∃ m, shortP m ∧ Ev (fun k => racewaylaw26_few.f k l) (m.map toS) :=
  few_loop l (min l.length 1030) 0 [] (by omega) (by omega) rfl (by simp)

theorem join_snoc (xs : List L8) (y : L8) (h : xs ≠ []) : join (xs ++ [y]) [38] = join xs [38] ++ 38 :: y := by
  cases xs with
  | nil => exact absurd rfl h
  | cons x r =>
    rw [List.cons_append, join_cons, join_cons]
    simp [joinTail]
theorem printL_snoc (m : List Pr) (p : Pr) (h : m ≠ []) : printL (m ++ [p]) = printL m ++ 38 :: printP p := by
  unfold printL
  rw [List.map_append]
  exact join_snoc _ _ (by simpa using h)
theorem printP_len (p : Pr) (h : p.1.length ≤ 100 ∧ p.2.length ≤ 100) : (printP p).length ≤ 601 := by
  unfold printP
  have h1 := esc_le p.1
  have h2 := esc_le p.2
  rw [List.length_append, List.length_cons]; omega
theorem printL_len (m : List Pr) (h : ∀ p ∈ m, p.1.length ≤ 100 ∧ p.2.length ≤ 100) : (printL m).length ≤ 602 * m.length := by
  induction m with
  | nil => simp [printL, join_nil]
  | cons p m ih =>
    have hp := printP_len p (h p (by simp))
    have hm := ih (fun q hq => h q (List.mem_cons_of_mem _ hq))
    cases m with
    | nil =>
      have e : printL [p] = printP p := by unfold printL; rw [List.map_cons, List.map_nil, join_one]
      rw [e, List.length_singleton]; omega
    | cons q m =>
      have e : printL (p :: q :: m) = printP p ++ 38 :: printL (q :: m) := by
        unfold printL
        rw [List.map_cons, List.map_cons, join_cons, join_cons]; simp [joinTail]
      rw [e, List.length_append, List.length_cons]
      simp only [List.length_cons] at hm ⊢
      omega
theorem escF (a : L8) (h : a.length ≤ 100) : urlform_Escape.f (ofL a) = some (ofL (esc a)) := by
  unfold urlform_Escape.f
  rw [if_pos (by rw [ofL_size]; omega), ofL_list]
theorem escR (a : L8) (h : a.length ≤ 100) : racewayref26_Escape.f (ofL a) = some (ofL (esc a)) := by
  unfold racewayref26_Escape.f
  rw [if_pos (by rw [ofL_size]; omega), ofL_list]
def printR (m : List Pr) : ByteArray × Int := if 1024 < m.length then (ofL [], 7) else (ofL (printL m), 0)
theorem print_loop (m : List Pr) (hm : shortP m) : ∀ (d i : Nat), m.length - i ≤ d → i ≤ m.length → Ev (fun k => urlform_Print.l0 k ((m.take i).map (fun p => ofL (printP p))) (m.map toS) (m.length : Int) (i : Int)) (ofL (printL m), 0) := by
  have fin : ∀ i, m.length ≤ i → Ev (fun k => urlform_Print.l0 k ((m.take i).map (fun p => ofL (printP p))) (m.map toS) (m.length : Int) (i : Int)) (ofL (printL m), 0) := by
    intro i h1
    refine Ev.step (f := fun _ => some (ofL (printL m), (0 : Int))) (fun k => ?_) (Ev.now _)
    simp only [urlform_Print.l0]
    have e : (m.map (fun p => ofL (printP p))).map (·.data.toList) = m.map printP := by
      rw [List.map_map]; exact List.map_congr_left (fun p _ => ofL_list _)
    have hl := printL_len m hm.2
    have h30 := hm.1
    rw [if_neg (by omega), List.take_of_length_le h1]
    unfold strings_Join.f
    rw [e, show (⟨#[38]⟩ : ByteArray).data.toList = [38] from rfl, if_pos ⟨by rw [List.length_map]; omega, by show (printL m).length ≤ _; omega⟩]
    rfl
  intro d
  induction d with
  | zero => intro i h1 h2; exact fin i (by omega)
  | succ d ih =>
    intro i h1 h2
    by_cases hlt : i < m.length
    · have w1 : wrap64 ((i : Int) + 1) = ((i + 1 : Nat) : Int) := wrapU (by have := hm.1; omega) (by have := hm.1; omega)
      refine Ev.step (f := fun k => urlform_Print.l0 k ((m.take (i + 1)).map (fun p => ofL (printP p))) (m.map toS) (m.length : Int) ((i + 1 : Nat) : Int)) (fun k => ?_) (ih (i + 1) (by omega) (by omega))
      have hs := hm.2 _ (List.getElem_mem hlt)
      have h30 := hm.1
      have hr : rd_T45 (m.map toS) (i : Int) = toS (m[i]'hlt) := by rw [rdS _ i (by simpa using hlt)]; simp
      have ht : (m.take (i + 1)).map (fun p => ofL (printP p)) = (m.take i).map (fun p => ofL (printP p)) ++ [ofL (printP (m[i]'hlt))] := by
        rw [List.take_succ_eq_append_getElem hlt, List.map_append]; rfl
      have hpl := printP_len _ hs
      simp only [urlform_Print.l0]
      rw [hr, w1, ht]
      clear w1
      generalize m[i]'hlt = p at hs hpl
      have hpe : printP p = esc p.1 ++ 61 :: esc p.2 := rfl
      have he : ofL (esc p.1) ++ (⟨#[61]⟩ : ByteArray) = ofL (esc p.1 ++ [61]) := ofL_app _ [61]
      have he2 : ofL (esc p.1 ++ [61]) ++ ofL (esc p.2) = ofL (printP p) := by rw [ofL_app, List.append_assoc]; rfl
      rw [hpe, List.length_append, List.length_cons] at hpl
      rw [if_pos (by omega), if_pos (by omega), if_pos (by rw [List.length_map]; omega), show (toS p).f0 = ofL p.1 from rfl, show (toS p).f1 = ofL p.2 from rfl, escF _ hs.1]
      simp only [Option.bind_some]
      rw [if_pos (by rw [ofL_size]; omega), escF _ hs.2]
      simp only [Option.bind_some]
      rw [he, if_pos (by rw [ofL_size, ofL_size, List.length_append, List.length_singleton]; omega), if_pos (by rw [List.length_map, List.length_take]; omega), he2]
    · exact fin i (by omega)
theorem print_ev (m : List Pr) (hm : shortP m) : Ev (fun k => urlform_Print.f k (m.map toS)) (printR m) := by
  unfold printR
  by_cases h : 1024 < m.length
  · rw [if_pos h]
    refine Ev.congr (f := fun _ => some (ofL [], (7 : Int))) (fun k => ?_) (Ev.now _)
    unfold urlform_Print.f
    rw [if_pos (by rw [List.length_map]; omega)]; rfl
  · rw [if_neg h]
    refine Ev.congr (f := fun k => urlform_Print.l0 k ((m.take 0).map (fun p => ofL (printP p))) (m.map toS) (m.length : Int) ((0 : Nat) : Int)) (fun k => ?_) (print_loop m hm m.length 0 (by omega) (by omega))
    unfold urlform_Print.f
    rw [if_neg (by rw [List.length_map]; omega), List.length_map, List.take_zero]; rfl
theorem rprint_loop (m : List Pr) (hm : shortP m) : ∀ (d i : Nat), m.length - i ≤ d → i ≤ m.length → Ev (fun k => racewayref26_Print.l0 k (m.map toS) (ofL (printL (m.take i))) (i : Int)) (ofL (printL m), 0) := by
  have fin : ∀ i, m.length ≤ i → Ev (fun k => racewayref26_Print.l0 k (m.map toS) (ofL (printL (m.take i))) (i : Int)) (ofL (printL m), 0) := by
    intro i h1
    refine Ev.step (f := fun _ => some (ofL (printL m), (0 : Int))) (fun k => ?_) (Ev.now _)
    simp only [racewayref26_Print.l0]
    rw [if_neg (by rw [List.length_map]; omega), List.take_of_length_le h1]
  intro d
  induction d with
  | zero => intro i h1 h2; exact fin i (by omega)
  | succ d ih =>
    intro i h1 h2
    by_cases hlt : i < m.length
    · have w1 : wrap64 ((i : Int) + 1) = ((i + 1 : Nat) : Int) := wrapU (by have := hm.1; omega) (by have := hm.1; omega)
      refine Ev.step (f := fun k => racewayref26_Print.l0 k (m.map toS) (ofL (printL (m.take (i + 1)))) ((i + 1 : Nat) : Int)) (fun k => ?_) (ih (i + 1) (by omega) (by omega))
      have hs := hm.2 _ (List.getElem_mem hlt)
      have h30 := hm.1
      have hr : rd_T45 (m.map toS) (i : Int) = toS (m[i]'hlt) := by rw [rdS _ i (by simpa using hlt)]; simp
      have htl := printL_len (m.take i) (fun p hp => hm.2 p (List.mem_of_mem_take hp))
      rw [List.length_take] at htl
      have hpl := printP_len _ hs
      simp only [racewayref26_Print.l0]
      rw [hr, w1, List.take_succ_eq_append_getElem hlt]
      clear w1
      generalize hx : m[i]'hlt = p at hs hpl
      have hpe : printP p = esc p.1 ++ 61 :: esc p.2 := rfl
      rw [hpe, List.length_append, List.length_cons] at hpl
      rw [if_pos (by rw [List.length_map]; omega), show (toS p).f0 = ofL p.1 from rfl, show (toS p).f1 = ofL p.2 from rfl, escR _ hs.1, escR _ hs.2]
      simp only [Option.bind_some]
      by_cases h0 : i = 0
      · subst h0
        rw [List.take_zero, List.nil_append, show printL [p] = printP p by unfold printL; rw [List.map_cons, List.map_nil, join_one], show printL [] = [] from rfl]
        have x1 : ofL [] ++ ofL (esc p.1) = ofL (esc p.1) := by rw [ofL_app]; rfl
        have x2 : ofL (esc p.1) ++ (⟨#[61]⟩ : ByteArray) = ofL (esc p.1 ++ [61]) := ofL_app _ [61]
        have x3 : ofL (esc p.1 ++ [61]) ++ ofL (esc p.2) = ofL (printP p) := by rw [ofL_app, List.append_assoc]; rfl
        rw [if_neg (by omega), if_pos (by omega), if_pos (by rw [ofL_size, ofL_size]; simp; omega), x1, if_pos (by rw [ofL_size]; omega), x2, if_pos (by rw [ofL_size, ofL_size, List.length_append, List.length_singleton]; omega), x3]
      · have hne : m.take i ≠ [] := by intro e; have := congrArg List.length e; rw [List.length_take, List.length_nil] at this; omega
        rw [printL_snoc _ _ hne]
        generalize printL (m.take i) = q at htl
        have x0 : ofL q ++ (⟨#[38]⟩ : ByteArray) = ofL (q ++ [38]) := ofL_app _ [38]
        have x1 : ofL (q ++ [38]) ++ ofL (esc p.1) = ofL (q ++ [38] ++ esc p.1) := ofL_app _ _
        have x2 : ofL (q ++ [38] ++ esc p.1) ++ (⟨#[61]⟩ : ByteArray) = ofL (q ++ [38] ++ esc p.1 ++ [61]) := ofL_app _ [61]
        have x3 : ofL (q ++ [38] ++ esc p.1 ++ [61]) ++ ofL (esc p.2) = ofL (q ++ 38 :: printP p) := by rw [ofL_app, hpe]; simp
        rw [if_pos (by omega), if_pos (by rw [ofL_size]; omega), if_pos (by omega), x0, if_pos (by rw [ofL_size, ofL_size, List.length_append, List.length_singleton]; omega), x1, if_pos (by rw [ofL_size]; simp only [List.length_append, List.length_singleton]; omega), x2, if_pos (by rw [ofL_size, ofL_size]; simp only [List.length_append, List.length_singleton]; omega), x3]
    · exact fin i (by omega)
theorem rprint_ev (m : List Pr) (hm : shortP m) : Ev (fun k => racewayref26_Print.f k (m.map toS)) (printR m) := by
  unfold printR
  by_cases h : 1024 < m.length
  · rw [if_pos h]
    refine Ev.congr (f := fun _ => some (ofL [], (7 : Int))) (fun k => ?_) (Ev.now _)
    unfold racewayref26_Print.f
    rw [if_pos (by rw [List.length_map]; omega)]; rfl
  · rw [if_neg h]
    refine Ev.congr (f := fun k => racewayref26_Print.l0 k (m.map toS) (ofL (printL (m.take 0))) ((0 : Nat) : Int)) (fun k => ?_) (rprint_loop m hm m.length 0 (by omega) (by omega))
    unfold racewayref26_Print.f
    rw [if_neg (by rw [List.length_map]; omega), List.take_zero]; rfl
end Go.Proofs.YtjampnopogdceaaDoor.P

namespace Go.Proofs.YtjampnopogdceaaDoor.Pure
open Go.RowKit Go.Lib Go.Proofs.YtjampnopogdceaaDoor.P Go.Proofs.YtjampnopogdceaaDoorW.PrintWords Go.Proofs.YtjampnopogdceaaDoorW.PrintLast

set_option linter.unusedVariables false
theorem parse_small (l : L8) (h : l.length ≤ 6000) : (parse l).1.length ≤ 1024 := by
  by_cases e : (parse l).2.2 = 0
  · exact parse_len l e
  · have : (parse l).1 = [] := by
      revert e
      unfold parse
      split
      · intro _; rfl
      · split
        · intro _; rfl
        · exact parseGo_bad _ _ _
    rw [this]; simp
theorem same_ev (l : List S45) (h : l.length ≤ 1024) : Ev (fun k => racewayref26_Same.f k l l) true := ⟨2000, fun k hk => same_self l (by omega) (by omega)⟩
theorem works_ev : Ev (fun k => racewaylaw26_works.f k) true := ⟨10, fun k hk => worksAt hk⟩
theorem UrlformForms : racewaylaw26_UrlformForms.Pure := by
  intro a0 l1 h0 h1
  obtain ⟨a, ea, la, _⟩ := cutTo a0 6000
  have m0 := mn_ok a0 6000
  rw [show ((6000 : Nat) : Int) = 6000 from rfl] at ea m0
  obtain ⟨m, hm, hf⟩ := few_ev l1
  refine Ev.rounds ?_
  unfold racewaylaw26_UrlformForms.f
  rw [ea]
  refine Ev.congr (fun k => by rw [if_pos m0.1, if_pos m0.2]) ?_
  refine Ev.bind hf ?_
  refine Ev.congr (fun k => by rw [parseF, Option.bind_some]) ?_
  refine Ev.bind (refParse a (by omega)) ?_
  refine Ev.bind (print_ev m hm) ?_
  refine Ev.bind (rprint_ev m hm) ?_
  refine Ev.bind (same_ev ((parse a).1.map toS) (by rw [List.length_map]; exact parse_small a la)) ?_
  refine Ev.congr (fun k => by rw [if_pos rfl, if_pos rfl, if_pos rfl, if_pos rfl, if_pos rfl]) ?_
  exact Ev.bind works_ev (Ev.now _)

end Go.Proofs.YtjampnopogdceaaDoor.Pure
