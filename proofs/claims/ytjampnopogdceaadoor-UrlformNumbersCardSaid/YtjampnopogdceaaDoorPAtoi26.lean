/- The document's Atoi and Itoa, as the print has them, against the plain 'atoi', for what the numbered names need. No conditions. -/
import Derived.Test.YtjampnopogdceaaDoorP12
import Derived.Test.YtjampnopogdceaaDoorGAtoi
import Derived.Test.YtjampnopogdceaaDoorPSame26
namespace Go.Proofs.YtjampnopogdceaaDoor.P
open Go.RowKit Go.Lib Go.Proofs.YtjampnopogdceaaDoorW.PrintWords Go.Proofs.YtjampnopogdceaaDoorW.PrintLast
set_option linter.unusedVariables false
set_option linter.unusedSimpArgs false

theorem wrapN {x : Int} (h1 : -9223372036854775808 ≤ x) (h2 : x ≤ 9223372036854775807) : wrap64 x = x := by unfold wrap64; omega
/-- a number's digits; none of 0 -/
def digA (n : Nat) : L8 := if h : n = 0 then [] else digA (n / 10) ++ [UInt8.ofNat (48 + n % 10)]
termination_by n
decreasing_by omega
theorem digA_zero : digA 0 = [] := by rw [digA]; simp
theorem digA_snoc (u d : Nat) (hd : d < 10) (h : 10 * u + d ≠ 0) : digA (10 * u + d) = digA u ++ [UInt8.ofNat (48 + d)] := by
  rw [digA, dif_neg h, show (10 * u + d) / 10 = u by omega, show (10 * u + d) % 10 = d by omega]
theorem digA_step (n : Nat) (h : n ≠ 0) : digA n = digA (n / 10) ++ [UInt8.ofNat (48 + n % 10)] := by rw [digA, dif_neg h]
theorem digA_ne (n : Nat) (h : n ≠ 0) : digA n ≠ [] := by rw [digA_step n h]; simp
theorem digA_head : ∀ (f n : Nat), n ≤ f → n ≠ 0 → (digA n).head? ≠ some 48 := by
  intro f
  induction f with
  | zero => intro n h h0; omega
  | succ f ih =>
    intro n h h0
    rw [digA_step n h0]
    by_cases h1 : n / 10 = 0
    · rw [h1, digA_zero, List.nil_append, List.head?_cons]
      intro e
      have e2 : UInt8.ofNat (48 + n % 10) = 48 := Option.some.inj e
      have e3 := congrArg UInt8.toNat e2
      simp at e3
      omega
    · have h2 := ih (n / 10) (by omega) h1
      cases hd : digA (n / 10) with
      | nil => exact absurd hd (digA_ne _ h1)
      | cons x r => rw [hd] at h2; simpa using h2
def dgs (u : Nat) : L8 := if u = 0 then [48] else digA u
theorem atoiGo_ge : ∀ (l : L8) (v u : Nat), atoiGo l v = some u → v ≤ u := by
  intro l
  induction l with
  | nil => intro v u h; rw [atoiGo] at h; cases h; exact Nat.le_refl _
  | cons c r ih =>
    intro v u h
    rw [atoiGo] at h
    split at h
    · cases h
    · have := ih _ _ h; omega
theorem ofNat_dig (c : UInt8) (h : ¬ (c.toNat < 48 ∨ 57 < c.toNat)) : UInt8.ofNat (48 + (c.toNat - 48)) = c := by
  apply UInt8.toNat_inj.1
  have := c.toNat_lt
  simp
  omega
theorem go_digA : ∀ (l : L8) (v u : Nat), v ≠ 0 → atoiGo l v = some u → digA u = digA v ++ l := by
  intro l
  induction l with
  | nil => intro v u _ h; rw [atoiGo] at h; cases h; simp
  | cons c r ih =>
    intro v u hv h
    rw [atoiGo] at h
    split at h
    · cases h
    · rename_i hc
      rw [ih _ _ (by omega) h, digA_snoc v (c.toNat - 48) (by omega) (by omega), ofNat_dig c hc]; simp
/-- a number written as it should be is its digits -/
theorem canon (l : L8) (u : Nat) (h0 : l ≠ []) (h1 : l.head? ≠ some 48) (h : atoiGo l 0 = some u) : u ≠ 0 ∧ dgs u = l := by
  cases l with
  | nil => exact absurd rfl h0
  | cons c r =>
    rw [atoiGo] at h
    split at h
    · cases h
    · rename_i hc
      have hz : c.toNat ≠ 48 := fun e => h1 (by rw [List.head?_cons]; congr 1; exact UInt8.toNat_inj.1 e)
      have hu := atoiGo_ge _ _ _ h
      have hu0 : u ≠ 0 := by omega
      refine ⟨hu0, ?_⟩
      unfold dgs
      rw [if_neg hu0, go_digA _ _ _ (by omega) h, digA_snoc 0 (c.toNat - 48) (by omega) (by omega), ofNat_dig c hc, digA_zero]; simp
/-- the number 1 to 1000 that stands in a text, if one does -/
def dv (l : L8) : Option Nat := if l = [] ∨ 19 < l.length ∨ l.head? = some 48 then none else match atoiGo l 0 with | none => none | some u => if u ≤ 1000 then some u else none
def badN (r : Int × Nat) : Prop := r.2 ≠ 0 ∨ r.1 < 1 ∨ 1000 < r.1
theorem trim_minus (r : L8) : trimPrefix (45 :: r) [45] = r := by rfl
theorem trim_other (l : L8) (h : l.head? ≠ some 45) : trimPrefix l [45] = l := by
  cases l with
  | nil => rfl
  | cons c r =>
    have hc : c ≠ 45 := fun e => h (by rw [e]; rfl)
    simp [trimPrefix, hasPrefix, List.isPrefixOf]
    intro e; exact absurd e.symm hc
theorem atoi_dv (l : L8) : match dv l with | some n => atoi l = ((n : Int), 0) ∧ 1 ≤ n ∧ n ≤ 1000 | none => badN (atoi l) := by
  by_cases hm : l.head? = some 45
  · cases l with
    | nil => cases hm
    | cons c r =>
      have hc : c = 45 := by simpa using hm
      subst hc
      have hdv : dv (45 :: r) = none := by
        unfold dv
        split
        · rfl
        · have : atoiGo (45 :: r) 0 = none := by rw [atoiGo, if_pos (by decide)]
          rw [this]
      rw [hdv]
      show badN (atoi (45 :: r))
      unfold atoi
      rw [trim_minus, decide_eq_true (by simp)]
      unfold atoiD badN
      split
      · left; decide
      · unfold atoiE
        split
        · left; decide
        · rename_i u _
          by_cases hu : u ≤ 9223372036854775808
          · rw [if_pos ⟨rfl, hu⟩]; right; left; show -(u : Int) < 1; omega
          · rw [if_neg (fun h => hu h.2), if_neg (fun h => by cases h.1)]; left; decide
  · have ha : atoi l = atoiD l false := by
      unfold atoi
      rw [trim_other l hm, decide_eq_false (by omega)]
    rw [ha]
    unfold dv atoiD
    by_cases h1 : l = [] ∨ 19 < l.length ∨ l.head? = some 48
    · rw [if_pos h1]
      show badN _
      by_cases h2 : l = [] ∨ 19 < l.length ∨ (l.head? = some 48 ∧ (1 < l.length ∨ false = true))
      · rw [if_pos h2]; left; decide
      · rw [if_neg h2]
        have h48 : l.head? = some 48 := by
          rcases h1 with h | h | h
          · exact absurd (Or.inl h) h2
          · exact absurd (Or.inr (Or.inl h)) h2
          · exact h
        have hlen : l.length ≤ 1 := Classical.byContradiction fun h => h2 (Or.inr (Or.inr ⟨h48, Or.inl (by omega)⟩))
        match l, h48, hlen with
        | [c], h48, _ =>
          have hc : c = 48 := by simpa using h48
          subst hc
          right; left
          decide
    · rw [if_neg h1, if_neg (fun h => h1 (by rcases h with h | h | h; exact Or.inl h; exact Or.inr (Or.inl h); exact Or.inr (Or.inr h.1)))]
      unfold atoiE
      cases hg : atoiGo l 0 with
      | none => show badN _; left; decide
      | some u =>
        have hc := canon l u (fun h => h1 (Or.inl h)) (fun h => h1 (Or.inr (Or.inr h))) hg
        dsimp only
        by_cases hu : u ≤ 1000
        · rw [if_pos hu]
          show _ ∧ _
          rw [if_neg (fun h => by cases h.1), if_pos ⟨rfl, by omega⟩]
          exact ⟨rfl, by omega, hu⟩
        · rw [if_neg hu]
          show badN _
          rw [if_neg (fun h => by cases h.1)]
          by_cases hu2 : u ≤ 9223372036854775807
          · rw [if_pos ⟨rfl, hu2⟩]; right; right; show (1000 : Int) < (u : Int); omega
          · rw [if_neg (fun h => hu2 h.2)]; left; decide

/-- a digit's text -/
theorem tens_at (d : Nat) (h : d < 10) : (⟨#[48, 49, 50, 51, 52, 53, 54, 55, 56, 57, 97, 98, 99, 100, 101, 102]⟩ : ByteArray).extract ((d : Nat) : Int).toNat (((d + 1 : Nat) : Int)).toNat = ofL [UInt8.ofNat (48 + d)] := by
  have hall : (List.range 10).all (fun d => decide ((⟨#[48, 49, 50, 51, 52, 53, 54, 55, 56, 57, 97, 98, 99, 100, 101, 102]⟩ : ByteArray).extract d (d + 1) = ofL [UInt8.ofNat (48 + d)])) = true := by decide +kernel
  have := List.all_eq_true.1 hall d (List.mem_range.2 h)
  exact of_decide_eq_true this
/-- the document's Itoa: the digits, at any number -/
theorem itoa_loop (x0 : Int) : ∀ (N : Nat) (m : Nat) (neg : Bool) (s : L8), m < 10 ^ N → m ≤ 9223372036854775808 → (neg = false → m ≤ 9223372036854775807) → s.length + N ≤ 1000 →
    Ev (fun k => racewayref22_Itoa.l0 k x0 (ofL s) (if neg = true then -(m : Int) else (m : Int))) (if x0 < 0 then ofL (45 :: (digA m ++ s)) else ofL (digA m ++ s)) := by
  intro N
  have fin : ∀ (neg : Bool) (s : L8), s.length ≤ 1000 → Ev (fun k => racewayref22_Itoa.l0 k x0 (ofL s) (if neg = true then -((0 : Nat) : Int) else ((0 : Nat) : Int))) (if x0 < 0 then ofL (45 :: (digA 0 ++ s)) else ofL (digA 0 ++ s)) := by
    intro neg s hs
    refine Ev.step (f := fun _ => some (if x0 < 0 then ofL (45 :: (digA 0 ++ s)) else ofL (digA 0 ++ s))) (fun k => ?_) (Ev.now _)
    simp only [racewayref22_Itoa.l0]
    rw [if_pos (by cases neg <;> rfl), digA_zero, List.nil_append]
    by_cases h : x0 < 0
    · rw [if_pos h, if_pos h, if_pos (by rw [ofL_size]; omega)]
      have : (⟨#[45]⟩ : ByteArray) ++ ofL s = ofL (45 :: s) := ofL_app [45] s
      rw [this]
    · rw [if_neg h, if_neg h]
  induction N with
  | zero =>
    intro m neg s h1 h2 h3 h4
    obtain rfl : m = 0 := by simp at h1; exact h1
    exact fin neg s (by omega)
  | succ N ih =>
    intro m neg s h1 h2 h3 h4
    by_cases h0 : m = 0
    · subst h0; exact fin neg s (by omega)
    · have hdiv : m / 10 < 10 ^ N := by rw [Nat.pow_succ] at h1; omega
      have hd : m % 10 < 10 := Nat.mod_lt _ (by decide)
      have hx := ih (m / 10) neg (UInt8.ofNat (48 + m % 10) :: s) hdiv (by omega) (by omega) (by simp; omega)
      have hdg : digA (m / 10) ++ (UInt8.ofNat (48 + m % 10) :: s) = digA m ++ s := by rw [digA_step m h0]; simp
      rw [hdg] at hx
      have ht := tens_at (m % 10) hd
      have hsz : ((ofL [UInt8.ofNat (48 + m % 10)]).size : Nat) = 1 := by rw [ofL_size]; rfl
      have happ : ofL [UInt8.ofNat (48 + m % 10)] ++ ofL s = ofL (UInt8.ofNat (48 + m % 10) :: s) := ofL_app _ s
      refine Ev.step (f := fun k => racewayref22_Itoa.l0 k x0 (ofL (UInt8.ofNat (48 + m % 10) :: s)) (if neg = true then -((m / 10 : Nat) : Int) else ((m / 10 : Nat) : Int))) (fun k => ?_) hx
      have w1 : wrap64 (((m % 10 : Nat) : Int) + 1) = ((m % 10 + 1 : Nat) : Int) := by rw [wrapN (by omega) (by omega)]; omega
      cases neg with
      | false =>
        have e1 : Int.tmod (m : Int) 10 = ((m % 10 : Nat) : Int) := rfl
        have e2 : Int.tdiv (m : Int) 10 = ((m / 10 : Nat) : Int) := rfl
        have w2 : wrap64 ((m / 10 : Nat) : Int) = ((m / 10 : Nat) : Int) := wrapN (by omega) (by omega)
        simp only [racewayref22_Itoa.l0, Bool.false_eq_true, if_false, e1, e2, w1, w2]
        rw [if_neg (by omega), if_neg (by omega), if_pos (by omega), if_pos (by omega), if_pos (by omega), ht, if_pos (by rw [hsz, ofL_size]; omega), happ]
      | true =>
        have e1 : Int.tmod (-(m : Int)) 10 = -((m % 10 : Nat) : Int) := by rw [Int.neg_tmod]; rfl
        have e2 : Int.tdiv (-(m : Int)) 10 = -((m / 10 : Nat) : Int) := by rw [Int.neg_tdiv]; rfl
        have w2 : wrap64 (-((m / 10 : Nat) : Int)) = -((m / 10 : Nat) : Int) := wrapN (by omega) (by omega)
        have w3 : wrap64 (-(-((m % 10 : Nat) : Int))) = ((m % 10 : Nat) : Int) := by rw [Int.neg_neg]; exact wrapN (by omega) (by omega)
        simp only [racewayref22_Itoa.l0, if_true, e1, e2, w2, w3, w1]
        rw [if_neg (by omega)]
        by_cases hz : m % 10 = 0
        · rw [hz] at ht hsz happ w1 ⊢
          rw [if_neg (by simp), if_pos (by simp)]
          have e3 : (-((0 : Nat) : Int)) = ((0 : Nat) : Int) := rfl
          simp only [e3, w1]
          rw [if_pos (by omega), if_pos (by omega), ht, if_pos (by rw [hsz, ofL_size]; omega), happ]
        · rw [if_pos (by omega), if_pos (by omega), if_pos (by omega), if_pos (by omega), ht, if_pos (by rw [hsz, ofL_size]; omega), happ]
theorem itoa_pos (u : Nat) (h : u ≤ 9223372036854775807) : Ev (fun k => racewayref22_Itoa.f k (u : Int)) (ofL (dgs u)) := by
  by_cases h0 : u = 0
  · subst h0; exact Ev.now _
  · refine Ev.congr (f := fun k => racewayref22_Itoa.l0 k (u : Int) (ofL []) (if false = true then -(u : Int) else (u : Int))) (fun k => ?_) ?_
    · unfold racewayref22_Itoa.f; rw [if_neg (by omega)]; rfl
    · have := itoa_loop (u : Int) 19 u false [] (by omega) (by omega) (by omega) (by simp)
      rw [if_neg (show ¬ ((u : Int) < 0) by omega), List.append_nil] at this
      unfold dgs
      rw [if_neg h0]; exact this
theorem itoa_neg (u : Nat) (h : u ≤ 9223372036854775808) : ∃ t, Ev (fun k => racewayref22_Itoa.f k (-(u : Int))) t := by
  by_cases h0 : u = 0
  · subst h0; exact ⟨_, Ev.now _⟩
  · refine ⟨_, Ev.congr (f := fun k => racewayref22_Itoa.l0 k (-(u : Int)) (ofL []) (if true = true then -(u : Int) else (u : Int))) (fun k => ?_) (itoa_loop (-(u : Int)) 19 u true [] (by omega) (by omega) (fun h => by cases h) (by simp))⟩
    unfold racewayref22_Itoa.f; rw [if_neg (by omega)]; rfl
/-- what the document's Atoi answers of a text without a sign, in what the numbers need -/
def resA (l : L8) (o : Option Nat) (r : Int × Int) : Prop :=
  (∀ u, o = some u → u ≤ 1000 → dgs u = l → r = ((u : Int), 0)) ∧ (r = (0, 5) ∨ ∃ u, o = some u ∧ dgs u = l ∧ r = ((u : Int), 0))
theorem toList_ofL (a : L8) : (ofL a).toList = a := by rw [Lib.toList_data, ofL_list]
theorem btNat (s : ByteArray) (i : Nat) (h : i < s.size) : bt s (i : Int) = ((s[i]'h).toNat : Int) := by
  rw [← bt_at s (i : Int) (by simpa using h)]; rfl
theorem ref_loop (s : ByteArray) (hs : s.size ≤ 20) (x4 : Int) (h4 : x4 = 0 ∨ x4 = 1) : ∀ (d i v : Nat), s.size - i ≤ d → i ≤ s.size → v ≤ 9223372036854775808 →
    ∃ r, Ev (fun k => racewayref22_Atoi.l0 k s x4 (-9223372036854775808) (-(v : Int)) (i : Int)) r ∧ (x4 = 0 → resA s.data.toList (atoiGo (s.data.toList.drop i) v) r) ∧ (x4 = 1 → r.1 ≤ 0) := by
  have fin : ∀ (i v : Nat), s.size ≤ i → i ≤ s.size → v ≤ 9223372036854775808 → ∃ r, Ev (fun k => racewayref22_Atoi.l0 k s x4 (-9223372036854775808) (-(v : Int)) (i : Int)) r ∧ (x4 = 0 → resA s.data.toList (atoiGo (s.data.toList.drop i) v) r) ∧ (x4 = 1 → r.1 ≤ 0) := by
    intro i v h1 h2 h3
    rw [List.drop_eq_nil_of_le (by rw [size_list]; omega), atoiGo]
    rcases h4 with rfl | rfl
    · by_cases hv : v = 9223372036854775808
      · subst hv
        refine ⟨(0, 5), Ev.step (f := fun _ => some ((0 : Int), (5 : Int))) (fun k => ?_) (Ev.now _), fun _ => ⟨fun u hu h => ?_, Or.inl rfl⟩, fun h => absurd h (by decide)⟩
        · simp only [racewayref22_Atoi.l0]
          rw [if_neg (by omega), if_pos trivial, if_pos (by decide)]
        · cases hu; omega
      · have hv2 : v ≤ 9223372036854775807 := by omega
        have hI := itoa_pos v hv2
        have w1 : wrap64 (-(-(v : Int))) = (v : Int) := by rw [Int.neg_neg]; exact wrapN (by omega) (by omega)
        by_cases he : dgs v = s.data.toList
        · refine ⟨((v : Int), 0), Ev.step (f := fun k => (racewayref22_Itoa.f k (v : Int)).bind fun t => if t.toList = s.toList then some ((v : Int), (0 : Int)) else some ((0 : Int), (5 : Int))) (fun k => ?_) (Ev.bind hI (Ev.congr (f := fun _ => some ((v : Int), (0 : Int))) (fun k => ?_) (Ev.now _))), fun _ => ⟨fun u hu _ _ => by cases hu; rfl, Or.inr ⟨v, rfl, he, rfl⟩⟩, fun h => absurd h (by decide)⟩
          · simp only [racewayref22_Atoi.l0]
            rw [if_neg (by omega), if_pos trivial, if_neg (by omega), w1]
          · rw [if_pos (by rw [toList_ofL, he, Lib.toList_data])]
        · refine ⟨(0, 5), Ev.step (f := fun k => (racewayref22_Itoa.f k (v : Int)).bind fun t => if t.toList = s.toList then some ((v : Int), (0 : Int)) else some ((0 : Int), (5 : Int))) (fun k => ?_) (Ev.bind hI (Ev.congr (f := fun _ => some ((0 : Int), (5 : Int))) (fun k => ?_) (Ev.now _))), fun _ => ⟨fun u hu _ hd => by cases hu; exact absurd hd he, Or.inl rfl⟩, fun h => absurd h (by decide)⟩
          · simp only [racewayref22_Atoi.l0]
            rw [if_neg (by omega), if_pos trivial, if_neg (by omega), w1]
          · rw [if_neg (by rw [toList_ofL, Lib.toList_data]; exact he)]
    · obtain ⟨t, hI⟩ := itoa_neg v h3
      refine ⟨if t.toList = s.toList then (-(v : Int), 0) else (0, 5), Ev.step (f := fun k => (racewayref22_Itoa.f k (-(v : Int))).bind fun t => if t.toList = s.toList then some (-(v : Int), (0 : Int)) else some ((0 : Int), (5 : Int))) (fun k => ?_) (Ev.bind hI (Ev.congr (f := fun _ => some (if t.toList = s.toList then (-(v : Int), (0 : Int)) else (0, 5))) (fun k => ?_) (Ev.now _))), fun h => absurd h (by decide), fun _ => ?_⟩
      · simp only [racewayref22_Atoi.l0]
        rw [if_neg (by omega), if_neg (by decide)]
      · split <;> rfl
      · split
        · show -(v : Int) ≤ 0; omega
        · decide
  intro d
  induction d with
  | zero => intro i v h1 h2 h3; exact fin i v (by omega) h2 h3
  | succ d ih =>
    intro i v h1 h2 h3
    by_cases hlt : i < s.size
    · have w1 : wrap64 ((i : Int) + 1) = ((i + 1 : Nat) : Int) := by rw [wrapN (by omega) (by omega)]; omega
      have hb := btNat s i hlt
      rw [drop_at s i hlt, atoiGo]
      generalize s[i]'hlt = c at hb
      by_cases hc : c.toNat < 48 ∨ 57 < c.toNat
      · refine ⟨(0, 5), Ev.step (f := fun k => racewayref22_Atoi.j4 k s x4 (-9223372036854775808) (-(v : Int)) (i : Int) true) (fun k => ?_) (Ev.step (f := fun _ => some ((0 : Int), (5 : Int))) (fun k => ?_) (Ev.now _)), fun _ => ?_, fun _ => by decide⟩
        · simp only [racewayref22_Atoi.l0]
          rw [if_pos (by omega), if_pos (by omega), hb]
          by_cases h48 : c.toNat < 48
          · rw [if_pos (by omega)]
          · rw [if_neg (by omega), decide_eq_true (by omega)]
        · simp only [racewayref22_Atoi.j4]
          rw [if_pos trivial]
        · rw [if_pos hc]
          exact ⟨(fun u hu => by cases hu), Or.inl rfl⟩
      · rw [if_neg hc]
        obtain ⟨dg, hdg⟩ : ∃ dg, dg = c.toNat - 48 := ⟨_, rfl⟩
        have hdl : dg < 10 := by omega
        have hbt : (bt s (i : Int) - 48) % 256 = (dg : Int) := by rw [hb]; omega
        have hj : ∀ k, racewayref22_Atoi.l0 (k + 1) s x4 (-9223372036854775808) (-(v : Int)) (i : Int) = racewayref22_Atoi.j4 k s x4 (-9223372036854775808) (-(v : Int)) (i : Int) false := fun k => by
          simp only [racewayref22_Atoi.l0]
          rw [if_pos (by omega), if_pos (by omega), if_neg (by omega), decide_eq_false (by omega)]
        by_cases hov : 9223372036854775808 < 10 * v + dg
        · refine ⟨(0, 5), Ev.step hj (Ev.step (f := fun _ => some ((0 : Int), (5 : Int))) (fun k => ?_) (Ev.now _)), fun _ => ⟨fun u hu hl => ?_, Or.inl rfl⟩, fun _ => by decide⟩
          · simp only [racewayref22_Atoi.j4]
            rw [if_neg (by decide), if_pos (by omega), if_pos (by omega), hk10]
            by_cases hq : -(v : Int) < -922337203685477580
            · rw [if_pos hq]
            · rw [if_neg hq, if_pos (by omega), if_pos (by rw [hbt]; omega)]
          · have := atoiGo_ge _ _ _ hu
            rw [hdg] at hov
            omega
        · have hnext : ∀ k, racewayref22_Atoi.j4 (k + 1) s x4 (-9223372036854775808) (-(v : Int)) (i : Int) false = racewayref22_Atoi.l0 k s x4 (-9223372036854775808) (-((10 * v + dg : Nat) : Int)) ((i + 1 : Nat) : Int) := fun k => by
            have e1 : wrap64 (10 * -(v : Int)) = 10 * -(v : Int) := wrapN (by omega) (by omega)
            have e2 : wrap64 (10 * -(v : Int) - (dg : Int)) = -((10 * v + dg : Nat) : Int) := by rw [wrapN (by omega) (by omega)]; omega
            simp only [racewayref22_Atoi.j4]
            rw [if_neg (by decide), if_pos (by omega), if_pos (by omega), hk10, if_neg (by omega), hbt, w1, e1, e2]
            clear e1 e2
            by_cases hq : -(v : Int) = -922337203685477580
            · rw [if_pos hq, if_neg (by omega)]
            · rw [if_neg hq]
          obtain ⟨r, hr, hA, hB⟩ := ih (i + 1) (10 * v + dg) (by omega) (by omega) (by omega)
          exact ⟨r, Ev.step hj (Ev.step hnext hr), by rw [hdg] at hA; exact hA, hB⟩
    · exact fin i v (by omega) h2 h3
/-- the document's Atoi: what 'dv' says, and else nothing of 1 to 1000 -/
theorem refAtoi (l : L8) (hl : l.length ≤ 100) : ∃ r : Int × Int, Ev (fun k => racewayref22_Atoi.f k (ofL l)) r ∧ (match dv l with | some n => r = ((n : Int), 0) ∧ 1 ≤ n ∧ n ≤ 1000 | none => r.2 ≠ 0 ∨ r.1 < 1 ∨ 1000 < r.1) := by
  have hsz := ofL_size l
  have hat := atoi_dv l
  have bad5 : ∀ r : Int × Int, r = (0, 5) → dv l = none → (match dv l with | some n => r = ((n : Int), 0) ∧ 1 ≤ n ∧ n ≤ 1000 | none => r.2 ≠ 0 ∨ r.1 < 1 ∨ 1000 < r.1) := fun r hr h => by rw [h, hr]; left; decide
  -- the sign
  obtain ⟨x4, hx4, hj0⟩ : ∃ x4 : Nat, ((x4 = 1 ∧ l.head? = some 45) ∨ (x4 = 0 ∧ l.head? ≠ some 45)) ∧ ∀ r, Ev (fun k => racewayref22_Atoi.j1 k (ofL l) (x4 : Int)) r → Ev (fun k => racewayref22_Atoi.f k (ofL l)) r := by
    cases hL : l with
    | nil =>
      refine ⟨0, Or.inr ⟨rfl, by simp⟩, fun r h => Ev.congr (f := fun k => racewayref22_Atoi.j0 k (ofL []) 0 false) (fun k => ?_) (Ev.step (f := fun k => racewayref22_Atoi.j1 k (ofL []) 0) (fun k => ?_) h)⟩
      · unfold racewayref22_Atoi.f
        rw [if_neg (by rw [ofL_size]; simp)]
      · simp only [racewayref22_Atoi.j0]
        rw [if_neg (by decide)]
    | cons c t =>
      have hb : bt (ofL (c :: t)) 0 = (c.toNat : Int) := by
        have := btNat (ofL (c :: t)) 0 (by rw [ofL_size]; simp)
        exact this
      have hf : ∀ k, racewayref22_Atoi.f k (ofL (c :: t)) = racewayref22_Atoi.j0 k (ofL (c :: t)) 0 ((c.toNat : Int) == 45) := fun k => by
        unfold racewayref22_Atoi.f
        rw [if_pos (by rw [ofL_size, List.length_cons]; omega), if_pos (by rw [ofL_size, List.length_cons]; omega), hb]
      by_cases hc : c = 45
      · subst hc
        refine ⟨1, Or.inl ⟨rfl, rfl⟩, fun r h => Ev.congr hf (Ev.step (f := fun k => racewayref22_Atoi.j1 k (ofL (45 :: t)) 1) (fun k => ?_) h)⟩
        simp only [racewayref22_Atoi.j0]
        rw [if_pos (by decide)]
      · refine ⟨0, Or.inr ⟨rfl, by simpa using hc⟩, fun r h => Ev.congr hf (Ev.step (f := fun k => racewayref22_Atoi.j1 k (ofL (c :: t)) 0) (fun k => ?_) h)⟩
        have hne : ((c.toNat : Int) == 45) = false := by
          rw [beq_eq_false_iff_ne]
          intro e
          exact hc (UInt8.toNat_inj.1 (by show _ = 45; omega))
        simp only [racewayref22_Atoi.j0]
        rw [hne, if_neg (by decide)]
  have hminus : x4 = 1 → dv l = none := fun h => by
    rcases hx4 with ⟨_, h2⟩ | ⟨h2, _⟩
    · cases l with
      | nil => cases h2
      | cons c t =>
        have hc : c = 45 := by simpa using h2
        subst hc
        unfold dv
        split
        · rfl
        · have : atoiGo (45 :: t) 0 = none := by rw [atoiGo, if_pos (by decide)]
          rw [this]
    · omega
  have hx41 : x4 ≤ 1 := by rcases hx4 with h | h <;> omega
  have hxl : x4 ≤ l.length := by
    rcases hx4 with ⟨rfl, h⟩ | ⟨rfl, _⟩
    · cases l with
      | nil => cases h
      | cons _ _ => simp
    · omega
  by_cases hbad : x4 = l.length ∨ 19 < l.length - x4
  · have hnone : dv l = none := by
      rcases hx4 with ⟨h1, _⟩ | ⟨h1, h2⟩
      · exact hminus h1
      · subst h1
        unfold dv
        rcases hbad with h | h
        · rw [if_pos (Or.inl (List.eq_nil_of_length_eq_zero h.symm))]
        · rw [if_pos (Or.inr (Or.inl (show 19 < l.length by omega)))]
    refine ⟨(0, 5), hj0 _ (Ev.step (f := fun k => racewayref22_Atoi.j2 k (ofL l) (x4 : Int) true) (fun k => ?_) (Ev.step (f := fun _ => some ((0 : Int), (5 : Int))) (fun k => ?_) (Ev.now _))), bad5 _ rfl hnone⟩
    · simp only [racewayref22_Atoi.j1]
      rw [hsz]
      by_cases he : (x4 : Int) = (l.length : Int)
      · rw [if_pos he]
      · rw [if_neg he, wrapN (by omega) (by omega), decide_eq_true (by omega)]
    · simp only [racewayref22_Atoi.j2]
      rw [if_pos trivial]
  · obtain ⟨r, hr, hA, hB⟩ := ref_loop (ofL l) (by omega) (x4 : Int) (by omega) l.length x4 0 (by omega) (by omega) (by omega)
    refine ⟨r, hj0 _ (Ev.step (f := fun k => racewayref22_Atoi.j2 k (ofL l) (x4 : Int) false) (fun k => ?_) (Ev.step (f := fun k => racewayref22_Atoi.l0 k (ofL l) (x4 : Int) (-9223372036854775808) (-((0 : Nat) : Int)) (x4 : Int)) (fun k => ?_) hr)), ?_⟩
    · simp only [racewayref22_Atoi.j1]
      rw [hsz, if_neg (by omega), wrapN (by omega) (by omega), decide_eq_false (by omega)]
    · simp only [racewayref22_Atoi.j2]
      rw [if_neg (by decide)]; rfl
    · rcases hx4 with ⟨h1, _⟩ | ⟨h1, h2⟩
      · rw [hminus h1]
        have := hB (by omega)
        right; left
        show r.1 < 1
        omega
      · subst h1
        have hA := hA rfl
        rw [ofL_list, List.drop_zero] at hA
        cases hdv : dv l with
        | some n =>
          rw [hdv] at hat
          refine ⟨?_, hat.2⟩
          unfold dv at hdv
          split at hdv
          · cases hdv
          · rename_i hg
            cases hgo : atoiGo l 0 with
            | none => rw [hgo] at hdv; cases hdv
            | some u =>
              rw [hgo] at hdv
              dsimp only at hdv
              split at hdv
              · rename_i hu
                cases hdv
                exact hA.1 _ hgo hu (canon l _ (fun h => hg (Or.inl h)) (fun h => hg (Or.inr (Or.inr h))) hgo).2
              · cases hdv
        | none =>
          rcases hA.2 with h | ⟨u, hu, hd, h⟩
          · rw [h]; left; decide
          · rw [h]
            by_cases hu0 : u = 0
            · subst hu0; right; left; decide
            · by_cases hu1 : 1000 < u
              · right; right
                have : (1000 : Int) < (u : Int) := by omega
                exact this
              · exfalso
                have hh := digA_head u u (Nat.le_refl _) hu0
                have hne := digA_ne u hu0
                have hdd : digA u = l := by unfold dgs at hd; rw [if_neg hu0] at hd; exact hd
                rw [hdd] at hh hne
                unfold dv at hdv
                rw [if_neg (by rintro (h | h | h); exact hne h; exact hbad (Or.inr (by omega)); exact hh h), hu] at hdv
                dsimp only at hdv
                rw [if_pos (by omega)] at hdv
                cases hdv
end Go.Proofs.YtjampnopogdceaaDoor.P
