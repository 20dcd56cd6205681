/- The plain law: a chart written by the code, and read again; a move leaves a chart that may be. No program in sight; charts of some hundred pieces. -/
import Derived.Test.YteppmdafdopehaaPLoad15
import Derived.Test.YteppmdafdopehaaPMove15
import Derived.Test.YteppmdafdopehaaP24
import Derived.Test.YteppmdafdopehaaP25
import Derived.Test.YteppmdafdopehaaP26
namespace Go.Proofs.Yteppmdafdopehaa.P.C4
open Go.RowKit Go.Proofs.YteppmdafdopehaaW.PrintWords Go.Proofs.YteppmdafdopehaaW.PrintLast Go.Proofs.YteppmdafdopehaaW.PrintMore
set_option linter.unusedVariables false

/-! ### a number written: the code's -/
theorem or128 (a : Int) (h0 : 0 ≤ a) (h1 : a < 256) : Go.bits .or .u8 a 128 = a % 128 + 128 := by
  obtain ⟨n, rfl⟩ := Int.eq_ofNat_of_zero_le h0
  have h := (bits_nat .u8 8 (by decide) wraps_u8 n 128 (by omega) (by decide)).2
  have e : ∀ x : Fin 256, (x.val ||| 128) = x.val % 128 + 128 := by decide +kernel
  have e2 := e ⟨n, by omega⟩
  simp only at e2
  rw [e2] at h
  rw [show ((128 : Int)) = ((128 : Nat) : Int) from rfl, h]
  omega
theorem onum_loop : ∀ (f v : Nat), v ≤ f → ∀ (X : L8), v ≤ maxNum → X.length + (enc v).length < 140737488355328 → Ev (fun k => octet_num.l0 k (bi X) (v : Int)) (bi (X ++ enc v)) := by
  intro f
  induction f with
  | zero =>
    intro v hv X hm hX
    obtain rfl : v = 0 := by omega
    rw [enc_small 0 (by decide)] at hX ⊢
    refine Ev.step (f := fun _ => some (bi (X ++ [UInt8.ofNat 0]))) (fun k => ?_) (Ev.now _)
    simp only [octet_num.l0]
    rw [if_neg (by omega), if_pos (by rw [bi_len]; simp at hX; omega), bi_app]
    rfl
  | succ f ih =>
    intro v hv X hm hX
    by_cases h : v < 128
    · rw [enc_small v h] at hX ⊢
      refine Ev.step (f := fun _ => some (bi (X ++ [UInt8.ofNat v]))) (fun k => ?_) (Ev.now _)
      simp only [octet_num.l0]
      rw [if_neg (by omega), if_pos (by rw [bi_len]; simp at hX; omega), bi_app]
      have e : bi [UInt8.ofNat v] = [(v : Int) % 256] := by
        show [((UInt8.ofNat v).toNat : Int)] = _
        rw [u8_small v (by omega)]
        congr 1
        omega
      rw [e]
    · rw [enc_big v h] at hX ⊢
      have := max_int
      have h1 := ih (v / 128) (by omega) (X ++ [UInt8.ofNat (v % 128 + 128)]) (by omega) (by simp at hX ⊢; omega)
      rw [List.append_assoc] at h1
      refine Ev.step (fun k => ?_) h1
      simp only [octet_num.l0]
      have e : bi [UInt8.ofNat (v % 128 + 128)] = [Go.bits .or .u8 ((v : Int) % 256) 128] := by
        show [((UInt8.ofNat (v % 128 + 128)).toNat : Int)] = _
        rw [u8_small _ (by omega), or128 _ (by omega) (by omega)]
        congr 1
        omega
      rw [if_pos (by omega), if_pos (by rw [bi_len]; simp at hX; omega), bi_app, e]
      rfl
theorem wrap_u64 (v : Nat) (h : v ≤ maxNum) : IntKind.u64.wrap (v : Int) = (v : Int) := by
  have := max_int
  have e : IntKind.u64.wrap (v : Int) = (v : Int) % 18446744073709551616 := by simp [IntKind.wrap, IntKind.bits, IntKind.signed]
  rw [e]
  omega
theorem onum_ev (v : Nat) (X : L8) (hm : v ≤ maxNum) (hX : X.length + 9 < 140737488355328) : Ev (fun k => octet_Num.f k (bi X) (v : Int)) (bi (X ++ enc v), 0) := by
  have hl := enc_le v hm
  have := max_int
  refine Ev.congr (f := fun k => octet_Num.j0 k (bi X) (v : Int) false) (fun k => ?_) (Ev.step (f := fun k => (octet_num.l0 k (bi X) (v : Int)).bind fun t => some (t, 0)) (fun k => ?_) (Ev.bind (f := fun _ t => some (t, 0)) (onum_loop v v (Nat.le_refl _) X hm (by omega)) (Ev.now _)))
  · unfold octet_Num.f
    rw [if_neg (by omega), decide_eq_false (by omega)]
  · simp only [octet_Num.j0]
    rw [if_neg (by decide), wrap_u64 v hm]
    unfold slices_Clone_u8.f octet_num.f
    rw [if_pos (by rw [bi_len]; omega)]
    rfl

/-! ### a chart written -/
theorem dump_loop (l : List Pc) (hl : l.length < 1000) (hp : ∀ p ∈ l, OkP p) (d : Nat) : ∀ (i : Nat) (X : L8), i + d = l.length → X.length + 27 * d < 1000000 →
    Ev (fun k => chart_Dump.l0 k (bi X) l (l.length : Int) (i : Int)) (⟨(X ++ catE (flatP (l.drop i))).toArray⟩, 0) := by
  induction d with
  | zero =>
    intro i X hi hX
    have e : i = l.length := by omega
    subst e
    rw [List.drop_length]
    refine Ev.step (f := fun _ => some (strOfNums (bi X), 0)) (fun k => ?_) ?_
    · simp only [chart_Dump.l0]
      rw [if_neg (by omega)]
    · rw [str_bi]
      have : catE (flatP []) = [] := rfl
      rw [this, List.append_nil]
      exact Ev.now _
  | succ d ih =>
    intro i X hi hX
    have hlt : i < l.length := by omega
    rw [List.drop_eq_getElem_cons hlt, flatP_cons, catE_cons, catE_cons, catE_cons]
    have hok := hp l[i] (List.getElem_mem hlt)
    have hrd := rd_pc l i hlt
    generalize l[i] = p at hok hrd
    obtain ⟨⟨a1, a2⟩, ⟨b1, b2⟩, c1, c2⟩ := hok
    have m := max_int
    have ea := enc_le p.f0.f0.toNat (by omega)
    have eb := enc_le p.f0.f1.toNat (by omega)
    have ec := enc_le p.f1.toNat (by omega)
    have h1 := onum_ev p.f0.f0.toNat X (by omega) (by omega)
    have h2 := onum_ev p.f0.f1.toNat (X ++ enc p.f0.f0.toNat) (by omega) (by rw [List.length_append]; omega)
    have h3 := onum_ev p.f1.toNat (X ++ enc p.f0.f0.toNat ++ enc p.f0.f1.toNat) (by omega) (by rw [List.length_append, List.length_append]; omega)
    have h4 := ih (i + 1) (X ++ enc p.f0.f0.toNat ++ enc p.f0.f1.toNat ++ enc p.f1.toNat) (by omega) (by rw [List.length_append, List.length_append, List.length_append]; omega)
    rw [Int.toNat_of_nonneg a1] at h1
    rw [Int.toNat_of_nonneg b1] at h2
    rw [Int.toNat_of_nonneg c1] at h3
    obtain ⟨Y, hY⟩ : ∃ Y : List Int, Y = [p.f0.f0, p.f0.f1, p.f1] := ⟨_, rfl⟩
    have y0 : rd Y 0 = p.f0.f0 := by rw [hY]; rfl
    have y1 : rd Y 1 = p.f0.f1 := by rw [hY]; rfl
    have y2 : rd Y 2 = p.f1 := by rw [hY]; rfl
    have yl : Y.length = 3 := by rw [hY]; rfl
    have s3 : Ev (fun k => chart_Dump.l1 k (bi (X ++ enc p.f0.f0.toNat ++ enc p.f0.f1.toNat ++ enc p.f1.toNat)) l (l.length : Int) (i : Int) Y 3 3) (⟨(X ++ enc p.f0.f0.toNat ++ enc p.f0.f1.toNat ++ enc p.f1.toNat ++ catE (flatP (l.drop (i + 1)))).toArray⟩, 0) := by
      refine Ev.step (fun k => ?_) h4
      simp only [chart_Dump.l1]
      rw [if_neg (by omega), w64_small (by omega) (by omega)]
      rfl
    have s2 := Ev.step (g := fun k => chart_Dump.l1 k (bi (X ++ enc p.f0.f0.toNat ++ enc p.f0.f1.toNat)) l (l.length : Int) (i : Int) Y 3 2) (fun k => (by
      simp only [chart_Dump.l1]
      rw [if_pos (by omega), if_pos (by omega), if_pos (by rw [yl]; omega), y2, w64_small (by omega) (by omega)]
      rfl)) (Ev.bind (f := fun k b => chart_Dump.l1 k b.1 l (l.length : Int) (i : Int) Y 3 3) h3 s3)
    have s1 := Ev.step (g := fun k => chart_Dump.l1 k (bi (X ++ enc p.f0.f0.toNat)) l (l.length : Int) (i : Int) Y 3 1) (fun k => (by
      simp only [chart_Dump.l1]
      rw [if_pos (by omega), if_pos (by omega), if_pos (by rw [yl]; omega), y1, w64_small (by omega) (by omega)]
      rfl)) (Ev.bind (f := fun k b => chart_Dump.l1 k b.1 l (l.length : Int) (i : Int) Y 3 2) h2 s2)
    have s0 := Ev.step (g := fun k => chart_Dump.l1 k (bi X) l (l.length : Int) (i : Int) Y 3 0) (fun k => (by
      simp only [chart_Dump.l1]
      rw [if_pos (by omega), if_pos (by omega), if_pos (by rw [yl]; omega), y0, w64_small (by omega) (by omega)]
      rfl)) (Ev.bind (f := fun k b => chart_Dump.l1 k b.1 l (l.length : Int) (i : Int) Y 3 1) h1 s1)
    rw [List.append_assoc, List.append_assoc, List.append_assoc] at s0
    refine Ev.step (fun k => ?_) s0
    simp only [chart_Dump.l0]
    rw [if_pos (by omega), if_pos (by omega), if_pos (by omega), hrd, ← hY]
    simp only [Option.bind_some]
    rw [yl]
    rfl
theorem dump_ev (ep : Int) (l : List Pc) (hl : l.length < 1000) (hm : mayC ep l = true) : Ev (fun k => chart_Dump.f k ep l) ((⟨(dumpB ep l).toArray⟩ : ByteArray), 0) := by
  unfold chart_Dump.f
  refine Ev.bind (may_ev ep l hl) ?_
  rw [hm]
  simp only [if_true]
  obtain ⟨⟨e1, e2⟩, hp⟩ := mayC_ok hm
  have m := max_int
  have ea := enc_le ep.toNat (by omega)
  have eb := enc_le l.length (by omega)
  have h1 := onum_ev ep.toNat [] (by omega) (by simp)
  have h2 := onum_ev l.length ([] ++ enc ep.toNat) (by omega) (by simp; omega)
  have h3 := dump_loop l hl hp l.length 0 ([] ++ enc ep.toNat ++ enc l.length) (by omega) (by simp; omega)
  rw [Int.toNat_of_nonneg (by omega)] at h1
  have h4 : ([] : L8) ++ enc ep.toNat ++ enc l.length ++ catE (flatP (l.drop 0)) = dumpB ep l := by
    unfold dumpB
    rw [catE_cons, catE_cons, List.drop_zero]
    simp
  rw [h4] at h3
  exact Ev.bind h1 (Ev.bind h2 h3)
theorem catE_le : ∀ (vs : List Nat), (∀ v ∈ vs, v ≤ maxNum) → (catE vs).length ≤ 9 * vs.length := by
  intro vs
  induction vs with
  | nil => intro _; simp [catE]
  | cons v vs ih =>
    intro h
    have h1 := ih (fun w hw => h w (List.mem_cons_of_mem _ hw))
    have h2 := enc_le v (h v List.mem_cons_self)
    rw [catE_cons, List.length_append, List.length_cons]
    omega
theorem dumpB_le (ep : Int) (l : List Pc) (h : mayC ep l = true) (hl : l.length < 1000) : (dumpB ep l).length ≤ 27 * l.length + 18 := by
  obtain ⟨⟨h1, h2⟩, hp⟩ := mayC_ok h
  have m := max_int
  have e := catE_le (ep.toNat :: l.length :: flatP l) (fun v hv => by
    rcases List.mem_cons.1 hv with rfl | hv
    · omega
    rcases List.mem_cons.1 hv with rfl | hv
    · omega
    exact flatP_le l hp v hv)
  have hf := flatP_len l
  simp only [List.length_cons] at e
  unfold dumpB
  omega
theorem loadC_more (ep : Int) (l : List Pc) (R : L8) (h : mayC ep l = true) (hl : l.length < 1000000) (hR : R ≠ []) : loadC (dumpB ep l ++ R) = bad := by
  obtain ⟨⟨h1, h2⟩, hp⟩ := mayC_ok h
  have m := max_int
  unfold loadC dumpB
  rw [catE_cons, catE_cons, List.append_assoc, List.append_assoc, rd7_enc _ _ (by omega)]
  simp only [List.drop_left]
  rw [rd7_enc _ _ (by omega)]
  simp only [List.drop_left]
  rw [rdP_cat l R hp]
  simp only
  rw [if_neg (fun e => hR e.1)]
theorem loadC_cut (ep : Int) (l : List Pc) (n : Nat) (h : mayC ep l = true) (hl : l.length < 1000) (hn : n < (dumpB ep l).length) : loadC ((dumpB ep l).take n) = bad := by
  rcases loadC_bad ((dumpB ep l).take n) with hb | ⟨ep', l', hm, hd⟩
  · exact hb
  · exfalso
    have hll := dumpB_len ep' l'
    have hnl : ((dumpB ep l).take n).length ≤ n := by rw [List.length_take]; omega
    have h1 := loadC_good ep l h (by omega)
    have hup := dumpB_le ep l h hl
    have h2 : dumpB ep l = dumpB ep' l' ++ (dumpB ep l).drop n := by rw [hd, List.take_append_drop]
    have h3 : (dumpB ep l).drop n ≠ [] := by
      intro e
      have := congrArg List.length e
      rw [List.length_drop, List.length_nil] at this
      omega
    rw [← hd] at hnl
    have hbig : l'.length < 1000000 := by omega
    rw [h2, loadC_more ep' l' _ hm hbig h3] at h1
    have := congrArg (fun x => x.2.2) h1
    simp [bad] at this

/-! ### a move leaves a chart that may be -/
def lastS (m : List Pn) : Int := (m.head?.map (·.s)).getD 0
theorem nfr_chOK (n : Nat) : ∀ (o : List Pc), o.length = n → ∀ (b : Int) (rest : List Pc), NFr b (rv o) → (∀ y ∈ o, 1 ≤ y.f1 ∧ y.f1 ≤ 6) → b ≤ 65536 → chOK b (lastS (rv o)) rest = true → chOK 0 0 (o ++ rest) = true := by
  induction n with
  | zero =>
    intro o ho b rest hn hs hb hr
    obtain rfl := List.eq_nil_of_length_eq_zero ho
    rw [rv_nil] at hn hr
    unfold NFr at hn
    subst hn
    exact hr
  | succ n ih =>
    intro o ho b rest hn hs hb hr
    rcases List.eq_nil_or_concat o with rfl | ⟨o', y, rfl⟩
    · simp at ho
    · rw [List.concat_eq_append] at *
      rw [rv_snoc] at hn hr
      unfold NFr at hn
      obtain ⟨h1, h2, h3, h4⟩ := hn
      have h1' : y.f0.f1 = b := h1
      have h2' : y.f0.f0 < b := h2
      have hy := hs y (by simp)
      rw [List.append_assoc]
      refine ih o' (by simp at ho; exact ho) y.f0.f0 ([y] ++ rest) h3 (fun z hz => hs z (by simp [hz])) (by omega) ?_
      have hq : y.f1 ≠ lastS (rv o') := by
        unfold lastS
        cases he : (rv o').head? with
        | none => simp only [Option.map_none, Option.getD_none]; omega
        | some z =>
          simp only [Option.map_some, Option.getD_some]
          have := h4 z he
          exact fun e => this e.symm
      show chOK y.f0.f0 (lastS (rv o')) (y :: rest) = true
      have hr' : chOK y.f0.f1 y.f1 rest = true := by rw [h1']; exact hr
      simp only [chOK, hr', Bool.and_true, Bool.and_eq_true, decide_eq_true_eq]
      exact ⟨trivial, by omega, by omega, hy.1, hy.2, hq⟩
theorem nfr_mem : ∀ (l : List Pn) (b : Int), NFr b l → ∀ y ∈ l, y.lo < y.hi := by
  intro l
  induction l with
  | nil => intro b _ y hy; cases hy
  | cons z r ih =>
    intro b h y hy
    unfold NFr at h
    rcases List.mem_cons.1 hy with rfl | hy
    · have := h.1; have := h.2.1; omega
    · exact ih _ h.2.2.1 y hy
theorem rv_mem {o : List Pc} {y : Pc} (h : y ∈ o) : toPn y ∈ rv o := by unfold rv; exact List.mem_reverse.2 (List.mem_map.2 ⟨y, h, rfl⟩)
theorem move_may (ep : Int) (l : List Pc) (r : Rg) (tt : Int) (hm : mayC ep l = true) (h0 : (mvC ep l r tt).2.2 = 0) : mayC (mvC ep l r tt).1 (mvC ep l r tt).2.1 = true := by
  unfold mvC at h0 ⊢
  by_cases hc : mayC ep l = true ∧ P.mayB r = true ∧ 1 ≤ tt ∧ tt ≤ 6
  · rw [if_pos hc] at h0 ⊢
    obtain ⟨_, hr, ht⟩ := hc
    unfold mayC at hm
    simp only [Bool.and_eq_true, decide_eq_true_eq] at hm
    obtain ⟨e1, e2, hch⟩ := hm
    obtain ⟨m1, m2, m3⟩ := move_inv r tt ((may_p r).1 hr) l 0 0 [] false hch (by omega) (by rw [rv_nil]; unfold NFr; rfl)
    have hL : chOK 0 0 (moveGo r tt l [] false).1 = true := by
      have h := nfr_chOK _ (moveGo r tt l [] false).1 rfl 65536 [] m1 (fun y hy => ?_) (by omega) (by simp [chOK])
      · rw [List.append_nil] at h; exact h
      · have hlt := nfr_mem _ _ m1 _ (rv_mem hy)
        have hat : At (rv (moveGo r tt l [] false).1) y.f0.f0 y.f1 := ⟨toPn y, rv_mem hy, by show y.f0.f0 ≤ y.f0.f0; omega, hlt, rfl⟩
        rcases (m2 y.f0.f0 y.f1).1 hat with h | ⟨z, hz, _, he⟩
        · rw [rv_nil] at h; exact absurd h (at_nil _ _)
        · have := (chOK_all l 0 0 hch).1 z hz (by omega)
          split at he <;> omega
    generalize moveGo r tt l [] false = X at h0 hL
    unfold moveEnd at h0 ⊢
    by_cases hx : X.2 = false
    · rw [if_pos hx]
      unfold mayC
      simp only [Bool.and_eq_true, decide_eq_true_eq]
      exact ⟨e1, e2, hL⟩
    · rw [if_neg hx] at h0 ⊢
      by_cases he : ep = 1099511627776
      · rw [if_pos he] at h0
        simp at h0
      · rw [if_neg he]
        unfold mayC
        simp only [Bool.and_eq_true, decide_eq_true_eq]
        rw [w64_small (by omega) (by omega)]
        exact ⟨by omega, by omega, hL⟩
  · rw [if_neg hc] at h0
    simp at h0
def gapN (r : Rg) (x : Int) : Nat := (if x < r.f0 then 1 else 0) + (if x < r.f1 then 1 else 0)
theorem putC_no (o : List Pc) (a b n : Int) (h : ¬ a < b) : P.putC o ⟨a, b⟩ n = o := by
  rw [putC_eq, if_neg (fun e => h ((may_p ⟨a, b⟩).1 e).2.1)]
theorem moveP_few (r : Rg) (tt : Int) (hr : MayP r) (y : Pc) (hy : MayP y.f0) (o : List Pc) : (moveP r tt y o).length + gapN r y.f0.f1 ≤ o.length + 1 + gapN r y.f0.f0 := by
  unfold moveP gapN
  have hm := meet_iff y.f0 r hy hr
  have hy' := hy
  unfold MayP at hy'
  by_cases hz : zB (P.meetR y.f0 r) = true
  · rw [if_pos hz]
    have := putC_len o y.f0 y.f1
    split <;> split <;> split <;> split <;> omega
  · have hyes : ∃ p, inR y.f0 p ∧ inR r p := Classical.byContradiction fun hn => hz (hm.2 hn)
    obtain ⟨pp, hp1, hp2⟩ := hyes
    rw [if_neg hz]
    have hmm : P.meetR y.f0 r = ⟨mx y.f0.f0 r.f0, mn y.f0.f1 r.f1⟩ := by
      unfold P.meetR
      split
      · rfl
      · rename_i hh
        exfalso
        apply hz
        unfold P.meetR
        rw [if_neg hh]
        rfl
    rw [hmm]
    simp only
    unfold inR at hp1 hp2
    generalize ha : mx y.f0.f0 r.f0 = a
    generalize hb : mn y.f0.f1 r.f1 = b
    have ha1 : y.f0.f0 ≤ a ∧ r.f0 ≤ a ∧ (a = y.f0.f0 ∨ a = r.f0) := by rw [← ha]; unfold mx; split <;> omega
    have hb1 : b ≤ y.f0.f1 ∧ b ≤ r.f1 ∧ (b = y.f0.f1 ∨ b = r.f1) := by rw [← hb]; unfold mn; split <;> omega
    have l1 : (P.putC o ⟨y.f0.f0, a⟩ y.f1).length ≤ o.length + (if y.f0.f0 < r.f0 then 1 else 0) := by
      by_cases h : y.f0.f0 < r.f0
      · rw [if_pos h]; exact putC_len _ _ _
      · rw [if_neg h, putC_no _ _ _ _ (by omega)]; omega
    have l2 := putC_len (P.putC o ⟨y.f0.f0, a⟩ y.f1) ⟨a, b⟩ tt
    have l3 : (P.putC (P.putC (P.putC o ⟨y.f0.f0, a⟩ y.f1) ⟨a, b⟩ tt) ⟨b, y.f0.f1⟩ y.f1).length ≤ (P.putC (P.putC o ⟨y.f0.f0, a⟩ y.f1) ⟨a, b⟩ tt).length + (if r.f1 < y.f0.f1 then 1 else 0) := by
      by_cases h : r.f1 < y.f0.f1
      · rw [if_pos h]; exact putC_len _ _ _
      · rw [if_neg h, putC_no _ _ _ _ (by omega)]; omega
    rw [if_neg (show ¬ y.f0.f1 < r.f0 by omega), if_pos (show y.f0.f0 < r.f1 by omega)]
    split at l1 <;> split at l3 <;> simp only [*, if_true, if_false] <;> (try split) <;> omega
theorem moveGo_few (r : Rg) (tt : Int) (hr : MayP r) : ∀ (l : List Pc) (x q : Int) (o : List Pc) (ch : Bool), chOK x q l = true → 0 ≤ x → (moveGo r tt l o ch).1.length ≤ o.length + l.length + gapN r x := by
  intro l
  induction l with
  | nil => intro x q o ch _ _; simp [moveGo]
  | cons y l ih =>
    intro x q o ch h h0
    simp only [chOK, Bool.and_eq_true, decide_eq_true_eq] at h
    obtain ⟨h1, h2, h3, h4, h5, h6, h7⟩ := h
    have hy : MayP y.f0 := ⟨by omega, by omega, h3⟩
    have i1 := ih y.f0.f1 y.f1 (moveP r tt y o) (ch || movePc r tt y) h7 (by omega)
    have i2 := moveP_few r tt hr y hy o
    rw [h1] at i2
    simp only [moveGo, List.length_cons]
    omega
theorem mvC_few (ep : Int) (l : List Pc) (r : Rg) (tt : Int) : (mvC ep l r tt).2.1.length ≤ l.length + 2 := by
  unfold mvC
  by_cases hc : mayC ep l = true ∧ P.mayB r = true ∧ 1 ≤ tt ∧ tt ≤ 6
  · rw [if_pos hc]
    obtain ⟨hm, hr, ht⟩ := hc
    unfold mayC at hm
    simp only [Bool.and_eq_true, decide_eq_true_eq] at hm
    have h := moveGo_few r tt ((may_p r).1 hr) l 0 0 [] false hm.2.2 (by omega)
    have hg : gapN r 0 ≤ 2 := by unfold gapN; split <;> split <;> omega
    unfold moveEnd
    split
    · simp only [List.length_nil] at h ⊢; omega
    · split
      · simp
      · simp only [List.length_nil] at h ⊢; omega
  · rw [if_neg hc]; simp
/-- A number folded into 0 .. m - 1. -/
theorem fold_lt (x m : Int) (h0 : 0 < m) (h1 : m < 1000000000) : 0 ≤ Int.tmod (wrap64 (Int.tmod x m + m)) m ∧ Int.tmod (wrap64 (Int.tmod x m + m)) m < m := by
  have a1 := Int.tmod_lt_of_pos x h0
  have a2 : -m < Int.tmod x m := by
    rcases Int.le_total 0 x with h | h
    · have := Int.tmod_nonneg m h; omega
    · have e : Int.tmod x m = -Int.tmod (-x) m := by rw [Int.neg_tmod]; omega
      have := Int.tmod_lt_of_pos (-x) h0
      omega
  rw [w64_small (by omega) (by omega)]
  exact ⟨Int.tmod_nonneg m (by omega), Int.tmod_lt_of_pos _ h0⟩
end Go.Proofs.Yteppmdafdopehaa.P.C4
