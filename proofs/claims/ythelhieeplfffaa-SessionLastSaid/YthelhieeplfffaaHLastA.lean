/- SessionLast's walk: what it knows (state of its three maps). No conditions. -/
import Derived.Test.YthelhieeplfffaaHInv
import Derived.Test.YthelhieeplfffaaHFull
import Derived.Test.YthelhieeplfffaaHAct
import Derived.Test.YthelhieeplfffaaHNew
import Derived.Test.YthelhieeplfffaaPSess13
namespace Go.Proofs.Ythelhieeplfffaa.P
open Go.RowKit Go.Maps Go.Proofs.YthelhieeplfffaaW.PrintWords Go.Proofs.YthelhieeplfffaaW.PrintLast Go.Proofs.YthelhieeplfffaaW.PrintMore
set_option linter.unusedVariables false
set_option linter.unusedSimpArgs false

theorem at_T34 {w : World} {A : Option Addr} {n : Nat} {xs : List Ac} (h : Kd.C k34 w A n xs) (i : Nat) (h1 : i < n) : ∃ (ad : Addr) (x : Ac) (A1 : Option Addr) (c1 : Nat) (A2 : Option Addr) (c2 : Nat) (A3 : Option Addr) (c3 : Nat), A = some ad ∧
    w.cell? ⟨(ad.add (i * 10)).block, (ad.add (i * 10)).off + 1, none⟩ = some (.int .i64 x.client) ∧ w.cell? ⟨(ad.add (i * 10)).block, (ad.add (i * 10)).off + 2, none⟩ = some (.int .i64 x.num) ∧
    w.cell? ⟨(ad.add (i * 10)).block, (ad.add (i * 10)).off + 3, none⟩ = some (.int .i64 x.r.e) ∧ w.cell? ⟨(ad.add (i * 10)).block, (ad.add (i * 10)).off + 4, none⟩ = some (.int .i64 x.r.s) ∧ w.cell? ⟨(ad.add (i * 10)).block, (ad.add (i * 10)).off + 5, none⟩ = some (.int .i64 x.r.n) ∧
    w.cell? ⟨(ad.add (i * 10)).block, (ad.add (i * 10)).off + 6, none⟩ = some (.slice A1 x.r.got.length c1) ∧ w.cell? ⟨(ad.add (i * 10)).block, (ad.add (i * 10)).off + 7, none⟩ = some (.slice A2 x.r.data.length c2) ∧ w.cell? ⟨(ad.add (i * 10)).block, (ad.add (i * 10)).off + 8, none⟩ = some (.slice A3 x.r.about.length c3) ∧
    Aside0 ((x.r.got.length ≤ c1 ∧ x.r.data.length ≤ c2 ∧ x.r.about.length ≤ c3) ∧ k56.C w A1 x.r.got.length x.r.got ∧ Kd.string.C w A2 x.r.data.length x.r.data ∧ k76.C w A3 x.r.about.length x.r.about) := by
  obtain ⟨ad, c, e, _, hK, hc0⟩ := Kd.C_get h z34 (i : Int) (by omega) (by omega)
  rw [Int.toNat_natCast] at hK hc0
  have hc : ∀ j u, c[j]? = some u → w.cell? (ad.add (i * 10 + j)) = some u := hc0
  obtain ⟨A1, c1, A2, c2, A3, c3, A4, c4, rfl, hl, g1, g2, g3⟩ := k34_open hK
  exact ⟨ad, xs.getD i z34, A1, c1, A2, c2, A3, c3, e, by rw [← add_field _ _ 1 (by omega)]; exact hc 1 _ rfl, by rw [← add_field _ _ 2 (by omega)]; exact hc 2 _ rfl, by rw [← add_field _ _ 3 (by omega)]; exact hc 3 _ rfl, by rw [← add_field _ _ 4 (by omega)]; exact hc 4 _ rfl, by rw [← add_field _ _ 5 (by omega)]; exact hc 5 _ rfl, by rw [← add_field _ _ 6 (by omega)]; exact hc 6 _ rfl, by rw [← add_field _ _ 7 (by omega)]; exact hc 7 _ rfl, by rw [← add_field _ _ 8 (by omega)]; exact hc 8 _ rfl, ⟨hl, g1, g2, g3⟩⟩

/-- The blocks of the three maps. -/
def S3 (b bL bS : Nat) : Nat → Prop := fun k => k = b ∨ k = bL ∨ k = bS
def zR : Value := .agg #[.int .i64 0, .int .i64 0, .int .i64 0, .slice none 0 0, .slice none 0 0, .slice none 0 0]
structure LInv (w0 w : World) (B b bL bS i : Nat) (M : LM) : Prop where
  tab : TabR (S3 b bL bS) w B b i M
  las : MapAt NumP (.int .i64 0) w bL i (mapG (fun x : Int × Rp => x.1) M)
  sai : MapAt (RepP (S3 b bL bS) w) zR w bS i (mapG (fun x : Int × Rp => x.2) M)
  len : M.length ≤ i
  key : ∀ x ∈ M, 1 ≤ x.1 ∧ x.1 ≤ 5 ∧ 1 ≤ x.2.1 ∧ x.2.1 ≤ 20 ∧ x.2.2.few
  bel : Below w0.heap.size w0 w
/-- What holds of the three blocks. -/
structure LAp (w0 : World) (B b bL bS : Nat) : Prop where
  b1 : w0.heap.size ≤ b
  b2 : w0.heap.size ≤ bL
  b3 : w0.heap.size ≤ bS
  b4 : b ≠ bL
  b5 : b ≠ bS
  b6 : bL ≠ bS
  b7 : B ≠ bL
  b8 : B ≠ bS
theorem LInv.lt {w0 w : World} {B b bL bS i : Nat} {M : LM} (h : LInv w0 w B b bL bS i M) : ∀ k, S3 b bL bS k → k < w.heap.size := by
  rintro k (rfl | rfl | rfl)
  · exact h.tab.lt.2.1
  · exact h.las.lt
  · exact h.sai.lt
theorem MapAt.mono {β : Type} {P : β → Value → Prop} {z : Value} {w : World} {b q q' : Nat} {M : List (Int × β)} (h : MapAt P z w b q M) (hq : q ≤ q') : MapAt P z w b q' M := by
  obtain ⟨D, h2, h3⟩ := h
  exact ⟨D, h2.mono hq, h3⟩
theorem LInv.below {w0 w w' : World} {B b bL bS i : Nat} {M : LM} (h : LInv w0 w B b bL bS i M) (hb : Below w.heap.size w w') : LInv w0 w' B b bL bS i M :=
  ⟨h.tab.below hb, h.las.keep (hb.block _ h.las.lt) (fun _ _ h => h), h.sai.keep (hb.block _ h.sai.lt) (RepP.kept (Kept.of_below hb _)), h.len, h.key, h.bel.trans (hb.mono h.bel.size)⟩
theorem LInv.mono {w0 w : World} {B b bL bS i j : Nat} {M : LM} (h : LInv w0 w B b bL bS i M) (hij : i ≤ j) : LInv w0 w B b bL bS j M :=
  ⟨h.tab.mono hij, h.las.mono hij, h.sai.mono hij, Nat.le_trans h.len hij, h.key, h.bel⟩
theorem S3.b (b bL bS : Nat) : S3 b bL bS b := Or.inl rfl
theorem LInv.noted {w0 w w' : World} {B b bL bS i : Nat} {M : LM} (h : LInv w0 w B b bL bS i M) (ha : LAp w0 B b bL bS) (hg : w.grownBy w' (some b)) :
    (MapAt NumP (.int .i64 0) w' bL i (mapG (fun x : Int × Rp => x.1) M) ∧ MapAt (RepP (S3 b bL bS) w') zR w' bS i (mapG (fun x : Int × Rp => x.2) M)) ∧ Below w0.heap.size w0 w' ∧ Kept w w' (S3 b bL bS) := by
  have hk : Kept w w' (S3 b bL bS) := Kept.of_grown hg (Kept.refl w _) (fun k hk => Or.inl (by cases hk; exact S3.b _ _ _))
  refine ⟨⟨h.las.keep (hg.block _ h.las.lt (fun e => ?_)) (fun _ _ h => h), h.sai.keep (hg.block _ h.sai.lt (fun e => ?_)) (RepP.kept hk)⟩, h.bel.grown hg h.bel.size (fun k hk => by cases hk; exact ha.b1), hk⟩
  · exact ha.b4 (Option.some.inj e).symm
  · exact ha.b5 (Option.some.inj e).symm
theorem zero3 (w : World) : (zeroValue 3).run Try.prog w = .ok (.int .i64 0) w := by kernel_rfl
theorem zero32 (w : World) : (zeroValue 32).run Try.prog w = .ok zR w := by kernel_rfl
theorem owns_grown {w w' : World} {b q : Nat} {D : DataW Value} {row : Option Nat} (h : w.ownsMap Try.prog 3 RH b q D) (hg : w.grownBy w' row) (hne : some b ≠ row) : w'.ownsMap Try.prog 3 RH b q D := by
  have hl := h.lt
  obtain ⟨es, clock, h3, h4⟩ := h
  exact ⟨es, clock, (hg.block b hl hne).trans h3, h4⟩
theorem LInv.put2 {w0 w w6 w7 w8 : World} {B b bL bS i : Nat} {M : LM} {c n : Int} {r : Rp} {g d a : Value} (h : LInv w0 w B b bL bS i M) (ha : LAp w0 B b bL bS) (hT : TabR (S3 b bL bS) w6 B b (i + 1) (putM c (n, r) M)) (hb6 : Below w0.heap.size w0 w6)
    (DL : DataW Value) (hrl : RelG NumP (.int .i64 0) DL (mapG (fun x : Int × Rp => x.1) M)) (tL : Tidy DL) (hol : w7.ownsMap Try.prog 3 RH bL (i + 1) (DL.put (.int .i64 c) (.held (.int .i64 n)))) (h67 : w6.grownBy w7 (some bL))
    (DS : DataW Value) (hrs : RelG (RepP (S3 b bL bS) w7) zR DS (mapG (fun x : Int × Rp => x.2) M)) (tS : Tidy DS) (hos : w8.ownsMap Try.prog 3 RH bS (i + 1) (DS.put (.int .i64 c) (.held (repV r g d a)))) (h78 : w7.grownBy w8 (some bS))
    (hrp : RepAt (S3 b bL bS) w7 r g d a) (hf : r.few) (hc : 1 ≤ c ∧ c ≤ 5) (hn : 1 ≤ n ∧ n ≤ 20) : LInv w0 w8 B b bL bS (i + 1) (putM c (n, r) M) := by
  have k67 : Kept w6 w7 (S3 b bL bS) := Kept.of_grown h67 (Kept.refl _ _) (fun k hk => Or.inl (by cases hk; exact Or.inr (Or.inl rfl)))
  have k78 : Kept w7 w8 (S3 b bL bS) := Kept.of_grown h78 (Kept.refl _ _) (fun k hk => Or.inl (by cases hk; exact Or.inr (Or.inr rfl)))
  have hlt := hT.lt
  have e1 : ∀ k, k < w6.heap.size → k ≠ bL → k ≠ bS → w8.heap[k]? = w6.heap[k]? := fun k hk h1 h2 =>
    (h78.block k (Nat.lt_of_lt_of_le hk h67.size) (fun e => h2 (Option.some.inj e))).trans (h67.block k hk (fun e => h1 (Option.some.inj e)))
  have hb7 : Below w0.heap.size w0 w7 := hb6.grown h67 hb6.size (fun k hk => by cases hk; exact ha.b2)
  refine ⟨hT.keep (k67.then_ k78 (fun k hk => Or.inl hk)) (e1 B hlt.1 ha.b7 ha.b8) (e1 b hlt.2.1 ha.b4 ha.b5), ?_, ?_, Nat.le_trans (putM_len _ _ _) (Nat.succ_le_succ h.len), fun x hx => ?_, hb7.grown h78 hb7.size (fun k hk => by cases hk; exact ha.b3)⟩
  · rw [mapG_put]
    exact ⟨_, owns_grown hol h78 (fun e => ha.b6 (Option.some.inj e)), hrl.put tL c n _ rfl⟩
  · rw [mapG_put]
    exact ⟨_, hos, (hrs.imp (fun x v => RepP.kept k78 x v)).put tS c r _ ⟨g, d, a, rfl, hrp.kept k78, hf⟩⟩
  · rcases putM_mem _ _ _ _ hx with rfl | hx
    · exact ⟨hc.1, hc.2, hn.1, hn.2, hf⟩
    · exact h.key x hx
theorem look_run {P : Program} {w : World} {k e t b n : Nat} {D : DataW Value} (hown : w.ownsMap P k RH b n D) (K : Keyed P k) (ht : P.underlying t = some (.map k e)) {z : Value} (hz : (zeroValue e).run P w = .ok z w) {key : Value} {kl : Lit} (hkey : keyOf P k key = some kl) {V : Value} (hat : D.atKey kl (.held z) = .held V) : (Instr.lookup t (.map (some b)) key false).run P w = .ok V w := by
  obtain ⟨v, ps, hrun, hv⟩ := hown.lookup K ht hz (zd := .held z) (zp := []) rfl hkey
  rw [hat] at hv
  unfold RH at hv
  injection hv with hv
  injection hv with hv _
  injection hv with hv
  subst hv
  exact hrun
theorem look_by {P : Program} (w : World) {ops : Array Oper} {rest : List Oper} {o : Oper} {a : Act} {Q : Exit → Act → World → Prop}
    (hg : o.guard = none) (m x : Operand) (t : TypeId) (hop : o.op = Op.lookup t m x false) (mv key V : Value) (hm : a.eval m = mv) (hx : a.eval x = key) (hrun : (Instr.lookup t mv key false).run P w = .ok V w)
    (hK : wpList P ops Q rest (a.put o.dst V) w) : wpList P ops Q (o :: rest) a w := by
  refine wpList_plain hg fun K' hK' => ?_
  unfold Oper.wp
  simp [execOp, hop, hm, hx, hrun, Result.andThen]
  exact hK' _ _ hK
theorem key3 {c : Int} (h : 1 ≤ c ∧ c ≤ 5) : keyOf Try.prog 3 (.int .i64 c) = some (.int .i64 c) := keyOf_int_mk (P := Try.prog) (k := 3) Try.underlying3 (show (Lit.int .i64 c).wf = true by simp [Lit.wf]; simp [IntKind.min, IntKind.bits]; omega)
theorem LInv.las_run {w0 w : World} {B b bL bS i : Nat} {M : LM} (h : LInv w0 w B b bL bS i M) {c : Int} {y : Int × Rp} (hin : (c, y) ∈ M) : (Instr.lookup 25 (.map (some bL)) (.int .i64 c) false).run Try.prog w = .ok (.int .i64 y.1) w := by
  have hk := h.key _ hin
  obtain ⟨D, ho, hr⟩ := h.las
  obtain ⟨v, h1, h2⟩ := hr.vals (c, y.1) (List.mem_map.2 ⟨_, hin, rfl⟩)
  unfold NumP at h2
  subst h2
  exact look_run ho law3 Try.underlying25 (zero3 _) (key3 ⟨hk.1, hk.2.1⟩) h1
theorem LInv.sai_run {w0 w : World} {B b bL bS i : Nat} {M : LM} (h : LInv w0 w B b bL bS i M) {c : Int} {y : Int × Rp} (hin : (c, y) ∈ M) : ∃ (A1 : Option Addr) (c1 : Nat) (A2 : Option Addr) (c2 : Nat) (A3 : Option Addr) (c3 : Nat), (y.2.got.length ≤ c1 ∧ y.2.data.length ≤ c2 ∧ y.2.about.length ≤ c3) ∧ (∀ w', Below w.heap.size w w' → (k56.C w' A1 y.2.got.length y.2.got ∧ Kd.string.C w' A2 y.2.data.length y.2.data ∧ k76.C w' A3 y.2.about.length y.2.about)) ∧ ∀ w', Below w.heap.size w w' → (Instr.lookup 26 (.map (some bS)) (.int .i64 c) false).run Try.prog w' = .ok (.agg #[.int .i64 y.2.e, .int .i64 y.2.s, .int .i64 y.2.n, .slice A1 y.2.got.length c1, .slice A2 y.2.data.length c2, .slice A3 y.2.about.length c3]) w' := by
  have hk := h.key _ hin
  obtain ⟨D, ho, hr⟩ := h.sai
  obtain ⟨v, h1, g, d, a, rfl, ⟨⟨A1, c1, rfl, l1, g1⟩, ⟨A2, c2, rfl, l2, g2⟩, ⟨A3, c3, rfl, l3, g3⟩⟩, h4⟩ := hr.vals (c, y.2) (List.mem_map.2 ⟨_, hin, rfl⟩)
  refine ⟨A1, c1, A2, c2, A3, c3, ⟨l1, l2, l3⟩, fun w' hb => ⟨g1 w' (Kept.of_below hb _), g2 w' (Kept.of_below hb _), g3 w' (Kept.of_below hb _)⟩, fun w' hb => ?_⟩
  exact look_run (owns_below ho hb) law3 Try.underlying26 (zero32 _) (key3 ⟨hk.1, hk.2.1⟩) h1
end Go.Proofs.Ythelhieeplfffaa.P
