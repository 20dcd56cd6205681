-- Cut down and merged by the session's own program (wip/tools/prune.py): SepH, SepI, P2, P3, P24, P25, P1, P26, P4, P27, P28, P29, SepK, RJ, RK, RL, GSh, RM, GSw, PTot, GInv, GWP, GW, PNum, PEnd, Opens, HOp, RQ.
import Derived.Test.YtonedijkgddepaaSq
import Derived.Test.YtonedijkgddepaaGT
import Derived.Test.YtonedijkgddepaaP22
import Derived.Test.YtonedijkgddepaaP0
import Derived.Test.YtonedijkgddepaaGL
import Derived.Test.YtonedijkgddepaaSepL
import Derived.Test.YtonedijkgddepaaSepG
import Derived.Test.YtonedijkgddepaaP15
import Derived.Test.YtonedijkgddepaaP16
import Derived.Test.YtonedijkgddepaaP17
import Derived.Test.YtonedijkgddepaaP18
import Derived.Test.YtonedijkgddepaaP19
import Derived.Test.YtonedijkgddepaaP20
import Derived.Laws.BitsAllLaws
import Derived.Test.YtonedijkgddepaaGQ
import Derived.Test.YtonedijkgddepaaGS
import Derived.Test.YtonedijkgddepaaSepF
import Derived.Test.YtonedijkgddepaaWWords
import Derived.Deep.Slices
import Derived.SizedLaws
import Derived.ChangeArms
import Derived.DataReads
import Derived.Test.YtonedijkgddepaaWFoot
namespace Go.Proofs.Ytonedijkgddepaa.P
open Go.Sq
open Go.RowKit Go.Maps Go.Proofs.YtonedijkgddepaaW.PrintWords Go.Proofs.YtonedijkgddepaaW.PrintLast Go.Proofs.YtonedijkgddepaaW.PrintMore
set_option linter.unusedVariables false
set_option linter.unusedSimpArgs false

theorem St.elem {w0 w : World} {L : List Thing} (h : St w0 w L) (n : Nat) {α : Type} {d : Kd α} {e m c g : Nat} {xs : List α} (hx : L[n]? = some (Row d e (.slice (some ⟨g, 0, none⟩) m c) xs)) (i : Nat) (hi : i < xs.length) (z : α) :
  ∃ cs, d.K w (xs.getD i z) cs ∧ ∀ j u, cs[j]? = some u → w.cell? ⟨g, i * d.sz + j, none⟩ = some u := by
 have h1 := (h.reads n hx).1
 obtain ⟨ad, cs, e1, _, h3, h4⟩ := h1.get_ z (i : Int) (Int.natCast_nonneg _) (by omega)
 injection e1 with e1
 subst e1
 refine ⟨cs, by simpa using h3, fun j u hj => ?_⟩
 have h5 := h4 j u hj
 rw [Int.toNat_natCast] at h5
 rwa [Addr.add_lit, Nat.zero_add] at h5
theorem St.head {w0 w : World} {L : List Thing} (h : St w0 w L) (n : Nat) {α : Type} {d : Kd α} {e m c : Nat} {A : Option Addr} {xs : List α} (hx : L[n]? = some (Row d e (.slice A m c) xs)) (hp : 0 < xs.length) : ∃ g, A = some ⟨g, 0, none⟩ := by
 obtain ⟨_, _, _, h1, _⟩ := (h.bring n hx).sts
 obtain ⟨g, cap, hv, _⟩ := Kd.R_form h1.1 hp
 injection hv with hv
 exact ⟨g, hv⟩
def pkCells (x : S47) : List (Option Value) := [(some (.int .i64 x.f0)), (some (.int .i64 x.f1)), (some (.int .i64 x.f2)), (some (.int .i64 x.f3)), (some (.int .i64 x.f4.f0)), (some (.int .i64 x.f4.f1)), (some (.int .i64 x.f4.f2)), (some (.int .i64 x.f4.f3)), (some (.int .i64 x.f4.f4)), (some (.int .i64 x.f4.f5)), none, none, (some (.int .i64 x.f5.f0)), (some (.int .i64 x.f5.f1)), (some (.int .i64 x.f5.f2)), (some (.int .i64 x.f5.f3)), (some (.int .i64 x.f5.f4)), (some (.string x.f5.f5)), (some (.string x.f5.f6)), (some (.string x.f5.f7)), (some (.string x.f5.f8)), (some (.int .i64 x.f5.f9)), (some (.int .i64 x.f5.f10)), (some (.int .i64 x.f5.f11.f0)), (some (.string x.f5.f11.f1)), (some (.int .i64 x.f5.f11.f2)), (some (.int .i64 x.f5.f11.f3)), (some (.int .i64 x.f5.f12.f0)), (some (.int .i64 x.f5.f12.f1)), (some (.int .i64 x.f5.f13)), none, (some (.int .i64 x.f6.f0)), (some (.int .i64 x.f6.f1)), (some (.int .i64 x.f6.f2)), none, none, none, (some (.int .i64 x.f7.f0)), none, none]
theorem pk_cell {w0 w : World} {L : List Thing} (h : St w0 w L) (n : Nat) {e m c g : Nat} {xs : List S47} (hx : L[n]? = some (Row k47 e (.slice (some ⟨g, 0, none⟩) m c) xs)) (i : Nat) (hi : i < xs.length) (j : Nat) {u : Value} (hj : (pkCells (xs.getD i z47))[j]? = some (some u)) : w.cell? ⟨g, i * 40 + j, none⟩ = some u := by
 obtain ⟨cs, hK, hc⟩ := h.elem n hx i hi z47
 obtain ⟨A10, c10, A11, c11, A30, c30, A34, c34, A35, c35, A36, c36, A38, c38, A39, c39, rfl, _⟩ := k47_open hK
 refine hc j u ?_
 generalize xs.getD i z47 = x at hj ⊢
 have hlt : j < 40 := by
  rcases Nat.lt_or_ge j 40 with h | h
  ·exact h
  ·rw [List.getElem?_eq_none (by simpa [pkCells] using h)] at hj; cases hj
 revert hj
 unfold pkCells
 revert hlt
 repeat' (first | (rcases j with _ | j; (intro _ hj; first | exact (Option.some.inj hj ▸ rfl) | (injection hj with hj; cases hj))) | (intro h; omega))
def repCells (x : S42) : List (Option Value) := [(some (.int .i64 x.f0)), (some (.int .i64 x.f1)), (some (.int .i64 x.f2)), none, none, none]
theorem rep_cell {w0 w : World} {L : List Thing} (h : St w0 w L) (n : Nat) {e m c g : Nat} {xs : List S42} (hx : L[n]? = some (Row kRep e (.slice (some ⟨g, 0, none⟩) m c) xs)) (i : Nat) (hi : i < xs.length) (j : Nat) {u : Value} (hj : (repCells (xs.getD i z42))[j]? = some (some u)) : w.cell? ⟨g, i * 6 + j, none⟩ = some u := by
 obtain ⟨cs, hK, hc⟩ := h.elem n hx i hi z42
 obtain ⟨A3, c3, A4, c4, A5, c5, rfl⟩ := hK
 refine hc j u ?_
 generalize xs.getD i z42 = x at hj ⊢
 revert hj
 unfold repCells
 repeat' (first | (rcases j with _ | j; (intro hj; first | exact (Option.some.inj hj ▸ rfl) | (injection hj with hj; cases hj))) | (intro hj; simp at hj; done))
theorem unguard {P : Program} {ops : Array Oper} {rest : List Oper} {o : Oper} {a : Act} {Q : Exit → Act → World → Prop} {W : World} (hw : Region.wanted o (yielded ops a.tmps) = true) (h : wpList P ops Q ({ o with guard := none } :: rest) a W) : wpList P ops Q (o :: rest) a W := by
 unfold wpList at h ⊢
 rw [if_pos (by simp [Region.wanted])] at h
 rw [if_pos hw]
 exact h
theorem cli_out {w0 w w' : World} {BC BA bl q q' : Nat} {a a' : As} {c c' : Cl} {v1 v2 v3 v4 : Value} {L : List Thing} (h : St w0 w (cliT BC BA bl q a c v1 v2 v3 v4 ++ L)) (hb : w'.heap[BC]? = some (.cells (cliA BA c' v1 v2 v3 v4) 91 (0, 0))) (ha : AskAt w' BA bl q' a') (hu : Upd w w' (SC BC BA bl))
  (e1 : c'.call.entries = c.call.entries) (e2 : c'.pieces = c.pieces) (e3 : c'.sweep = c.sweep) (e4 : c'.out = c.out) : St w0 w' (cliT BC BA bl q' a' c' v1 v2 v3 v4 ++ L) := by
 show St w0 w' ([Blk BC (cliA BA c' v1 v2 v3 v4) 91, Blk BA (askA a' bl) 97, MapT bl q' a'.lead] ++ (Row k106 106 v1 c'.call.entries :: Row k108 108 v2 c'.pieces :: Row (Kd.int .i64) 3 v3 c'.sweep :: Row k42 42 v4 c'.out :: L))
 rw [e1, e2, e3, e4]
 refine St.byUpd (A := [Blk BC (cliA BA c v1 v2 v3 v4) 91, Blk BA (askA a bl) 97, MapT bl q a.lead]) h hu ?_
 rintro S ⟨S1, S2, g1, ⟨S3, S4, g2, ⟨S5, S6, g3, g8, g9, g10⟩, g4, g5⟩, g6, g7⟩
 refine ⟨fun k hk => ?_, S, ⟨S1, S2, ⟨hb, g1.2⟩, ⟨S3, S4, ⟨ha.blk, g2.2⟩, ⟨S5, S6, ⟨ha.map, g3.2⟩, g8, g9, g10⟩, g4, g5⟩, g6, g7⟩, fun k hk => .inl hk⟩
 rcases hk with hk | hk | hk
 ·exact (g7 k).2 (.inl ((g1.2 k).2 hk))
 ·exact (g7 k).2 (.inr ((g5 k).2 (.inl ((g2.2 k).2 hk))))
 ·exact (g7 k).2 (.inr ((g5 k).2 (.inr ((g10 k).2 (.inl ((g3.2 k).2 hk))))))
theorem nextSendT (w0 : World) (L : List Thing) (BC BA bl q : Nat) (a : As) (c : Cl) (v1 v2 v3 v4 : Value) (hk : a.ok q) (i : Nat) (hst : c.step = (i : Int)) (hi : i < c.call.entries.length) (hsw : sweepsB c.call.kind = false) (r g : Int) (hr : ∃ k, place_Of.f k (entG c.call.kind (c.call.entries.getD i z106)) = some r) (hg : ∃ k, chart_Of.f k c.epoch c.pieces r = some g) :
  NextDoes w0 L BC BA bl q a c v1 v2 v3 v4 (askV a g (cmdV c.call (c.call.entries.getD i z106))).2 c := fun W h =>
 (cliNextSend W 0 BC BA bl q a c v1 v2 v3 v4 (cli_in h) hk i hst hi hsw r g hr hg).mono (fun e w' hp => ⟨hp.1, v3, cli_out h hp.2.1.blk hp.2.1.ask hp.2.2 rfl rfl rfl rfl⟩)
theorem firstT (w0 w : World) (L : List Thing) (h : St w0 w L) (k : Nat) (n e : Int) (xs : List S108) (r : Int) (hf : racewayref15_First.f k n = some (e, xs, r)) :
  Calls Try.prog 15 #[.int .i64 n] w fun e' w' => ∃ A c, e' = .returned (.tuple #[.agg #[.int .i64 e, .slice A xs.length c], .int .i64 r]) ∧ St w0 w' (Row k108 108 (.slice A xs.length c) xs :: L) :=
 (racewayref15_First.calls k n e xs r w hf).mono (fun e' w' hp => by
  obtain ⟨v, rfl, hR, hb⟩ := hp
  obtain ⟨A, c, rfl⟩ := Kd.R_slice hR
  exact ⟨A, c, rfl, h.newRow hb hR⟩)
theorem Mem.reads {w : World} {L : List Thing} (h : Mem w L) (n : Nat) {α : Type} {d : Kd α} {e m c : Nat} {A : Option Addr} {xs : List α} (hx : L[n]? = some (Row d e (.slice A m c) xs)) : d.C w A xs.length xs ∧ xs.length ≤ c := by
 obtain ⟨S, hs⟩ := h
 obtain ⟨_, _, h1, _⟩ := hs.perm (perm_bring L n _ hx)
 have h2 := Kd.R_reads' h1.1
 exact ⟨h2.2.2, h2.1 ▸ h2.2.1⟩
end Go.Proofs.Ytonedijkgddepaa.P
namespace Go.Proofs.Ytonedijkgddepaa.P
open Go.Sq
open Go.RowKit Go.Maps Go.Proofs.YtonedijkgddepaaW.PrintWords Go.Proofs.YtonedijkgddepaaW.PrintLast Go.Proofs.YtonedijkgddepaaW.PrintMore
set_option linter.unusedVariables false
set_option linter.unusedSimpArgs false
section
variable {P : Program} {ops : Array Oper} {rest : List Oper} {o : Oper} {a : Act} {Q : Exit → Act → World → Prop} {W w0 : World} {L : List Thing}
theorem index_run (t : TypeId) {g off len cap sz o' : Nat} {k : IntKind} {i : Int} (h0 : 0 ≤ i) (h1 : i < len) (hu : P.underlying t = some (.slice (P.elem t))) (hs : (P.info? (P.elem t)).map (·.size) = some sz) (ho : off + i.toNat * sz = o') (w : World) :
  (Instr.indexAt t (.slice (some ⟨g, off, none⟩) len cap) (.int k i)).run P w = .ok (.pointer (some ⟨g, o', none⟩)) w := by
 obtain ⟨inf, hi, hsz⟩ := Option.map_eq_some_iff.1 hs
 rw [run_indexAt_slice _ _ _ _ _ _ _ hu, if_pos ⟨h0, h1⟩]
 simp only [sizeOf, typeInfo]
 simp [hi, hsz, Result.andThen]
 rw [Addr.add_lit, ho]
theorem yields_index {op : Oper} (hw : Region.wanted op (yielded ops a.tmps) = true) (t : TypeId) (x ix : Operand) (hop : op.op = .indexAddr t x ix) {g off len cap sz o' : Nat} {k : IntKind} {i : Int} (hx : a.eval x = .slice (some ⟨g, off, none⟩) len cap) (hix : a.eval ix = .int k i) (h0 : 0 ≤ i) (h1 : i < len) (hu : P.underlying t = some (.slice (P.elem t))) (hs : (P.info? (P.elem t)).map (·.size) = some sz) (ho : off + i.toNat * sz = o') :
  Yields P ops op (.pointer (some ⟨g, o', none⟩)) a := Or.inl ⟨hw, fun w => by
 unfold execOp
 rw [hop]
 simp only [hx, hix]
 simp [index_run t h0 h1 hu hs ho]⟩
end
theorem g7 {g : Int} (h : 0 ≤ g ∧ g ≤ 6) : g = 0 ∨ g = 1 ∨ g = 2 ∨ g = 3 ∨ g = 4 ∨ g = 5 ∨ g = 6 := by omega
end Go.Proofs.Ytonedijkgddepaa.P
namespace Go.Proofs.Ytonedijkgddepaa.P
open Go.Sq
open Go.RowKit Go.Proofs.YtonedijkgddepaaW.PrintWords Go.Proofs.YtonedijkgddepaaW.PrintLast Go.Proofs.YtonedijkgddepaaW.PrintMore
attribute [local go_sem] max2_int min2_int max_two min_two max_three min_three max_four min_four   -- for this text's walks alone
set_option linter.unusedVariables false
set_option linter.unusedSimpArgs false

theorem eqA35 (d : Nat) (w : World) (x0 y0 : Int) (x1 y1 : Int) :
  (Op.equalIn (d + 2) 35 (.agg #[.int .i64 x0, .int .i64 x1]) (.agg #[.int .i64 y0, .int .i64 y1])).run Try.prog w = .ok (x0 == y0 && (x1 == y1)) w := by
 refine eqA_of Try.underlying35 (by kernel_rfl) ?_
 refine eqf_cons (by rfl) (by go_simp; rfl) (by go_simp; rfl) (by go_simp) ?_
 exact eqf_last (by rfl) (by go_simp; rfl) (by go_simp; rfl) (by go_simp)
end Go.Proofs.Ytonedijkgddepaa.P
namespace Go.Proofs.Ytonedijkgddepaa.P
open Go.Sq
open Go.RowKit Go.Proofs.YtonedijkgddepaaW.PrintWords Go.Proofs.YtonedijkgddepaaW.PrintLast Go.Proofs.YtonedijkgddepaaW.PrintMore
attribute [local go_sem] max2_int min2_int max_two min_two max_three min_three max_four min_four   -- for this text's walks alone
set_option linter.unusedVariables false
set_option linter.unusedSimpArgs false

theorem eqA108 (d : Nat) (w : World) (x0 y0 : Int) (x1 y1 : Int) (x2 y2 : Int) :
  (Op.equalIn (d + 3) 108 (.agg #[.int .i64 x0, .int .i64 x1, .int .i64 x2]) (.agg #[.int .i64 y0, .int .i64 y1, .int .i64 y2])).run Try.prog w = .ok ((x0 == y0 && (x1 == y1)) && (x2 == y2)) w := by
 refine eqA_of Try.underlying108 (by kernel_rfl) ?_
 refine eqf_cons (by rfl) (by go_simp) (by go_simp) (eqA35 (d + 0) w _ _ _ _) ?_
 exact eqf_last (by rfl) (by go_simp; rfl) (by go_simp; rfl) (by go_simp)
end Go.Proofs.Ytonedijkgddepaa.P
namespace Go.Proofs.Ytonedijkgddepaa.P
open Go.Sq
open Go.RowKit Go.Proofs.YtonedijkgddepaaW.PrintWords Go.Proofs.YtonedijkgddepaaW.PrintLast Go.Proofs.YtonedijkgddepaaW.PrintMore
attribute [local go_sem] max2_int min2_int max_two min_two max_three min_three max_four min_four   -- for this text's walks alone
set_option linter.unusedVariables false
set_option linter.unusedSimpArgs false
attribute [local go_sem high] eqA108
mutual
def racewayref15_Same.j0 : Nat → Bool → Int → List (S108) → Int → List (S108) → Option (Bool)
 | 0, _, _, _, _, _ => none
 | k + 1, x19, x287000, x287001, x288000, x288001 => if x19 = true then (some false) else (racewayref15_Same.l0 k 0 x287000 x287001 x288000 x288001)
def racewayref15_Same.l0 : Nat → Int → Int → List (S108) → Int → List (S108) → Option (Bool)
 | 0, _, _, _, _, _ => none
 | k + 1, x5, x287000, x287001, x288000, x288001 => if x5 < (x287001.length : Int) then (if 0 ≤ x5 then (if x5 < (x288001.length : Int) then (if ((!(((rd_T108 x287001 x5).f0.f0) == ((rd_T108 x288001 x5).f0.f0)) || (!(((rd_T108 x287001 x5).f0.f1) == ((rd_T108 x288001 x5).f0.f1)))) || (!(((rd_T108 x287001 x5).f1) == ((rd_T108 x288001 x5).f1)))) = true then (some false) else (racewayref15_Same.l0 k (wrap64 (x5 + 1)) x287000 x287001 x288000 x288001)) else (none)) else (none)) else (some true)
end
def racewayref15_Same.f (k : Nat) (a0_0 : Int) (l0_1 : List (S108)) (a1_0 : Int) (l1_1 : List (S108)) : Option (Bool) := if a0_0 = a1_0 then (racewayref15_Same.j0 k ((l0_1.length : Int) != (l1_1.length : Int)) a0_0 l0_1 a1_0 l1_1) else (racewayref15_Same.j0 k true a0_0 l0_1 a1_0 l1_1)
theorem racewayref15_Same.mono_l : ∀ k, (∀ y0 y1 y2 y3 y4, LeO (racewayref15_Same.j0 k y0 y1 y2 y3 y4) (racewayref15_Same.j0 (k + 1) y0 y1 y2 y3 y4)) ∧ (∀ y0 y1 y2 y3 y4, LeO (racewayref15_Same.l0 k y0 y1 y2 y3 y4) (racewayref15_Same.l0 (k + 1) y0 y1 y2 y3 y4))
 | 0 => ⟨fun _ _ _ _ _ r h => by simp [racewayref15_Same.j0] at h, fun _ _ _ _ _ r h => by simp [racewayref15_Same.l0] at h⟩
 | k + 1 => by
  obtain ⟨ih0, ih1⟩ := racewayref15_Same.mono_l k
  refine ⟨?_, ?_⟩
  ·intro y0 y1 y2 y3 y4
   unfold racewayref15_Same.j0
   repeat' first
   | (with_reducible exact ih0 _ _ _ _ _)
   | (with_reducible exact ih1 _ _ _ _ _)
   | (with_reducible exact LeO.refl _)
   | (with_reducible exact LeO.none _)
   | (with_reducible refine LeO.ite ?_ ?_)
   | (with_reducible refine LeO.bind ?_ (fun _ => ?_))
   | exact ih0 _ _ _ _ _
   | exact ih1 _ _ _ _ _
   | exact LeO.none _
   | refine LeO.ite ?_ ?_
   | refine LeO.bind ?_ (fun _ => ?_)
  ·intro y0 y1 y2 y3 y4
   unfold racewayref15_Same.l0
   repeat' first
   | (with_reducible exact ih0 _ _ _ _ _)
   | (with_reducible exact ih1 _ _ _ _ _)
   | (with_reducible exact LeO.refl _)
   | (with_reducible exact LeO.none _)
   | (with_reducible refine LeO.ite ?_ ?_)
   | (with_reducible refine LeO.bind ?_ (fun _ => ?_))
   | exact ih0 _ _ _ _ _
   | exact ih1 _ _ _ _ _
   | exact LeO.none _
   | refine LeO.ite ?_ ?_
   | refine LeO.bind ?_ (fun _ => ?_)
theorem racewayref15_Same.mono : ∀ a0 a1 a2 a3 k, LeO (racewayref15_Same.f k a0 a1 a2 a3) (racewayref15_Same.f (k + 1) a0 a1 a2 a3) := by
 intro a0 a1 a2 a3 k
 obtain ⟨ih0, ih1⟩ := racewayref15_Same.mono_l k
 unfold racewayref15_Same.f
 repeat' first
   | (with_reducible exact ih0 _ _ _ _ _)
   | (with_reducible exact ih1 _ _ _ _ _)
   | (with_reducible exact LeO.refl _)
   | (with_reducible exact LeO.none _)
   | (with_reducible refine LeO.ite ?_ ?_)
   | (with_reducible refine LeO.bind ?_ (fun _ => ?_))
   | exact ih0 _ _ _ _ _
   | exact ih1 _ _ _ _ _
   | exact LeO.none _
   | refine LeO.ite ?_ ?_
   | refine LeO.bind ?_ (fun _ => ?_)
end Go.Proofs.Ytonedijkgddepaa.P
namespace Go.Proofs.Ytonedijkgddepaa.P
open Go.Sq
open Go.RowKit Go.Proofs.YtonedijkgddepaaW.PrintWords Go.Proofs.YtonedijkgddepaaW.PrintLast Go.Proofs.YtonedijkgddepaaW.PrintMore
attribute [local go_sem] max2_int min2_int max_two min_two max_three min_three max_four min_four   -- for this text's walks alone
set_option linter.unusedVariables false
set_option linter.unusedSimpArgs false
def racewayref01_SameTexts.l0 : Nat → List ByteArray → List ByteArray → Int → Option (Bool)
 | 0, _, _, _ => none
 | k + 1, x0, x1, x5 => if x5 < (x0.length : Int) then (if 0 ≤ x5 then (if x5 < (x1.length : Int) then (if (rdOf ByteArray.empty x0 x5).toList = (rdOf ByteArray.empty x1 x5).toList then (racewayref01_SameTexts.l0 k x0 x1 (wrap64 (x5 + 1))) else (some false)) else (none)) else (none)) else (some true)
def racewayref01_SameTexts.f (k : Nat) (l0 : List ByteArray) (l1 : List ByteArray) : Option (Bool) := if (l0.length : Int) = (l1.length : Int) then (racewayref01_SameTexts.l0 k l0 l1 0) else (some false)
theorem racewayref01_SameTexts.mono_l : ∀ k, (∀ y0 y1 y2, LeO (racewayref01_SameTexts.l0 k y0 y1 y2) (racewayref01_SameTexts.l0 (k + 1) y0 y1 y2))
 | 0 => fun _ _ _ r h => by simp [racewayref01_SameTexts.l0] at h
 | k + 1 => by
  have ih0 := racewayref01_SameTexts.mono_l k
  ·intro y0 y1 y2
   unfold racewayref01_SameTexts.l0
   repeat' first
   | (with_reducible exact ih0 _ _ _)
   | (with_reducible exact LeO.refl _)
   | (with_reducible exact LeO.none _)
   | (with_reducible refine LeO.ite ?_ ?_)
   | (with_reducible refine LeO.bind ?_ (fun _ => ?_))
   | exact ih0 _ _ _
   | exact LeO.none _
   | refine LeO.ite ?_ ?_
   | refine LeO.bind ?_ (fun _ => ?_)
theorem racewayref01_SameTexts.mono : ∀ a0 a1 k, LeO (racewayref01_SameTexts.f k a0 a1) (racewayref01_SameTexts.f (k + 1) a0 a1) := by
 intro a0 a1 k
 have ih0 := racewayref01_SameTexts.mono_l k
 unfold racewayref01_SameTexts.f
 repeat' first
   | (with_reducible exact ih0 _ _ _)
   | (with_reducible exact LeO.refl _)
   | (with_reducible exact LeO.none _)
   | (with_reducible refine LeO.ite ?_ ?_)
   | (with_reducible refine LeO.bind ?_ (fun _ => ?_))
   | exact ih0 _ _ _
   | exact LeO.none _
   | refine LeO.ite ?_ ?_
   | refine LeO.bind ?_ (fun _ => ?_)
end Go.Proofs.Ytonedijkgddepaa.P
namespace Go.Proofs.Ytonedijkgddepaa.P
open Go.Sq
open Go.RowKit Go.Proofs.YtonedijkgddepaaW.PrintWords Go.Proofs.YtonedijkgddepaaW.PrintLast Go.Proofs.YtonedijkgddepaaW.PrintMore
attribute [local go_sem] max2_int min2_int max_two min_two max_three min_three max_four min_four   -- for this text's walks alone
set_option linter.unusedVariables false
set_option linter.unusedSimpArgs false

theorem eqA33 (d : Nat) (w : World) (x0 y0 : Int) (x1 y1 : ByteArray) (x2 y2 : Int) (x3 y3 : Int) :
  (Op.equalIn (d + 2) 33 (.agg #[.int .i64 x0, .string x1, .int .i64 x2, .int .i64 x3]) (.agg #[.int .i64 y0, .string y1, .int .i64 y2, .int .i64 y3])).run Try.prog w = .ok (x0 == y0 && (x1.toList == y1.toList && (x2 == y2 && (x3 == y3)))) w := by
 refine eqA_of Try.underlying33 (by kernel_rfl) ?_
 refine eqf_cons (by rfl) (by go_simp; rfl) (by go_simp; rfl) (by go_simp) ?_
 refine eqf_cons (by rfl) (by go_simp; rfl) (by go_simp; rfl) (by go_simp) ?_
 refine eqf_cons (by rfl) (by go_simp; rfl) (by go_simp; rfl) (by go_simp) ?_
 exact eqf_last (by rfl) (by go_simp; rfl) (by go_simp; rfl) (by go_simp)
end Go.Proofs.Ytonedijkgddepaa.P
namespace Go.Proofs.Ytonedijkgddepaa.P
open Go.Sq
open Go.RowKit Go.Proofs.YtonedijkgddepaaW.PrintWords Go.Proofs.YtonedijkgddepaaW.PrintLast Go.Proofs.YtonedijkgddepaaW.PrintMore
attribute [local go_sem] max2_int min2_int max_two min_two max_three min_three max_four min_four   -- for this text's walks alone
set_option linter.unusedVariables false
set_option linter.unusedSimpArgs false
attribute [local go_sem high] eqA33 eqA35
def racewayref05_Same.f (k : Nat) (a0_0 : Int) (a0_1 : Int) (a0_2 : Int) (a0_3 : Int) (a0_4 : Int) (a0_5 : ByteArray) (a0_6 : ByteArray) (a0_7 : ByteArray) (a0_8 : ByteArray) (a0_9 : Int) (a0_10 : Int) (a0_11 : Int) (a0_12 : ByteArray) (a0_13 : Int) (a0_14 : Int) (a0_15 : Int) (a0_16 : Int) (a0_17 : Int) (l0_18 : List ByteArray) (a1_0 : Int) (a1_1 : Int) (a1_2 : Int) (a1_3 : Int) (a1_4 : Int) (a1_5 : ByteArray) (a1_6 : ByteArray) (a1_7 : ByteArray) (a1_8 : ByteArray) (a1_9 : Int) (a1_10 : Int) (a1_11 : Int) (a1_12 : ByteArray) (a1_13 : Int) (a1_14 : Int) (a1_15 : Int) (a1_16 : Int) (a1_17 : Int) (l1_18 : List ByteArray) : Option (Bool) := (racewayref01_SameTexts.f k l0_18 l1_18).bind fun t327 => (if t327 = true then (if a0_0 = a1_0 then (if a0_1 = a1_1 then (if a0_2 = a1_2 then (if a0_3 = a1_3 then (if a0_4 = a1_4 then (if a0_5.toList = a1_5.toList then (if a0_6.toList = a1_6.toList then (if a0_7.toList = a1_7.toList then (if a0_8.toList = a1_8.toList then (if a0_9 = a1_9 then (if a0_10 = a1_10 then (if (a0_11 == a1_11 && (a0_12.toList == a1_12.toList && (a0_13 == a1_13 && (a0_14 == a1_14)))) = true then (if (a0_15 == a1_15 && (a0_16 == a1_16)) = true then (some (a0_17 == a1_17)) else (some false)) else (some false)) else (some false)) else (some false)) else (some false)) else (some false)) else (some false)) else (some false)) else (some false)) else (some false)) else (some false)) else (some false)) else (some false)) else (some false))
theorem racewayref05_Same.mono : ∀ a0 a1 a2 a3 a4 a5 a6 a7 a8 a9 a10 a11 a12 a13 a14 a15 a16 a17 a18 a19 a20 a21 a22 a23 a24 a25 a26 a27 a28 a29 a30 a31 a32 a33 a34 a35 a36 a37 k, LeO (racewayref05_Same.f k a0 a1 a2 a3 a4 a5 a6 a7 a8 a9 a10 a11 a12 a13 a14 a15 a16 a17 a18 a19 a20 a21 a22 a23 a24 a25 a26 a27 a28 a29 a30 a31 a32 a33 a34 a35 a36 a37) (racewayref05_Same.f (k + 1) a0 a1 a2 a3 a4 a5 a6 a7 a8 a9 a10 a11 a12 a13 a14 a15 a16 a17 a18 a19 a20 a21 a22 a23 a24 a25 a26 a27 a28 a29 a30 a31 a32 a33 a34 a35 a36 a37) := by
 intro a0 a1 a2 a3 a4 a5 a6 a7 a8 a9 a10 a11 a12 a13 a14 a15 a16 a17 a18 a19 a20 a21 a22 a23 a24 a25 a26 a27 a28 a29 a30 a31 a32 a33 a34 a35 a36 a37 k
 unfold racewayref05_Same.f
 repeat' first
   | (with_reducible exact racewayref01_SameTexts.mono _ _ _)
   | (with_reducible exact LeO.refl _)
   | (with_reducible exact LeO.none _)
   | (with_reducible refine LeO.ite ?_ ?_)
   | (with_reducible refine LeO.bind ?_ (fun _ => ?_))
   | exact racewayref01_SameTexts.mono _ _ _
   | exact LeO.none _
   | refine LeO.ite ?_ ?_
   | refine LeO.bind ?_ (fun _ => ?_)
end Go.Proofs.Ytonedijkgddepaa.P
namespace Go.Proofs.Ytonedijkgddepaa.P
open Go.Sq
open Go.RowKit Go.Proofs.YtonedijkgddepaaW.PrintWords Go.Proofs.YtonedijkgddepaaW.PrintLast Go.Proofs.YtonedijkgddepaaW.PrintMore
attribute [local go_sem] max2_int min2_int max_two min_two max_three min_three max_four min_four   -- for this text's walks alone
set_option linter.unusedVariables false
set_option linter.unusedSimpArgs false

theorem eqA115 (d : Nat) (w : World) (x0 y0 : Int) (x1 y1 : ByteArray) (x2 y2 : Int) (x3 y3 : Int) (x4 y4 : ByteArray) (x5 y5 : Int) :
  (Op.equalIn (d + 3) 115 (.agg #[.int .i64 x0, .string x1, .int .i64 x2, .int .i64 x3, .string x4, .int .i64 x5]) (.agg #[.int .i64 y0, .string y1, .int .i64 y2, .int .i64 y3, .string y4, .int .i64 y5])).run Try.prog w = .ok ((x0 == y0 && (x1.toList == y1.toList && (x2 == y2 && (x3 == y3)))) && (x4.toList == y4.toList && (x5 == y5))) w := by
 refine eqA_of Try.underlying115 (by kernel_rfl) ?_
 refine eqf_cons (by rfl) (by go_simp) (by go_simp) (eqA33 (d + 0) w _ _ _ _ _ _ _ _) ?_
 refine eqf_cons (by rfl) (by go_simp; rfl) (by go_simp; rfl) (by go_simp) ?_
 exact eqf_last (by rfl) (by go_simp; rfl) (by go_simp; rfl) (by go_simp)
end Go.Proofs.Ytonedijkgddepaa.P
namespace Go.Proofs.Ytonedijkgddepaa.P
open Go.Sq
open Go.RowKit Go.Proofs.YtonedijkgddepaaW.PrintWords Go.Proofs.YtonedijkgddepaaW.PrintLast Go.Proofs.YtonedijkgddepaaW.PrintMore
attribute [local go_sem] max2_int min2_int max_two min_two max_three min_three max_four min_four   -- for this text's walks alone
set_option linter.unusedVariables false
set_option linter.unusedSimpArgs false
attribute [local go_sem high] eqA35
def racewaylaw18_fewer.f (a0_0 : Int) (a0_1 : Int) (a0_2 : Int) (a0_3 : Int) (a0_4 : ByteArray) (l0_5 : List (S106)) : Option (Int × Int × Int × Int × ByteArray × (List (S106))) := (some (([] : List (S106)) : List (S106))).bind fun y330 => (if 0 ≤ (mn (l0_5.length : Int) 12) then (if (mn (l0_5.length : Int) 12) ≤ (l0_5.length : Int) then ((some (l0_5.take ((mn (l0_5.length : Int) 12) : Int).toNat : List (S106))).bind fun y333 => (if y330.length + y333.length < 1599289640401 then (some (a0_0, a0_1, a0_2, a0_3, a0_4, (y330 ++ y333))) else (none))) else (none)) else (none))
set_option maxHeartbeats 8000000 in
set_option maxRecDepth 100000 in
theorem racewaylaw18_fewer.calls (a0_0 : Int) (a0_1 : Int) (a0_2 : Int) (a0_3 : Int) (a0_4 : ByteArray) (A0_5 : Option Addr) (c0_5 : Nat) (l0_5 : List (S106)) (r1 : Int) (r2 : Int) (r3 : Int) (r4 : Int) (r5 : ByteArray) (r6 : List (S106)) (w : World) (hr0_5 : Kd.C k106 w A0_5 l0_5.length l0_5) (hc0_5 : l0_5.length ≤ c0_5) (h : racewaylaw18_fewer.f a0_0 a0_1 a0_2 a0_3 a0_4 l0_5 = some (r1, r2, r3, r4, r5, r6)) :
  Calls Try.prog 13 #[.agg #[.int .i64 a0_0, .int .i64 a0_1, .int .i64 a0_2, .int .i64 a0_3, .string a0_4, .slice A0_5 l0_5.length c0_5]] w fun e w' => ∃ v5_ : Value, e = .returned (.agg #[.int .i64 r1, .int .i64 r2, .int .i64 r3, .int .i64 r4, .string r5, v5_]) ∧ Kd.R k106 106 w' w.heap.size (fun _ => True) v5_ r6 ∧ Below w.heap.size w w' := by
 have hu50 := Try.underlying50
 have HR0_5 := Aside0.mk hr0_5
 have HC0_5 := Aside0.mk hc0_5
 clear hr0_5 hc0_5
 have HB := Aside0.mk (Below.refl w.heap.size w)
 have H : ((some (([] : List (S106)) : List (S106))).bind fun y330 => (if 0 ≤ (mn (l0_5.length : Int) 12) then (if (mn (l0_5.length : Int) 12) ≤ (l0_5.length : Int) then ((some (l0_5.take ((mn (l0_5.length : Int) 12) : Int).toNat : List (S106))).bind fun y333 => (if y330.length + y333.length < 1599289640401 then (some (a0_0, a0_1, a0_2, a0_3, a0_4, (y330 ++ y333))) else (none))) else (none)) else (none))) = some (r1, r2, r3, r4, r5, r6) := h
 clear h
 obtain ⟨y330, hy330⟩ : ∃ y_ : List (S106), y_ = (([] : List (S106))) := ⟨_, rfl⟩
 replace H : (if 0 ≤ (mn (l0_5.length : Int) 12) then (if (mn (l0_5.length : Int) 12) ≤ (l0_5.length : Int) then ((some (l0_5.take ((mn (l0_5.length : Int) 12) : Int).toNat : List (S106))).bind fun y333 => (if y330.length + y333.length < 1599289640401 then (some (a0_0, a0_1, a0_2, a0_3, a0_4, (y330 ++ y333))) else (none))) else (none)) else (none)) = some (r1, r2, r3, r4, r5, r6) := by first | (rw [hy330]; with_reducible exact H) | (have H2_ := (Option.bind_some _ _).symm.trans H; rw [hy330]; with_reducible exact H2_) | (have H2_ := (Option.bind_some _ _).symm.trans H; with_reducible exact H2_) | with_reducible exact H | (rw [hy330]; exact H) | exact H
 have Ny330 := Aside0.mk hy330
 clear hy330
 obtain ⟨ji2, hji2⟩ : ∃ j_ : Int, (mn (l0_5.length : Int) 12) = j_ := ⟨_, rfl⟩
 replace H : (if 0 ≤ (ji2) then (if (ji2) ≤ (l0_5.length : Int) then ((some (l0_5.take ((ji2) : Int).toNat : List (S106))).bind fun y333 => (if y330.length + y333.length < 1599289640401 then (some (a0_0, a0_1, a0_2, a0_3, a0_4, (y330 ++ y333))) else (none))) else (none)) else (none)) = some (r1, r2, r3, r4, r5, r6) := by first | (rw [hji2] at H; exact H) | (simp only [hji2] at H ⊢; exact H)
 (try (have hji2h : ji2 ≤ 12 := by (rw [← hji2]; unfold mn; (repeat' split) <;> omega)))
 (try (have hji2g : ji2 ≤ 64 := by omega))
 (try (have hji2l : 0 ≤ ji2 := by (rw [← hji2]; unfold mn; (repeat' split) <;> omega)))
 (try (have hji2m : 0 ≤ ji2 := by omega))
 have hji2_ : (if 12 < (l0_5.length : Int) then 12 else (l0_5.length : Int)) = ji2 := hji2
 by_cases c3 : 0 ≤ (ji2)
 ·rw [if_pos c3] at H
  have c3b0 := eq_true c3
  have c3b1 : decide (0 ≤ (ji2)) = true := decide_eq_true c3
  clear c3
  by_cases c4 : (ji2) ≤ (l0_5.length : Int)
  ·rw [if_pos c4] at H
   have c4b0 := eq_true c4
   have c4b1 : decide ((ji2) ≤ (l0_5.length : Int)) = true := decide_eq_true c4
   clear c4
   obtain ⟨y333, hy333⟩ : ∃ y_ : List (S106), y_ = (l0_5.take ((ji2) : Int).toNat) := ⟨_, rfl⟩
   replace H : (if y330.length + y333.length < 1599289640401 then (some (a0_0, a0_1, a0_2, a0_3, a0_4, (y330 ++ y333))) else (none)) = some (r1, r2, r3, r4, r5, r6) := by first | (rw [hy333]; with_reducible exact H) | (have H2_ := (Option.bind_some _ _).symm.trans H; rw [hy333]; with_reducible exact H2_) | (have H2_ := (Option.bind_some _ _).symm.trans H; with_reducible exact H2_) | with_reducible exact H | (rw [hy333]; exact H) | exact H
   have Ny333 := Aside0.mk hy333
   clear hy333
   by_cases c5 : y330.length + y333.length < 1599289640401
   ·rw [if_pos c5] at H
    have LMc5 := Aside0.mk c5
    clear c5
    obtain ⟨y337, hy337⟩ : ∃ y_ : List (S106), y_ = (y330 ++ y333) := ⟨_, rfl⟩
    replace H : (some (a0_0, a0_1, a0_2, a0_3, a0_4, y337)) = some (r1, r2, r3, r4, r5, r6) := by first | (rw [hy337]; with_reducible exact H) | (have H2_ := (Option.bind_some _ _).symm.trans H; rw [hy337]; with_reducible exact H2_) | (have H2_ := (Option.bind_some _ _).symm.trans H; with_reducible exact H2_) | with_reducible exact H | (rw [hy337]; exact H) | exact H
    have Ny337 := Aside0.mk hy337
    clear hy337
    simp only [Option.some.injEq, Prod.mk.injEq] at H
    obtain ⟨rfl, rfl, rfl, rfl, rfl, rfl⟩ := H
    go_enter Try.func13, Try.ntmps13
    go_wp2_with (first | ((with_reducible refine gate_dst (N := 1) rfl ?_); refine box_event ?hg (N := 1) ?hd (cs := #[.int .i64 a0_0, .int .i64 a0_1, .int .i64 a0_2, .int .i64 a0_3, .string a0_4, .slice A0_5 l0_5.length c0_5]) (t := 50) ?hr ?_; (case hd => rfl); (case hg => rfl); (case hr => first | (go_simp; done) | (go_simp; rfl)); intro gb328 hg w6 hbox hb; have n0_ := Aside0.mk (below_step (by repeat (first | (with_reducible first | exact HB.out | apply below_alloc | apply pw_below_drewN | apply below_drew1) | exact HB.out)) hb); have n1_ := Aside0.mk (hbox); have n2_ := Aside0.mk ((by rw [hg]; exact (below_size (by repeat (first | (with_reducible first | exact HB.out | apply below_alloc | apply pw_below_drewN | apply below_drew1) | exact HB.out))) : w.heap.size ≤ gb328)); have n3_ := Aside0.mk ((by rw [hg]; exact (below_size (by repeat (first | (with_reducible first | exact HB.out | apply below_alloc | apply pw_below_drewN | apply below_drew1) | exact HB.out))) : w.heap.size ≤ gb328)); clear HB; have HB := n0_; have BK328 := n1_; have GW328 := n2_; have GE328 := n3_; clear n0_ n1_ n2_ n3_; clear hb hbox hg) | ((with_reducible refine gate_dst (N := 2) rfl ?_); refine box_event ?hg (N := 2) ?hd (cs := #[.int .i64 0, .int .i64 0, .int .i64 0, .int .i64 0, .string (⟨#[]⟩ : ByteArray), .slice none 0 0]) (t := 50) ?hr ?_; (case hd => rfl); (case hg => rfl); (case hr => first | (go_simp; done) | (go_simp; rfl)); intro gb329 hg w7 hbox hb; have n0_ := Aside0.mk (blk_below (g := gb328) (o := .cells #[.int .i64 a0_0, .int .i64 a0_1, .int .i64 a0_2, .int .i64 a0_3, .string a0_4, .slice A0_5 l0_5.length c0_5] 50 (0, 0)) (by (with_reducible repeat (first | refine blk_drewN ?_ _ | refine blk_drew ?_ | refine blk_alloc ?_ _)); exact BK328.out) hb); have n1_ := Aside0.mk (below_step (by repeat (first | (with_reducible first | exact HB.out | apply below_alloc | apply pw_below_drewN | apply below_drew1 | refine below_set ?_ GE328.out) | exact HB.out)) hb); have n2_ := Aside0.mk (hbox); have n3_ := Aside0.mk ((by rw [hg]; exact (below_size (by repeat (first | (with_reducible first | exact HB.out | apply below_alloc | apply pw_below_drewN | apply below_drew1 | refine below_set ?_ GE328.out) | exact HB.out))) : w.heap.size ≤ gb329)); have n4_ := Aside0.mk ((by rw [hg]; exact (below_size (by repeat (first | (with_reducible first | exact HB.out | apply below_alloc | apply pw_below_drewN | apply below_drew1 | refine below_set ?_ GE328.out) | exact HB.out))) : w.heap.size ≤ gb329)); have n5_ := Aside0.mk ((by rw [hg]; exact Nat.ne_of_lt (blk_lt (g := gb328) (o := .cells #[.int .i64 a0_0, .int .i64 a0_1, .int .i64 a0_2, .int .i64 a0_3, .string a0_4, .slice A0_5 l0_5.length c0_5] 50 (0, 0)) (by (with_reducible repeat (first | refine blk_drewN ?_ _ | refine blk_drew ?_ | refine blk_alloc ?_ _)); exact BK328.out)) : gb328 ≠ gb329)); have n6_ := Aside0.mk ((by rw [hg]; exact Nat.ne_of_gt (blk_lt (g := gb328) (o := .cells #[.int .i64 a0_0, .int .i64 a0_1, .int .i64 a0_2, .int .i64 a0_3, .string a0_4, .slice A0_5 l0_5.length c0_5] 50 (0, 0)) (by (with_reducible repeat (first | refine blk_drewN ?_ _ | refine blk_drew ?_ | refine blk_alloc ?_ _)); exact BK328.out)) : gb329 ≠ gb328)); clear BK328; clear HB; have BK328 := n0_; have HB := n1_; have BK329 := n2_; have GW329 := n3_; have GE329 := n4_; have NB328_329 := n5_; have NB329_328 := n6_; clear n0_ n1_ n2_ n3_ n4_ n5_ n6_; clear hb hbox hg) | ((with_reducible refine gate_dst (N := 3) rfl ?_); refine Kd.R_lit k106 _ 106 ?hg (N := 3) ?hd (xs := ([] : List (S106))) (inner := []) (ok := fun _ => True) (okp := fun _ => True) ?hr ?hp (fun _ hk => hk) trivial (Below.refl _ _) (Nat.le_refl _) (by simp) ?_; (case hd => rfl); (case hg => rfl); (case hr => first | (go_simp; done) | (go_simp; rfl)); (case hp => exact (Reps.none _ _)); intro v331 w8 ho9 hb hg_ hnew_; clear hg_ hnew_; (first | rw [← Ny330.out] at ho9 | (simp only [Int.reduceToNat] at ho9; rw [← Ny330.out] at ho9)); have n0_ := Aside0.mk (Kd.R_lower ho9 (below_size (by repeat (first | (with_reducible first | exact HB.out | apply below_alloc | apply pw_below_drewN | apply below_drew1 | refine below_set ?_ GE328.out | refine below_set ?_ GE329.out) | exact HB.out)))); have n1_ := Aside0.mk (blk_below (g := gb328) (o := .cells #[.int .i64 a0_0, .int .i64 a0_1, .int .i64 a0_2, .int .i64 a0_3, .string a0_4, .slice A0_5 l0_5.length c0_5] 50 (0, 0)) (by (with_reducible repeat (first | refine blk_drewN ?_ _ | refine blk_drew ?_ | refine blk_alloc ?_ _)); exact BK328.out) hb); have n2_ := Aside0.mk (blk_below (g := gb329) (o := .cells #[.int .i64 0, .int .i64 0, .int .i64 0, .int .i64 0, .string (⟨#[]⟩ : ByteArray), .slice none 0 0] 50 (0, 0)) (by (with_reducible repeat (first | refine blk_drewN ?_ _ | refine blk_drew ?_ | refine blk_alloc ?_ _)); exact BK329.out) hb); have n3_ := Aside0.mk (below_step (by repeat (first | (with_reducible first | exact HB.out | apply below_alloc | apply pw_below_drewN | apply below_drew1 | refine below_set ?_ GE328.out | refine below_set ?_ GE329.out) | exact HB.out)) hb); clear BK328; clear BK329; clear HB; have HO332 := n0_; have BK328 := n1_; have BK329 := n2_; have HB := n3_; clear n0_ n1_ n2_ n3_; clear hb ho9; have hnb10 := NB328_329.out; have hnc10 := NB329_328.out; have hcz11_0 : w8.cell? ⟨gb328, 0, none⟩ = some (.int .i64 a0_0) := (blk_cell BK328.out 0).trans rfl; have hcz11_1 : w8.cell? ⟨gb328, 1, none⟩ = some (.int .i64 a0_1) := (blk_cell BK328.out 1).trans rfl; have hcz11_2 : w8.cell? ⟨gb328, 2, none⟩ = some (.int .i64 a0_2) := (blk_cell BK328.out 2).trans rfl; have hcz11_3 : w8.cell? ⟨gb328, 3, none⟩ = some (.int .i64 a0_3) := (blk_cell BK328.out 3).trans rfl; have hcz11_4 : w8.cell? ⟨gb328, 4, none⟩ = some (.string a0_4) := (blk_cell BK328.out 4).trans rfl; have hcz11_5 : w8.cell? ⟨gb328, 5, none⟩ = some (.slice A0_5 l0_5.length c0_5) := (blk_cell BK328.out 5).trans rfl; have hfz11_0 := blk_frozen BK328.out 0; have hfz11_1 := blk_frozen BK328.out 1; have hfz11_2 := blk_frozen BK328.out 2; have hfz11_3 := blk_frozen BK328.out 3; have hfz11_4 := blk_frozen BK328.out 4; have hfz11_5 := blk_frozen BK328.out 5; have q12 : ((ji2) : Int) ≤ ((l0_5.length : Int) : Int) := of_decide_eq_true (by first | (with_reducible assumption) | assumption); obtain ⟨i012, hi012, _, hsz12, _⟩ := info_parts info106; have hroom12 : l0_5.length ≤ c0_5 := HC0_5.out; have hC12 : Kd.C k106 _ A0_5 l0_5.length l0_5 := HR0_5.out; have hcut12 := cut_to (P := Try.prog) 48 106 .i64 Try.underlying48 hi012 A0_5 l0_5.length c0_5 (ji2) (of_decide_eq_true (by first | (with_reducible assumption) | assumption)) q12 hroom12; have hr12 := Kd.C_take (m := ((ji2) : Int).toNat) hC12 (by omega); have hy12 : y333.length = ((ji2) : Int).toNat := (by rw [Ny333.out, List.length_take]; omega); rw [← Ny333.out] at hr12; rw [← hy12] at hcut12; have HR336 := Aside0.mk hr12; have HC336 := Aside0.mk (show y333.length ≤ c0_5 from by omega); clear hr12 hC12 hroom12 hi012 hsz12; have KY12 := Aside0.mk hy12; clear hy12; replace q12 := eq_true q12) | ((with_reducible refine gate_builtin (b := .append) (xs := #[.tmp 3, .tmp 10]) rfl ?_); at_builtin; refine Kd.R_append_rows k106 (w0 := w) w.heap.size rfl (.tmp 3) (.tmp 10) 48 106 (.agg #[(.string ⟨#[]⟩), (.string ⟨#[]⟩), (.string ⟨#[]⟩), (.int .i64 0), (.string ⟨#[]⟩), (.int .i64 0), (.int .i64 0)]) 88 rfl Try.underlying48 info106 rfl (by decide) (by omega) v331 y330 y333 _ _ _ (fun _ => True) (fun _ => False) rfl rfl ?aO ?aR (fun _ _ h => h) (fun _ h => h.elim) ?aF ?aB ?aS ?aL ?_; (case aR => repeat (first | exact (Kd.C_below HR336.out HB.out) | (with_reducible refine Kd.C_alloc ?_ _) | (with_reducible refine Kd.C_drewN ?_ _) | (with_reducible refine Kd.C_drew ?_))); (case aB => exact (by repeat (first | (with_reducible first | exact HB.out | apply below_alloc | apply pw_below_drewN | apply below_drew1 | refine below_set ?_ GE328.out | refine below_set ?_ GE329.out) | exact HB.out))); (case aF => exact (fun _ _ => trivial)); (case aO => exact (by (with_reducible repeat (first | apply Kd.R_alloc | apply Kd.R_drewN | apply Kd.R_drew)); exact HO332.out)); (case aS => exact (below_size (by repeat (first | (with_reducible first | exact HB.out | apply below_alloc | apply pw_below_drewN | apply below_drew1 | refine below_set ?_ GE328.out | refine below_set ?_ GE329.out) | exact HB.out)))); (case aL => have := LMc5.out; omega); intro v338 w13 ho hb hg hat; rw [← Ny337.out] at ho; have n0_ := Aside0.mk (blk_grown (g := gb328) (o := .cells #[.int .i64 a0_0, .int .i64 a0_1, .int .i64 a0_2, .int .i64 a0_3, .string a0_4, .slice A0_5 l0_5.length c0_5] 50 (0, 0)) (by (with_reducible repeat (first | refine blk_drewN ?_ _ | refine blk_drew ?_ | refine blk_alloc ?_ _)); exact BK328.out) hg (Kd.R_ne HO332.out BK328.out (by decide))); have n1_ := Aside0.mk (blk_grown (g := gb329) (o := .cells #[.int .i64 0, .int .i64 0, .int .i64 0, .int .i64 0, .string (⟨#[]⟩ : ByteArray), .slice none 0 0] 50 (0, 0)) (by (with_reducible repeat (first | refine blk_drewN ?_ _ | refine blk_drew ?_ | refine blk_alloc ?_ _)); exact BK329.out) hg (Kd.R_ne HO332.out BK329.out (by decide))); have n2_ := Aside0.mk (hb); have n3_ := Aside0.mk (ho); clear BK328; clear BK329; clear HB; clear HO332; have BK328 := n0_; have BK329 := n1_; have HB := n2_; have HO339 := n3_; clear n0_ n1_ n2_ n3_; clear ho hb hg hat; obtain ⟨Ao14, co14, eo14⟩ := Kd.R_slice HO339.out; subst eo14; have hcz15_0 : w13.cell? ⟨gb328, 0, none⟩ = some (.int .i64 a0_0) := (blk_cell BK328.out 0).trans rfl; have hcz15_1 : w13.cell? ⟨gb328, 1, none⟩ = some (.int .i64 a0_1) := (blk_cell BK328.out 1).trans rfl; have hcz15_2 : w13.cell? ⟨gb328, 2, none⟩ = some (.int .i64 a0_2) := (blk_cell BK328.out 2).trans rfl; have hcz15_3 : w13.cell? ⟨gb328, 3, none⟩ = some (.int .i64 a0_3) := (blk_cell BK328.out 3).trans rfl; have hcz15_4 : w13.cell? ⟨gb328, 4, none⟩ = some (.string a0_4) := (blk_cell BK328.out 4).trans rfl; have hcz15_5 : w13.cell? ⟨gb328, 5, none⟩ = some (.slice A0_5 l0_5.length c0_5) := (blk_cell BK328.out 5).trans rfl; have hfz15_0 := blk_frozen BK328.out 0; have hfz15_1 := blk_frozen BK328.out 1; have hfz15_2 := blk_frozen BK328.out 2; have hfz15_3 := blk_frozen BK328.out 3; have hfz15_4 := blk_frozen BK328.out 4; have hfz15_5 := blk_frozen BK328.out 5; have hcz16_0 : w13.cell? ⟨gb329, 0, none⟩ = some (.int .i64 0) := (blk_cell BK329.out 0).trans rfl; have hcz16_1 : w13.cell? ⟨gb329, 1, none⟩ = some (.int .i64 0) := (blk_cell BK329.out 1).trans rfl; have hcz16_2 : w13.cell? ⟨gb329, 2, none⟩ = some (.int .i64 0) := (blk_cell BK329.out 2).trans rfl; have hcz16_3 : w13.cell? ⟨gb329, 3, none⟩ = some (.int .i64 0) := (blk_cell BK329.out 3).trans rfl; have hcz16_4 : w13.cell? ⟨gb329, 4, none⟩ = some (.string (⟨#[]⟩ : ByteArray)) := (blk_cell BK329.out 4).trans rfl; have hcz16_5 : w13.cell? ⟨gb329, 5, none⟩ = some (.slice none 0 0) := (blk_cell BK329.out 5).trans rfl; have hfz16_0 := blk_frozen BK329.out 0; have hfz16_1 := blk_frozen BK329.out 1; have hfz16_2 := blk_frozen BK329.out 2; have hfz16_3 := blk_frozen BK329.out 3; have hfz16_4 := blk_frozen BK329.out 4; have hfz16_5 := blk_frozen BK329.out 5))
    refine bodyPost_ret (results_cell_row rfl _ _ gb329 50 #[.int .i64 a0_0, .int .i64 a0_1, .int .i64 a0_2, .int .i64 a0_3, .string a0_4, .slice Ao14 y337.length co14] (0, 0) _ rfl (by (with_reducible repeat (first | refine blk_drewN ?_ _ | refine blk_drew ?_ | refine blk_alloc ?_ _)); refine blk_put (cs := #[.int .i64 a0_0, .int .i64 a0_1, .int .i64 a0_2, .int .i64 a0_3, .string a0_4, .slice none 0 0]) ?_ 5 _ rfl; (with_reducible repeat (first | refine blk_drewN ?_ _ | refine blk_drew ?_ | refine blk_alloc ?_ _)); refine blk_put (cs := #[.int .i64 a0_0, .int .i64 a0_1, .int .i64 a0_2, .int .i64 a0_3, .string (⟨#[]⟩ : ByteArray), .slice none 0 0]) ?_ 4 _ rfl; (with_reducible repeat (first | refine blk_drewN ?_ _ | refine blk_drew ?_ | refine blk_alloc ?_ _)); refine blk_put (cs := #[.int .i64 a0_0, .int .i64 a0_1, .int .i64 a0_2, .int .i64 0, .string (⟨#[]⟩ : ByteArray), .slice none 0 0]) ?_ 3 _ rfl; (with_reducible repeat (first | refine blk_drewN ?_ _ | refine blk_drew ?_ | refine blk_alloc ?_ _)); refine blk_put (cs := #[.int .i64 a0_0, .int .i64 a0_1, .int .i64 0, .int .i64 0, .string (⟨#[]⟩ : ByteArray), .slice none 0 0]) ?_ 2 _ rfl; (with_reducible repeat (first | refine blk_drewN ?_ _ | refine blk_drew ?_ | refine blk_alloc ?_ _)); refine blk_put (cs := #[.int .i64 a0_0, .int .i64 0, .int .i64 0, .int .i64 0, .string (⟨#[]⟩ : ByteArray), .slice none 0 0]) ?_ 1 _ rfl; (with_reducible repeat (first | refine blk_drewN ?_ _ | refine blk_drew ?_ | refine blk_alloc ?_ _)); refine blk_put (cs := #[.int .i64 0, .int .i64 0, .int .i64 0, .int .i64 0, .string (⟨#[]⟩ : ByteArray), .slice none 0 0]) ?_ 0 _ rfl; (with_reducible repeat (first | refine blk_drewN ?_ _ | refine blk_drew ?_ | refine blk_alloc ?_ _)); refine blk_far ?_ NB329_328.out _; (with_reducible repeat (first | refine blk_drewN ?_ _ | refine blk_drew ?_ | refine blk_alloc ?_ _)); exact BK329.out) Try.underlying50 rfl (by kernel_rfl)) rfl ?_
    exact ⟨_, by first | rfl | (simp [errW_none, errW_some] <;> rfl) | (simp only [← hji2]; first | rfl | (simp [errW_none, errW_some] <;> rfl)) | (simp [*, errW_none, errW_some] <;> rfl), by (with_reducible repeat (first | apply Kd.R_alloc | apply Kd.R_drewN | apply Kd.R_drew)); exact Kd.R_mono (Kd.R_far (p := ⟨gb329, 5, none⟩) (Kd.R_far (p := ⟨gb329, 4, none⟩) (Kd.R_far (p := ⟨gb329, 3, none⟩) (Kd.R_far (p := ⟨gb329, 2, none⟩) (Kd.R_far (p := ⟨gb329, 1, none⟩) (Kd.R_far (p := ⟨gb329, 0, none⟩) (Kd.R_far (p := ⟨gb328, 5, none⟩) (Kd.R_types (Kd.R_types HO339.out BK328.out (by decide)) BK329.out (by decide)) (fun _ hk => hk.1.2) (.slice Ao14 y337.length co14)) (fun _ hk => hk.2) (.int .i64 a0_0)) (fun _ hk => hk.2) (.int .i64 a0_1)) (fun _ hk => hk.2) (.int .i64 a0_2)) (fun _ hk => hk.2) (.int .i64 a0_3)) (fun _ hk => hk.2) (.string a0_4)) (fun _ hk => hk.2) (.slice Ao14 y337.length co14)) (fun _ hk => trivial), by repeat (first | (with_reducible first | exact HB.out | apply below_alloc | apply pw_below_drewN | apply below_drew1 | refine below_set ?_ GE328.out | refine below_set ?_ GE329.out) | exact HB.out)⟩
   ·rw [if_neg c5] at H
    exact absurd H (by simp)
  ·rw [if_neg c4] at H
   exact absurd H (by simp)
 ·rw [if_neg c3] at H
  exact absurd H (by simp)
def racewayref04_Same.l0 : Nat → List (S35) → List (S35) → Int → Option (Bool)
 | 0, _, _, _ => none
 | k + 1, x0, x1, x5 => if x5 < (x0.length : Int) then (if 0 ≤ x5 then (if x5 < (x1.length : Int) then (if (!(((rd_T35 x0 x5).f0) == ((rd_T35 x1 x5).f0)) || (!(((rd_T35 x0 x5).f1) == ((rd_T35 x1 x5).f1)))) = true then (some false) else (racewayref04_Same.l0 k x0 x1 (wrap64 (x5 + 1)))) else (none)) else (none)) else (some true)
def racewayref04_Same.f (k : Nat) (l0 : List (S35)) (l1 : List (S35)) : Option (Bool) := if (l0.length : Int) = (l1.length : Int) then (racewayref04_Same.l0 k l0 l1 0) else (some false)
theorem racewayref04_Same.mono_l : ∀ k, (∀ y0 y1 y2, LeO (racewayref04_Same.l0 k y0 y1 y2) (racewayref04_Same.l0 (k + 1) y0 y1 y2))
 | 0 => fun _ _ _ r h => by simp [racewayref04_Same.l0] at h
 | k + 1 => by
  have ih0 := racewayref04_Same.mono_l k
  ·intro y0 y1 y2
   unfold racewayref04_Same.l0
   repeat' first
   | (with_reducible exact ih0 _ _ _)
   | (with_reducible exact LeO.refl _)
   | (with_reducible exact LeO.none _)
   | (with_reducible refine LeO.ite ?_ ?_)
   | (with_reducible refine LeO.bind ?_ (fun _ => ?_))
   | exact ih0 _ _ _
   | exact LeO.none _
   | refine LeO.ite ?_ ?_
   | refine LeO.bind ?_ (fun _ => ?_)
theorem racewayref04_Same.mono : ∀ a0 a1 k, LeO (racewayref04_Same.f k a0 a1) (racewayref04_Same.f (k + 1) a0 a1) := by
 intro a0 a1 k
 have ih0 := racewayref04_Same.mono_l k
 unfold racewayref04_Same.f
 repeat' first
   | (with_reducible exact ih0 _ _ _)
   | (with_reducible exact LeO.refl _)
   | (with_reducible exact LeO.none _)
   | (with_reducible refine LeO.ite ?_ ?_)
   | (with_reducible refine LeO.bind ?_ (fun _ => ?_))
   | exact ih0 _ _ _
   | exact LeO.none _
   | refine LeO.ite ?_ ?_
   | refine LeO.bind ?_ (fun _ => ?_)
end Go.Proofs.Ytonedijkgddepaa.P
namespace Go.Proofs.Ytonedijkgddepaa.P
open Go.Sq
open Go.RowKit Go.Proofs.YtonedijkgddepaaW.PrintWords Go.Proofs.YtonedijkgddepaaW.PrintLast Go.Proofs.YtonedijkgddepaaW.PrintMore
attribute [local go_sem] max2_int min2_int max_two min_two max_three min_three max_four min_four   -- for this text's walks alone
set_option linter.unusedVariables false
set_option linter.unusedSimpArgs false
attribute [local go_sem high] eqA115
mutual
def racewayref05_SameReply.j0 : Nat → Bool → Int → Int → Int → List (S115) → List ByteArray → List (S35) → Int → Int → Int → List (S115) → List ByteArray → List (S35) → Option (Bool)
 | 0, _, _, _, _, _, _, _, _, _, _, _, _, _ => none
 | k + 1, x49, x344000, x344001, x344002, x344003, x344004, x344005, x345000, x345001, x345002, x345003, x345004, x345005 => if x49 = true then (some false) else (racewayref05_SameReply.l0 k 0 x344000 x344001 x344002 x344003 x344004 x344005 x345000 x345001 x345002 x345003 x345004 x345005)
def racewayref05_SameReply.l0 : Nat → Int → Int → Int → Int → List (S115) → List ByteArray → List (S35) → Int → Int → Int → List (S115) → List ByteArray → List (S35) → Option (Bool)
 | 0, _, _, _, _, _, _, _, _, _, _, _, _, _ => none
 | k + 1, x5, x344000, x344001, x344002, x344003, x344004, x344005, x345000, x345001, x345002, x345003, x345004, x345005 => if x5 < (x344003.length : Int) then (if 0 ≤ x5 then (if x5 < (x345003.length : Int) then (if ((!(((rd_T115 x344003 x5).f0.f0) == ((rd_T115 x345003 x5).f0.f0)) || (!((((rd_T115 x344003 x5).f0.f1).toList) == (((rd_T115 x345003 x5).f0.f1).toList)) || (!(((rd_T115 x344003 x5).f0.f2) == ((rd_T115 x345003 x5).f0.f2)) || (!(((rd_T115 x344003 x5).f0.f3) == ((rd_T115 x345003 x5).f0.f3)))))) || (!((((rd_T115 x344003 x5).f1).toList) == (((rd_T115 x345003 x5).f1).toList)) || (!(((rd_T115 x344003 x5).f2) == ((rd_T115 x345003 x5).f2))))) = true then (some false) else (racewayref05_SameReply.l0 k (wrap64 (x5 + 1)) x344000 x344001 x344002 x344003 x344004 x344005 x345000 x345001 x345002 x345003 x345004 x345005)) else (none)) else (none)) else (some true)
end
def racewayref05_SameReply.f (k : Nat) (a0_0 : Int) (a0_1 : Int) (a0_2 : Int) (l0_3 : List (S115)) (l0_4 : List ByteArray) (l0_5 : List (S35)) (a1_0 : Int) (a1_1 : Int) (a1_2 : Int) (l1_3 : List (S115)) (l1_4 : List ByteArray) (l1_5 : List (S35)) : Option (Bool) := if a0_0 = a1_0 then (if a0_1 = a1_1 then (if a0_2 = a1_2 then (if (l0_3.length : Int) = (l1_3.length : Int) then ((racewayref01_SameTexts.f k l0_4 l1_4).bind fun t345 => (if t345 = true then ((racewayref04_Same.f k l0_5 l1_5).bind fun t346 => (racewayref05_SameReply.j0 k (!t346) a0_0 a0_1 a0_2 l0_3 l0_4 l0_5 a1_0 a1_1 a1_2 l1_3 l1_4 l1_5)) else (racewayref05_SameReply.j0 k true a0_0 a0_1 a0_2 l0_3 l0_4 l0_5 a1_0 a1_1 a1_2 l1_3 l1_4 l1_5))) else (racewayref05_SameReply.j0 k true a0_0 a0_1 a0_2 l0_3 l0_4 l0_5 a1_0 a1_1 a1_2 l1_3 l1_4 l1_5)) else (racewayref05_SameReply.j0 k true a0_0 a0_1 a0_2 l0_3 l0_4 l0_5 a1_0 a1_1 a1_2 l1_3 l1_4 l1_5)) else (racewayref05_SameReply.j0 k true a0_0 a0_1 a0_2 l0_3 l0_4 l0_5 a1_0 a1_1 a1_2 l1_3 l1_4 l1_5)) else (racewayref05_SameReply.j0 k true a0_0 a0_1 a0_2 l0_3 l0_4 l0_5 a1_0 a1_1 a1_2 l1_3 l1_4 l1_5)
theorem racewayref05_SameReply.mono_l : ∀ k, (∀ y0 y1 y2 y3 y4 y5 y6 y7 y8 y9 y10 y11 y12, LeO (racewayref05_SameReply.j0 k y0 y1 y2 y3 y4 y5 y6 y7 y8 y9 y10 y11 y12) (racewayref05_SameReply.j0 (k + 1) y0 y1 y2 y3 y4 y5 y6 y7 y8 y9 y10 y11 y12)) ∧ (∀ y0 y1 y2 y3 y4 y5 y6 y7 y8 y9 y10 y11 y12, LeO (racewayref05_SameReply.l0 k y0 y1 y2 y3 y4 y5 y6 y7 y8 y9 y10 y11 y12) (racewayref05_SameReply.l0 (k + 1) y0 y1 y2 y3 y4 y5 y6 y7 y8 y9 y10 y11 y12))
 | 0 => ⟨fun _ _ _ _ _ _ _ _ _ _ _ _ _ r h => by simp [racewayref05_SameReply.j0] at h, fun _ _ _ _ _ _ _ _ _ _ _ _ _ r h => by simp [racewayref05_SameReply.l0] at h⟩
 | k + 1 => by
  obtain ⟨ih0, ih1⟩ := racewayref05_SameReply.mono_l k
  refine ⟨?_, ?_⟩
  ·intro y0 y1 y2 y3 y4 y5 y6 y7 y8 y9 y10 y11 y12
   unfold racewayref05_SameReply.j0
   repeat' first
   | (with_reducible exact ih0 _ _ _ _ _ _ _ _ _ _ _ _ _)
   | (with_reducible exact ih1 _ _ _ _ _ _ _ _ _ _ _ _ _)
   | (with_reducible exact racewayref01_SameTexts.mono _ _ _)
   | (with_reducible exact racewayref04_Same.mono _ _ _)
   | (with_reducible exact LeO.refl _)
   | (with_reducible exact LeO.none _)
   | (with_reducible refine LeO.ite ?_ ?_)
   | (with_reducible refine LeO.bind ?_ (fun _ => ?_))
   | exact ih0 _ _ _ _ _ _ _ _ _ _ _ _ _
   | exact ih1 _ _ _ _ _ _ _ _ _ _ _ _ _
   | exact racewayref01_SameTexts.mono _ _ _
   | exact racewayref04_Same.mono _ _ _
   | exact LeO.none _
   | refine LeO.ite ?_ ?_
   | refine LeO.bind ?_ (fun _ => ?_)
  ·intro y0 y1 y2 y3 y4 y5 y6 y7 y8 y9 y10 y11 y12
   unfold racewayref05_SameReply.l0
   repeat' first
   | (with_reducible exact ih0 _ _ _ _ _ _ _ _ _ _ _ _ _)
   | (with_reducible exact ih1 _ _ _ _ _ _ _ _ _ _ _ _ _)
   | (with_reducible exact racewayref01_SameTexts.mono _ _ _)
   | (with_reducible exact racewayref04_Same.mono _ _ _)
   | (with_reducible exact LeO.refl _)
   | (with_reducible exact LeO.none _)
   | (with_reducible refine LeO.ite ?_ ?_)
   | (with_reducible refine LeO.bind ?_ (fun _ => ?_))
   | exact ih0 _ _ _ _ _ _ _ _ _ _ _ _ _
   | exact ih1 _ _ _ _ _ _ _ _ _ _ _ _ _
   | exact racewayref01_SameTexts.mono _ _ _
   | exact racewayref04_Same.mono _ _ _
   | exact LeO.none _
   | refine LeO.ite ?_ ?_
   | refine LeO.bind ?_ (fun _ => ?_)
theorem racewayref05_SameReply.mono : ∀ a0 a1 a2 a3 a4 a5 a6 a7 a8 a9 a10 a11 k, LeO (racewayref05_SameReply.f k a0 a1 a2 a3 a4 a5 a6 a7 a8 a9 a10 a11) (racewayref05_SameReply.f (k + 1) a0 a1 a2 a3 a4 a5 a6 a7 a8 a9 a10 a11) := by
 intro a0 a1 a2 a3 a4 a5 a6 a7 a8 a9 a10 a11 k
 obtain ⟨ih0, ih1⟩ := racewayref05_SameReply.mono_l k
 unfold racewayref05_SameReply.f
 repeat' first
   | (with_reducible exact ih0 _ _ _ _ _ _ _ _ _ _ _ _ _)
   | (with_reducible exact ih1 _ _ _ _ _ _ _ _ _ _ _ _ _)
   | (with_reducible exact racewayref01_SameTexts.mono _ _ _)
   | (with_reducible exact racewayref04_Same.mono _ _ _)
   | (with_reducible exact LeO.refl _)
   | (with_reducible exact LeO.none _)
   | (with_reducible refine LeO.ite ?_ ?_)
   | (with_reducible refine LeO.bind ?_ (fun _ => ?_))
   | exact ih0 _ _ _ _ _ _ _ _ _ _ _ _ _
   | exact ih1 _ _ _ _ _ _ _ _ _ _ _ _ _
   | exact racewayref01_SameTexts.mono _ _ _
   | exact racewayref04_Same.mono _ _ _
   | exact LeO.none _
   | refine LeO.ite ?_ ?_
   | refine LeO.bind ?_ (fun _ => ?_)
end Go.Proofs.Ytonedijkgddepaa.P
namespace Go.Proofs.Ytonedijkgddepaa.P
open Go.Sq
open Go.RowKit Go.Proofs.YtonedijkgddepaaW.PrintWords Go.Proofs.YtonedijkgddepaaW.PrintLast Go.Proofs.YtonedijkgddepaaW.PrintMore
attribute [local go_sem] max2_int min2_int max_two min_two max_three min_three max_four min_four   -- for this text's walks alone
set_option linter.unusedVariables false
set_option linter.unusedSimpArgs false
def racewayref09_SameVotes.l0 : Nat → List (S129) → List (S129) → Int → Option (Bool)
 | 0, _, _, _ => none
 | k + 1, x0, x1, x5 => if x5 < (x0.length : Int) then (if 0 ≤ x5 then (if x5 < (x1.length : Int) then (if ((rd_T129 x0 x5).f0) = ((rd_T129 x1 x5).f0) then (if ((rd_T129 x0 x5).f1) = ((rd_T129 x1 x5).f1) then (if (strOfNums ((rd_T129 x0 x5).f2)).toList = (strOfNums ((rd_T129 x1 x5).f2)).toList then (racewayref09_SameVotes.l0 k x0 x1 (wrap64 (x5 + 1))) else (some false)) else (some false)) else (some false)) else (none)) else (none)) else (some true)
def racewayref09_SameVotes.f (k : Nat) (l0 : List (S129)) (l1 : List (S129)) : Option (Bool) := if (l0.length : Int) = (l1.length : Int) then (racewayref09_SameVotes.l0 k l0 l1 0) else (some false)
theorem racewayref09_SameVotes.mono_l : ∀ k, (∀ y0 y1 y2, LeO (racewayref09_SameVotes.l0 k y0 y1 y2) (racewayref09_SameVotes.l0 (k + 1) y0 y1 y2))
 | 0 => fun _ _ _ r h => by simp [racewayref09_SameVotes.l0] at h
 | k + 1 => by
  have ih0 := racewayref09_SameVotes.mono_l k
  ·intro y0 y1 y2
   unfold racewayref09_SameVotes.l0
   repeat' first
   | (with_reducible exact ih0 _ _ _)
   | (with_reducible exact LeO.refl _)
   | (with_reducible exact LeO.none _)
   | (with_reducible refine LeO.ite ?_ ?_)
   | (with_reducible refine LeO.bind ?_ (fun _ => ?_))
   | exact ih0 _ _ _
   | exact LeO.none _
   | refine LeO.ite ?_ ?_
   | refine LeO.bind ?_ (fun _ => ?_)
theorem racewayref09_SameVotes.mono : ∀ a0 a1 k, LeO (racewayref09_SameVotes.f k a0 a1) (racewayref09_SameVotes.f (k + 1) a0 a1) := by
 intro a0 a1 k
 have ih0 := racewayref09_SameVotes.mono_l k
 unfold racewayref09_SameVotes.f
 repeat' first
   | (with_reducible exact ih0 _ _ _)
   | (with_reducible exact LeO.refl _)
   | (with_reducible exact LeO.none _)
   | (with_reducible refine LeO.ite ?_ ?_)
   | (with_reducible refine LeO.bind ?_ (fun _ => ?_))
   | exact ih0 _ _ _
   | exact LeO.none _
   | refine LeO.ite ?_ ?_
   | refine LeO.bind ?_ (fun _ => ?_)
end Go.Proofs.Ytonedijkgddepaa.P
namespace Go.Proofs.Ytonedijkgddepaa.P
open Go.Sq
open Go.RowKit Go.Maps Go.Proofs.YtonedijkgddepaaW.PrintWords Go.Proofs.YtonedijkgddepaaW.PrintLast Go.Proofs.YtonedijkgddepaaW.PrintMore
set_option linter.unusedVariables false
set_option linter.unusedSimpArgs false
theorem rowBlk {w0 w : World} {L : List Thing} {α : Type} {d : Kd α} {e m c g : Nat} {x : α} (h : St w0 w (Row d e (.slice (some ⟨g, 0, none⟩) m c) [x] :: L)) (hs : 0 < d.sz) : ∃ cs rs, d.K w x cs ∧ St w0 w (Blk g (cs ++ rs).toArray e :: L) := by
 obtain ⟨S, S1, S2, h1, h2, h3, h4⟩ := h.sts
 obtain ⟨hok, inner, ⟨hl, hv⟩, hr⟩ := h1.1
 rcases hv with ⟨hv, _⟩ | ⟨g', cap, cur, hv, _, hh, hn, _, hc, ht⟩
 ·cases hv
 ·injection hv with hv hm hc2
  injection hv with hv
  injection hv with hv
  subst hv
  have hg : S1 g := hok g rfl
  have hK := d.K_of_M (hr.2 0 x rfl)
  have hi : inner.length = d.sz := by simpa using hl
  rw [Nat.zero_mul, List.drop_zero, List.take_of_length_le (by omega)] at hK
  have e1 : cur = (inner ++ cur.toList.drop d.sz).toArray := by
   have : cur.toList = inner ++ cur.toList.drop d.sz := by
    rw [← ht]
    simp
   rw [← this]
  refine ⟨inner, cur.toList.drop d.sz, hK, h.os, h.tape, h.output, fun k => k = g ∨ S2 k, fun k => k = g, S2, ⟨by rw [← e1]; exact hh, fun _ => Iff.rfl⟩, h2, fun k hk => hk ▸ h3 g hg, fun k => Iff.rfl⟩
theorem C_zero {α : Type} (d : Kd α) (w : World) (A : Option Addr) : d.C w A 0 [] := ⟨rfl, by decide, fun h => absurd h (by decide)⟩
end Go.Proofs.Ytonedijkgddepaa.P
namespace Go.Proofs.Ytonedijkgddepaa.P
open Go.Sq
open Go.RowKit Go.Maps Go.Proofs.YtonedijkgddepaaW.PrintWords Go.Proofs.YtonedijkgddepaaW.PrintLast Go.Proofs.YtonedijkgddepaaW.PrintMore
set_option linter.unusedVariables false
set_option linter.unusedSimpArgs false
def pkL (x0 x1 x2 x3 : Int) (xc : S38) (A10 : Option Addr) (c10 : Nat) (A11 : Option Addr) (c11 : Nat) (A30 : Option Addr) (c30 : Nat) (A34 : Option Addr) (c34 : Nat) (A35 : Option Addr) (c35 : Nat) (A36 : Option Addr) (c36 : Nat) (A38 : Option Addr) (c38 : Nat) (A39 : Option Addr) (c39 : Nat) : List Value := [(.int .i64 x0), (.int .i64 x1), (.int .i64 x2), (.int .i64 x3), (.int .i64 0), (.int .i64 0), (.int .i64 0), (.int .i64 0), (.int .i64 0), (.int .i64 0), (.slice A10 0 c10), (.slice A11 0 c11), (.int .i64 xc.f0), (.int .i64 xc.f1), (.int .i64 xc.f2), (.int .i64 xc.f3), (.int .i64 xc.f4), (.string xc.f5), (.string xc.f6), (.string xc.f7), (.string xc.f8), (.int .i64 xc.f9), (.int .i64 xc.f10), (.int .i64 xc.f11.f0), (.string xc.f11.f1), (.int .i64 xc.f11.f2), (.int .i64 xc.f11.f3), (.int .i64 xc.f12.f0), (.int .i64 xc.f12.f1), (.int .i64 xc.f13), (.slice A30 0 c30), (.int .i64 0), (.int .i64 0), (.int .i64 0), (.slice A34 0 c34), (.slice A35 0 c35), (.slice A36 0 c36), (.int .i64 0), (.slice A38 0 c38), (.slice A39 0 c39)]
/-- A packet of a command alone. -/
def cmdPk (x0 x1 x2 x3 : Int) (xc : S38) : S47 := ⟨x0, x1, x2, x3, z31, xc, z42, z45, []⟩
end Go.Proofs.Ytonedijkgddepaa.P
namespace Go.Proofs.Ytonedijkgddepaa.P
open Go.Sq
open Go.RowKit Go.Proofs.YtonedijkgddepaaW.PrintWords Go.Proofs.YtonedijkgddepaaW.PrintLast Go.Proofs.YtonedijkgddepaaW.PrintMore
set_option linter.unusedVariables false
theorem w64_small {i : Int} (h0 : 0 ≤ i) (h1 : i < 9223372036854775808) : wrap64 i = i := by
 unfold wrap64
 omega
end Go.Proofs.Ytonedijkgddepaa.P
namespace Go.Proofs.Ytonedijkgddepaa.P
open Go.Sq
open Go.RowKit Go.Maps Go.Proofs.YtonedijkgddepaaW.PrintWords Go.Proofs.YtonedijkgddepaaW.PrintLast Go.Proofs.YtonedijkgddepaaW.PrintMore
set_option linter.unusedVariables false
set_option linter.unusedSimpArgs false
structure S50 where
 f0 : Int
 f1 : Int
 f2 : Int
 f3 : Int
 f4 : ByteArray
 f5 : (List S106)
def z50 : S50 := ⟨0, 0, 0, 0, (⟨#[]⟩ : ByteArray), []⟩
def k50 : Kd S50 := Kd.iso (Kd.pair (Kd.int .i64) (Kd.pair (Kd.int .i64) (Kd.pair (Kd.int .i64) (Kd.pair (Kd.int .i64) (Kd.pair Kd.string (Kd.slice 106 k106)))))) (fun x : S50 => (x.f0, x.f1, x.f2, x.f3, x.f4, x.f5))
structure S52 where
 f0 : Int
 f1 : Bool
 f2 : S47
 f3 : S50
theorem k50_open {w : World} {x : S50} {cs : List Value} (h : k50.K w x cs) : ∃ A5 c5, cs = [.int .i64 x.f0, .int .i64 x.f1, .int .i64 x.f2, .int .i64 x.f3, .string x.f4, .slice A5 x.f5.length c5] ∧ x.f5.length ≤ c5 ∧ k106.C w A5 x.f5.length x.f5 := by
 obtain ⟨_, _, rfl, rfl, ⟨_, _, rfl, rfl, ⟨_, _, rfl, rfl, ⟨_, _, rfl, rfl, ⟨_, _, rfl, rfl, ⟨A5, c5, rfl, l5, g5⟩⟩⟩⟩⟩⟩ := h
 exact ⟨A5, c5, rfl, l5, g5⟩
section
variable {P : Program} {ops : Array Oper} {rest : List Oper} {o : Oper} {a : Act} {Q : Exit → Act → World → Prop} {W : World}
theorem load_at (hgd : o.guard = none) (ty : TypeId) (x : Operand) (ho : o.op = .load ty x) (ad : Addr) (hx : a.eval x = .pointer (some ad)) (cs : List Value) (hc : ∀ j v, cs[j]? = some v → W.cell? (ad.add j) = some v)
  {d : TypeDesc} (hu : P.underlying ty = some d) (hd : d.isRow = true) (hi : (P.info? ty).map (·.size) = some cs.length) (h : wpList P ops Q rest (a.put o.dst (.agg cs.toArray)) W) : wpList P ops Q (o :: rest) a W := by
 refine Go.wpList_plain hgd fun K hK => ?_
 have hl : (loadCells ad cs.length).run P W = .ok cs.toArray W := run_loadCells_list (P := P) W ad cs hc
 have hv : (loadVar ty ad).run P W = .ok (.agg cs.toArray) W := by
  cases hq : P.info? ty with
  | none => simp [hq] at hi
  | some i =>
   have hs : i.size = cs.length := by simpa [hq] using hi
   have hagg : (isAgg ty).run P W = .ok true W := by
    unfold isAgg
    rw [Sem.run_bind, run_underlying hu W]
    cases d <;> simp_all
   simp [loadVar, Sem.run_bind, hagg, sizeOf, typeInfo, hq, hs, hl]
 unfold Oper.wp execOp
 simp only [ho, hx, Instr.loadAt, Instr.sureAddr, Sem.run_bind, Sem.run_pure, Result.andThen_ok, hv]
 exact hK _ _ h
end
end Go.Proofs.Ytonedijkgddepaa.P
namespace Go.Proofs.Ytonedijkgddepaa.P
open Go.Sq
open Go.RowKit Go.Maps Go.Proofs.YtonedijkgddepaaW.PrintWords Go.Proofs.YtonedijkgddepaaW.PrintLast Go.Proofs.YtonedijkgddepaaW.PrintMore
set_option linter.unusedVariables false
set_option linter.unusedSimpArgs false
theorem idx_up {i n : Nat} (h : i < n) (h2 : n ≤ 1000000) : Value.int .i64 (wrap64 ((i : Int) + 1)) = .int .i64 ((i + 1 : Nat) : Int) := by
 have h3 : wrap64 ((i : Int) + 1) = ((i + 1 : Nat) : Int) := by unfold wrap64; omega
 rw [h3]
def shardsV (xs : List S108) : List Int := Lib.compact ((xs.map (·.f1)).mergeSort fun x y => decide (x ≤ y))
theorem map_take_snoc (xs : List S108) (i : Nat) (hi : i < xs.length) : (xs.take (i + 1)).map (·.f1) = (xs.take i).map (·.f1) ++ [(xs.getD i z108).f1] := by
 rw [List.take_succ_eq_append_getElem hi, List.map_append, List.getD_eq_getElem?_getD, List.getElem?_eq_getElem hi]
 rfl
theorem piece_at {w : World} {A : Option Addr} {n : Nat} {xs : List S108} (h : Kd.C k108 w A n xs) (i : Nat) (h1 : i < n) : ∃ (ad : Addr), A = some ad ∧ ∀ j v, ([.int .i64 (xs.getD i z108).f0.f0, .int .i64 (xs.getD i z108).f0.f1, .int .i64 (xs.getD i z108).f1] : List Value)[j]? = some v → w.cell? ((ad.add (i * 3)).add j) = some v := by
 obtain ⟨ad, c, e, _, hK, hc0⟩ := Kd.C_get h z108 (i : Int) (by omega) (by omega)
 rw [Int.toNat_natCast] at hK hc0
 have e3 := k108_open hK
 subst e3
 refine ⟨ad, e, fun j v hv => ?_⟩
 have hc : ∀ j u, _ → w.cell? (ad.add (i * 3 + j)) = some u := hc0
 have e2 : (ad.add (i * 3)).add j = ad.add (i * 3 + j) := by
  rcases Nat.eq_zero_or_pos j with h0 | h0
  ·subst h0
   simp [Addr.add]
  ·have h3 : ¬ j = 0 := by omega
   have h4 : ¬ i * 3 + j = 0 := by omega
   unfold Addr.add
   rw [if_neg h3, if_neg h4]
   rcases Nat.eq_zero_or_pos i with h5 | h5
   ·subst h5
    simp
   ·have h6 : ¬ i * 3 = 0 := by omega
    rw [if_neg h6, Nat.add_assoc]
 rw [e2]
 exact hc j v hv
set_option maxHeartbeats 4000000 in
set_option maxRecDepth 100000 in
theorem shardsT (w0 w : World) (L : List Thing) (h : St w0 w L) (e : Int) (A0 : Option Addr) (c : Nat) (xs : List S108) (hr : ∀ W, Mem W L → Kd.C k108 W A0 xs.length xs) (hl : xs.length ≤ 1000000) :
  Calls Try.prog 53 #[.agg #[.int .i64 e, .slice A0 xs.length c]] w fun e' w' => ∃ v, e' = .returned v ∧ St w0 w' (Row (Kd.int .i64) 3 v (shardsV xs) :: L) := by
 have H := Aside0.mk h
 have HR := Aside0.mk hr
 have HL := Aside0.mk hl
 clear h hr hl
 refine calls_hide fun R HPOST => ?_
 go_enter Try.func53, Try.ntmps53
 go_upto_region 0 with (fail)
 go_upto_region 1 with (first | ((refine gate_dst (N := 1) rfl ?_); refine st_box ?hg (N := 1) ?hd #[(.int .i64 e), (.slice A0 xs.length c)] 45 ?hr H.out ?_; (case hd => rfl); (case hg => rfl); (case hr => first | (go_simp; done) | (go_simp; rfl)); intro g1 w2 hg_ h_ hb_; have S3 := Aside0.mk h_; have BS3 := Aside0.mk hb_; have GS3 := Aside0.mk hg_; clear h_ hb_ hg_))
 go_upto_region 2 with (fail)
 have cf_4 : w2.cell? ⟨g1, 1, none⟩ = some (.slice A0 xs.length c) := S3.out.cell 0 1 rfl rfl
 go_wp2_with (fail)
 clear cf_4
 go_loopg [3, 9] xs.length (fun kq v3 v9 w' => ∃ i : Nat, v9 = .int .i64 i ∧ i ≤ xs.length ∧ xs.length - i ≤ kq ∧ Aside0 (St w0 w' (Row (Kd.int .i64) 3 v3 ((xs.take i).map (·.f1)) :: Blk g1 #[(.int .i64 e), (.slice A0 xs.length c)] 45 :: L)))
 case atStart => exact ⟨0, rfl, Nat.zero_le _, Nat.le_refl _, ⟨St.nilRow S3.out _ _⟩⟩
 case round =>
  obtain ⟨i, rfl, hi, hg, SI⟩ := hrel
  generalize hys : (xs.take i).map (·.f1) = ys at SI
  have HYS := Aside0.mk hys
  clear hys
  obtain ⟨ai, ci, rfl, _, _⟩ := SI.out.row 0 rfl
  rcases Decidable.em ((i : Int) < (xs.length : Int)) with q5 | q5
  ·have t8 : decide (i < xs.length) = true := decide_eq_true (by omega)
   have t6 : decide ((i : Int) < (xs.length : Int)) = true := decide_eq_true q5
   have Xq5 := Aside0.mk q5
   clear q5
   go_upto_region 3 with (fail)
   go_upto_region 4 with (fail)
   have HLT := Aside0.mk (show i < xs.length by have := Xq5.out; omega)
   obtain ⟨ad, e0, hy⟩ := piece_at (HR.out _ (SI.out.drop.drop.mem)) i HLT.out
   have E0 := Aside0.mk e0
   clear e0
   generalize hxi : xs.getD i z108 = x at hy
   have HX := Aside0.mk hxi
   clear hxi
   have HY := Aside0.mk hy
   clear hy
   go_upto_region 5 with (first | ((refine gate_dst (N := 11) rfl ?_); refine index_at (ad := ad) (len := xs.length) (cap := c) rfl 43 (.tmp 7) (.tmp 9) rfl (by rw [← E0.out]; rfl) rfl (by omega) (by have := HLT.out; omega) Try.underlying43 (sz := 3) (by kernel_rfl) ?_; rw [Int.toNat_natCast]) | ((refine gate_ (.load 108 (.tmp 11)) rfl ?_); refine load_at rfl 108 _ rfl _ rfl [.int .i64 x.f0.f0, .int .i64 x.f0.f1, .int .i64 x.f1] HY.out Try.underlying108 rfl (by kernel_rfl) ?_) | ((refine gate_dst (N := 5) rfl ?_); refine st_box ?hg (N := 5) ?hd #[(.int .i64 0), (.int .i64 0), (.int .i64 0)] 108 ?hr SI.out ?_; (case hd => rfl); (case hg => rfl); (case hr => first | (go_simp; done) | (go_simp; rfl)); intro g9 w10 hg_ h_ hb_; have S11 := Aside0.mk h_; have BS11 := Aside0.mk hb_; have GS11 := Aside0.mk hg_; clear h_ hb_ hg_) | ((refine gate_ (.store 108 (.tmp 5) (.tmp 12)) rfl ?_); refine st_store rfl rfl 108 _ _ rfl rfl rfl (seg := [(.int .i64 x.f0.f0), (.int .i64 x.f0.f1), (.int .i64 x.f1)]) rfl (by kernel_rfl) (by rfl) S11.out 0 rfl (Nat.le_of_ble_eq_true rfl) ?_; intro w12 h_; have S13 : Aside0 (St w0 w12 (Blk g9 #[(.int .i64 x.f0.f0), (.int .i64 x.f0.f1), (.int .i64 x.f1)] 108 :: Row (Kd.int .i64) 3 (.slice ai ys.length ci) ys :: Blk g1 #[(.int .i64 e), (.slice A0 xs.length c)] 45 :: L)) := Aside0.mk h_; clear h_))
   have cf_14 : w12.cell? ⟨g9, 2, none⟩ = some (.int .i64 x.f1) := S13.out.cell 0 2 rfl rfl
   go_upto_region 6 with (first | (at_builtin; refine st_append (Kd.int .i64) rfl _ _ 63 3 (.int .i64 0) 8 rfl Try.underlying63 (by kernel_rfl) rfl (by decide) (by omega) (.slice ai ys.length ci) ys x.f1 [(.int .i64 x.f1)] rfl rfl (A := []) ((S13.out).bring 1 rfl) (fun S hS => rfl) (by have := HLT.out; have := HL.out; have := congrArg List.length HYS.out; rw [List.length_map, List.length_take] at this; omega) ?_; intro vn_ w17 h_; obtain ⟨AA_15, cc_16, rfl, _, _⟩ := h_.row 0 rfl; clear cf_14; have S18 := Aside0.mk h_; clear h_))
   go_wp2_with (fail)
   go_roundg (xs.length - (i + 1))
   case measure => have := HLT.out; omega
   case rel => exact ⟨i + 1, idx_up HLT.out HL.out, by have := HLT.out; omega, by have := HLT.out; omega, ⟨by rw [map_take_snoc xs i HLT.out, HX.out, HYS.out]; have h9 := ((S18.out).erase 1); rw [List.length_append] at h9; exact h9⟩⟩
  ·have t8 : decide (i < xs.length) = false := decide_eq_false (by omega)
   have t6 : decide ((i : Int) < (xs.length : Int)) = false := decide_eq_false q5
   have Xq5 := Aside0.mk q5
   clear q5
   go_upto_region 3 with (fail)
   have hie : i = xs.length := by have := Xq5.out; omega
   have HYX := Aside0.mk (show ys = xs.map (·.f1) by rw [← HYS.out, hie, List.take_length])
   clear hie
   go_upto_region 7 with (fail)
   go_upto_region 8 with (first | (go_at_call 58; (refine (sortT w0 _ _ (.slice ai ys.length ci) _ (by rw [HYX.out, List.length_map]; exact HL.out) SI.out).mono ?_); rintro e1 w20 ⟨rfl, h_⟩; have S19 := Aside0.mk h_; clear h_))
   go_wp2_with (first | (go_at_call 59; (refine (compactT w0 _ _ (.slice ai ys.length ci) _ S19.out).mono ?_); rintro e1 w22 ⟨vC, rfl, h_⟩; have S21 := Aside0.mk h_; clear h_))
   try go_ret
   refine HPOST.out _ _ ?_
   exact ⟨_, rfl, by have h9 := ((S21.out).erase 1); rw [HYX.out] at h9; exact h9⟩
end Go.Proofs.Ytonedijkgddepaa.P
namespace Go.Proofs.Ytonedijkgddepaa.P
open Go.Sq
open Go.RowKit Go.Maps Go.Proofs.YtonedijkgddepaaW.PrintWords Go.Proofs.YtonedijkgddepaaW.PrintLast Go.Proofs.YtonedijkgddepaaW.PrintMore
set_option linter.unusedVariables false
set_option linter.unusedSimpArgs false
theorem askAskT (w0 w : World) (L : List Thing) (B bl q : Nat) (s : As) (h : St w0 w (askT B bl q s ++ L)) (hk : s.ok q) (g : Int) (c : S38) (hc : c.f14 = []) :
  Calls Try.prog 27 #[.pointer (some ⟨B, 0, none⟩), .int .i64 g, .agg #[(.int .i64 c.f0), (.int .i64 c.f1), (.int .i64 c.f2), (.int .i64 c.f3), (.int .i64 c.f4), (.string c.f5), (.string c.f6), (.string c.f7), (.string c.f8), (.int .i64 c.f9), (.int .i64 c.f10), (.int .i64 c.f11.f0), (.string c.f11.f1), (.int .i64 c.f11.f2), (.int .i64 c.f11.f3), (.int .i64 c.f12.f0), (.int .i64 c.f12.f1), (.int .i64 c.f13), (.slice none 0 0)]] w fun e' w' => e' = .returned (.int .i64 (askV s g c).1) ∧ St w0 w' (askT B bl (q + 1) (askV s g c).2 ++ L) :=
 (askAsk w B bl q s (ask_in h) hk g c hc).mono (fun e' w' hp => ⟨hp.1, ask_out h hp.2.1 (hp.2.2.mono (fun k hk => Or.inl hk))⟩)
end Go.Proofs.Ytonedijkgddepaa.P
namespace Go.Proofs.Ytonedijkgddepaa.P
open Go.Sq
open Go.RowKit Go.Maps Go.Proofs.YtonedijkgddepaaW.PrintWords Go.Proofs.YtonedijkgddepaaW.PrintLast Go.Proofs.YtonedijkgddepaaW.PrintMore
set_option linter.unusedVariables false
set_option linter.unusedSimpArgs false

def cmdS (x : Ca) : S38 := ⟨x.kind, 0, 0, 0, x.queue, ⟨#[]⟩, ⟨#[]⟩, ⟨#[]⟩, x.attempt, x.max, x.secs, z33, z35, 0, []⟩
theorem int_cell {w0 w : World} {L : List Thing} (h : St w0 w L) (n : Nat) {m c g : Nat} {xs : List Int} (hx : L[n]? = some (Row (Kd.int .i64) 3 (.slice (some ⟨g, 0, none⟩) m c) xs)) (i : Nat) (hi : i < xs.length) : w.cell? ⟨g, i, none⟩ = some (.int .i64 (xs.getD i 0)) := by
 obtain ⟨cs, hK, hc⟩ := h.elem n hx i hi 0
 have e : cs = [.int .i64 (xs.getD i 0)] := hK
 subst e
 have h1 := hc 0 _ rfl
 have e2 : i * (Kd.int .i64).sz + 0 = i := Nat.mul_one i
 rw [e2] at h1
 exact h1
set_option maxHeartbeats 4000000 in
set_option maxRecDepth 100000 in
theorem nextSweep0 (w0 : World) (L : List Thing) (BC BA bl q : Nat) (a : As) (c : Cl) (v1 v2 v3 v4 : Value) (hk : a.ok q) (hsw : sweepsB c.call.kind = true) (i : Nat) (hst : c.step = (i : Int)) (hl : c.pieces.length ≤ 1000000) (hi0 : i = 0) (hi : i < (shardsV c.pieces).length) :
  NextDoes w0 L BC BA bl q a c v1 v2 v3 v4 (askV a ((shardsV c.pieces).getD i 0) (cmdS c.call)).2 { c with sweep := shardsV c.pieces } := by
 intro w h
 have H0 := Aside0.mk h
 have HK := Aside0.mk hk
 have HSW := Aside0.mk hsw
 have HLP := Aside0.mk hl
 have HST := Aside0.mk hst
 have HLT := Aside0.mk hi
 clear h hk hl hi
 obtain ⟨A2, c2, rfl, _, _⟩ := H0.out.row 4 rfl
 have hs1 : (c.step == 0) = true := beq_iff_eq.2 (by omega)
 have hs2 : (c.step != 0) = false := by rw [bne, hs1]; rfl
 have Xz := Aside0.mk (show c.step = 0 by omega)
 have H := H0
 clear hst hi0
 refine calls_hide fun R HPOST => ?_
 go_enter Try.func36, Try.ntmps36
 go_upto_region 0 with (fail)
 have S2 := Aside0.mk H.out.drew
 refine start_ (n := 28) (S := fun w' => St w0 w' (Blk BC (cliA BA c v1 (.slice A2 c.pieces.length c2) v3 v4) 91 :: Blk BA (askA a bl) 97 :: MapT bl q a.lead :: Row k106 106 v1 c.call.entries :: Row k108 108 (.slice A2 c.pieces.length c2) c.pieces :: Row (Kd.int .i64) 3 v3 c.sweep :: Row k42 42 v4 c.out :: L)) (ds := [27]) (bits 28 0) (by kernel_rfl) rfl rfl (H.out).drew (fun hHeld => ?_)
 generalize w.drew = w1 at S2 hHeld ⊢
 refine pu 0 4 (bits 28 1) ?_ rfl rfl (by kernel_rfl) (fun _ _ _ h => h) (by rfl) ?_ ?_ ?_ ?_
 rotate_left
 ·intro w'; go_simp; with_reducible rfl
 rotate_left
 ·simp only [Act.put, sqA, sqB, sqC, i64_w, i32_w]; rfl
 refine pu 1 5 (bits 28 3) ?_ rfl rfl (by kernel_rfl) (fun _ _ _ h => h) (by rfl) ?_ ?_ ?_ ?_
 rotate_left
 ·intro w'; go_simp; with_reducible rfl
 rotate_left
 ·simp only [Act.put, sqA, sqB, sqC, i64_w, i32_w]; rfl
 refine pu 2 6 (bits 28 7) ?_ rfl rfl (by kernel_rfl) (fun _ _ _ h => h) (by rfl) ?_ ?_ ?_ ?_
 rotate_left
 ·intro w'; go_simp; with_reducible rfl
 rotate_left
 ·simp only [Act.put, sqA, sqB, sqC, i64_w, i32_w]; rfl
 refine pu 3 7 (bits 28 15) ?_ rfl rfl (by kernel_rfl) (fun _ _ _ h => h) (by rfl) ?_ ?_ ?_ ?_
 rotate_left
 ·intro w'; go_simp; with_reducible rfl
 rotate_left
 ·simp only [Act.put, sqA, sqB, sqC, i64_w, i32_w]; rfl
 refine pu 5 9 (bits 28 47) ?_ rfl rfl (by kernel_rfl) (fun _ _ _ h => h) (by rfl) ?_ ?_ ?_ ?_
 rotate_left
 ·intro w'; go_simp; with_reducible rfl
 rotate_left
 ·simp only [Act.put, sqA, sqB, sqC, i64_w, i32_w]; rfl
 refine pu 6 10 (bits 28 111) ?_ rfl rfl (by kernel_rfl) (fun _ _ _ h => h) (by rfl) ?_ ?_ ?_ ?_
 rotate_left
 ·intro w'; go_simp; with_reducible rfl
 rotate_left
 ·simp only [Act.put, sqA, sqB, sqC, i64_w, i32_w]; rfl
 refine pu 7 11 (bits 28 239) ?_ rfl rfl (by kernel_rfl) (fun _ _ _ h => h) (by rfl) ?_ ?_ ?_ ?_
 rotate_left
 ·intro w'; go_simp; with_reducible rfl
 rotate_left
 ·simp only [Act.put, sqA, sqB, sqC, i64_w, i32_w]; rfl
 refine pu 8 12 (bits 28 495) ?_ rfl rfl (by kernel_rfl) (fun _ _ _ h => h) (by rfl) ?_ ?_ ?_ ?_
 rotate_left
 ·intro w'; go_simp; with_reducible rfl
 rotate_left
 ·simp only [Act.put, sqA, sqB, sqC, i64_w, i32_w]; rfl
 refine pu 10 14 (bits 28 1519) ?_ rfl rfl (by kernel_rfl) (fun _ _ _ h => h) (by rfl) ?_ ?_ ?_ ?_
 rotate_left
 ·intro w'; go_simp; with_reducible rfl
 rotate_left
 ·simp only [Act.put, sqA, sqB, sqC, i64_w, i32_w]; rfl
 refine pu 11 15 (bits 28 3567) ?_ rfl rfl (by kernel_rfl) (fun _ _ _ h => h) (by rfl) ?_ ?_ ?_ ?_
 rotate_left
 ·intro w'; go_simp; with_reducible rfl
 rotate_left
 ·simp only [Act.put, sqA, sqB, sqC, i64_w, i32_w]; rfl
 refine pu 12 16 (bits 28 7663) ?_ rfl rfl (by kernel_rfl) (fun _ _ _ h => h) (by rfl) ?_ ?_ ?_ ?_
 rotate_left
 ·intro w'; go_simp; with_reducible rfl
 rotate_left
 ·simp only [Act.put, sqA, sqB, sqC, i64_w, i32_w]; rfl
 refine pu 13 17 (bits 28 15855) ?_ rfl rfl (by kernel_rfl) (fun _ _ _ h => h) (by rfl) ?_ ?_ ?_ ?_
 rotate_left
 ·intro w'; go_simp; with_reducible rfl
 rotate_left
 ·simp only [Act.put, sqA, sqB, sqC, i64_w, i32_w]; rfl
 refine pu 15 19 (bits 28 48623) ?_ rfl rfl (by kernel_rfl) (fun _ _ _ h => h) (by rfl) ?_ ?_ ?_ ?_
 rotate_left
 ·intro w'; go_simp; with_reducible rfl
 rotate_left
 ·simp only [Act.put, sqA, sqB, sqC, i64_w, i32_w]; rfl
 refine pu 16 20 (bits 28 114159) ?_ rfl rfl (by kernel_rfl) (fun _ _ _ h => h) (by rfl) ?_ ?_ ?_ ?_
 rotate_left
 ·intro w'; go_simp; with_reducible rfl
 rotate_left
 ·simp only [Act.put, sqA, sqB, sqC, i64_w, i32_w]; rfl
 refine pu 17 21 (bits 28 245231) ?_ rfl rfl (by kernel_rfl) (fun _ _ _ h => h) (by rfl) ?_ ?_ ?_ ?_
 rotate_left
 ·intro w'; go_simp; with_reducible rfl
 rotate_left
 ·simp only [Act.put, sqA, sqB, sqC, i64_w, i32_w]; rfl
 refine pu 18 22 (bits 28 507375) ?_ rfl rfl (by kernel_rfl) (fun _ _ _ h => h) (by rfl) ?_ ?_ ?_ ?_
 rotate_left
 ·intro w'; go_simp; with_reducible rfl
 rotate_left
 ·simp only [Act.put, sqA, sqB, sqC, i64_w, i32_w]; rfl
 refine pu 20 24 (bits 28 1555951) ?_ rfl rfl (by kernel_rfl) (fun _ _ _ h => h) (by rfl) ?_ ?_ ?_ ?_
 rotate_left
 ·intro w'; go_simp; with_reducible rfl
 rotate_left
 ·simp only [Act.put, sqA, sqB, sqC, i64_w, i32_w]; rfl
 refine pu 21 25 (bits 28 3653103) ?_ rfl rfl (by kernel_rfl) (fun _ _ _ h => h) (by rfl) ?_ ?_ ?_ ?_
 rotate_left
 ·intro w'; go_simp; with_reducible rfl
 rotate_left
 ·simp only [Act.put, sqA, sqB, sqC, i64_w, i32_w]; rfl
 refine pu 22 26 (bits 28 7847407) ?_ rfl rfl (by kernel_rfl) (fun _ _ _ h => h) (by rfl) ?_ ?_ ?_ ?_
 rotate_left
 ·intro w'; go_simp; with_reducible rfl
 rotate_left
 ·simp only [Act.put, sqA, sqB, sqC, i64_w, i32_w]; rfl
 refine pu 23 27 (bits 28 16236015) ?_ rfl rfl (by kernel_rfl) (fun _ _ _ h => h) (by rfl) ?_ ?_ ?_ ?_
 rotate_left
 ·intro w'; go_simp; with_reducible rfl
 rotate_left
 ·simp only [Act.put, sqA, sqB, sqC, i64_w, i32_w]; rfl
 refine tk 4 8 (bits 28 16236031) ?_ rfl rfl (by kernel_rfl) (fun _ _ _ h => h) (by rfl) ?_ hHeld ?_ ?_ ?_
 rotate_left
 ·intro w' hw'; have s0 : w'.cell? ⟨BC, 1, none⟩ = some (.int .i64 c.call.kind) := hw'.cell 0 1 rfl rfl; go_simp; with_reducible rfl
 rotate_left
 ·simp only [Act.put, sqA, sqB, sqC, i64_w, i32_w]; rfl
 refine tk 9 13 (bits 28 16236543) ?_ rfl rfl (by kernel_rfl) (fun _ _ _ h => h) (by rfl) ?_ hHeld ?_ ?_ ?_
 rotate_left
 ·intro w' hw'; have s0 : w'.cell? ⟨BC, 2, none⟩ = some (.int .i64 c.call.queue) := hw'.cell 0 2 rfl rfl; go_simp; with_reducible rfl
 rotate_left
 ·simp only [Act.put, sqA, sqB, sqC, i64_w, i32_w]; rfl
 refine tk 14 18 (bits 28 16252927) ?_ rfl rfl (by kernel_rfl) (fun _ _ _ h => h) (by rfl) ?_ hHeld ?_ ?_ ?_
 rotate_left
 ·intro w' hw'; have s0 : w'.cell? ⟨BC, 3, none⟩ = some (.int .i64 c.call.max) := hw'.cell 0 3 rfl rfl; go_simp; with_reducible rfl
 rotate_left
 ·simp only [Act.put, sqA, sqB, sqC, i64_w, i32_w]; rfl
 refine tk 19 23 (bits 28 16777215) ?_ rfl rfl (by kernel_rfl) (fun _ _ _ h => h) (by rfl) ?_ hHeld ?_ ?_ ?_
 rotate_left
 ·intro w' hw'; have s0 : w'.cell? ⟨BC, 4, none⟩ = some (.int .i64 c.call.secs) := hw'.cell 0 4 rfl rfl; go_simp; with_reducible rfl
 rotate_left
 ·simp only [Act.put, sqA, sqB, sqC, i64_w, i32_w]; rfl
 refine tk 24 28 (bits 28 33554431) ?_ rfl rfl (by kernel_rfl) (fun _ _ _ h => h) (by rfl) ?_ hHeld ?_ ?_ ?_
 rotate_left
 ·intro w' hw'; have s0 : w'.cell? ⟨BC, 5, none⟩ = some (.string c.call.attempt) := hw'.cell 0 5 rfl rfl; go_simp; with_reducible rfl
 rotate_left
 ·simp only [Act.put, sqA, sqB, sqC, i64_w, i32_w]; rfl
 refine pu 25 29 (bits 28 67108863) ?_ rfl rfl (by kernel_rfl) (fun _ _ _ h => h) (by rfl) ?_ ?_ ?_ ?_
 rotate_left
 ·intro w'; go_simp; with_reducible rfl
 rotate_left
 ·simp only [Act.put, sqA, sqB, sqC, i64_w, i32_w]; rfl
 refine one_ (i := 26) (N := some 2) (bits 28 134217727) rfl rfl (by kernel_rfl) (by decide) (fun K hK => ?_)
 refine st_box_step (by rfl) (N := 2) rfl #[(.int .i64 0), (.int .i64 0), (.int .i64 0), (.int .i64 0), (.int .i64 0), (.string (⟨#[]⟩ : ByteArray)), (.string (⟨#[]⟩ : ByteArray)), (.string (⟨#[]⟩ : ByteArray)), (.string (⟨#[]⟩ : ByteArray)), (.int .i64 0), (.int .i64 0), (.int .i64 0), (.string (⟨#[]⟩ : ByteArray)), (.int .i64 0), (.int .i64 0), (.int .i64 0), (.int .i64 0), (.int .i64 0), (.slice none 0 0)] 38 ?_ S2.out ?_
 ·first | (go_simp; done) | (go_simp; rfl)
 intro g3 w4 hg_ h_ hb_
 have S5 := Aside0.mk h_
 have BS5 := Aside0.mk hb_
 have GS5 := Aside0.mk hg_
 clear h_ hb_ hg_
 refine hK.out _ _ (((S5.out).erase 0)) ?_
 clear hHeld
 intro hHeld
 clear hK K
 refine norm_ (a' := ?_) ?_ ?_
 rotate_left
 ·show Act.put _ (some 2) _ = _; simp only [Act.put, sqA, sqB, sqC, i64_w, i32_w]; rfl
 refine last_ (i := 27) (N := none) (bits 28 268435455) rfl rfl (by kernel_rfl) (by decide) (fun K hK => ?_)
 refine st_store_step (by rfl) rfl 38 _ _ rfl rfl rfl (seg := [(.int .i64 c.call.kind), (.int .i64 0), (.int .i64 0), (.int .i64 0), (.int .i64 c.call.queue), (.string (⟨#[]⟩ : ByteArray)), (.string (⟨#[]⟩ : ByteArray)), (.string (⟨#[]⟩ : ByteArray)), (.string c.call.attempt), (.int .i64 c.call.max), (.int .i64 c.call.secs), (.int .i64 0), (.string (⟨#[]⟩ : ByteArray)), (.int .i64 0), (.int .i64 0), (.int .i64 0), (.int .i64 0), (.int .i64 0), (.slice none 0 0)]) rfl (by kernel_rfl) (by rfl) S5.out 0 rfl (Nat.le_of_ble_eq_true rfl) ?_
 intro w6 h_ hu_
 have S7 : Aside0 (St w0 w6 (Blk g3 #[(.int .i64 c.call.kind), (.int .i64 0), (.int .i64 0), (.int .i64 0), (.int .i64 c.call.queue), (.string (⟨#[]⟩ : ByteArray)), (.string (⟨#[]⟩ : ByteArray)), (.string (⟨#[]⟩ : ByteArray)), (.string c.call.attempt), (.int .i64 c.call.max), (.int .i64 c.call.secs), (.int .i64 0), (.string (⟨#[]⟩ : ByteArray)), (.int .i64 0), (.int .i64 0), (.int .i64 0), (.int .i64 0), (.int .i64 0), (.slice none 0 0)] 38 :: Blk BC (cliA BA c v1 (.slice A2 c.pieces.length c2) v3 v4) 91 :: Blk BA (askA a bl) 97 :: MapT bl q a.lead :: Row k106 106 v1 c.call.entries :: Row k108 108 (.slice A2 c.pieces.length c2) c.pieces :: Row (Kd.int .i64) 3 v3 c.sweep :: Row k42 42 v4 c.out :: L)) := Aside0.mk h_
 clear h_ hu_
 refine hK.out _ _ ?_
 clear hK K
 refine done_ (by kernel_rfl) ?_
 clear hHeld
 go_upto_region 1 with (fail)
 have cf_8 : w6.cell? ⟨BC, 1, none⟩ = some (.int .i64 c.call.kind) := S7.out.cell 1 1 rfl rfl
 go_upto_region 2 with (first | (go_at_call 39; (with_reducible refine (sweepsC _ c.call.kind).mono ?_); rintro e1 w10 ⟨rfl, hb_⟩; clear cf_8; have S9 := Aside0.mk (S7.out.below hb_); clear hb_))
 have cf_11 : w10.cell? ⟨BC, 13, none⟩ = some (.int .i64 c.step) := S9.out.cell 1 13 rfl rfl
 go_upto_region 3 with (fail)
 clear cf_11
 go_upto_region 4 with (first | ((refine gate_ (.load 45 (.tmp 44)) rfl ?_); refine st_load rfl 45 _ rfl rfl S9.out 1 rfl [(.int .i64 c.epoch), (.slice A2 c.pieces.length c2)] rfl Try.underlying45 rfl (by kernel_rfl) ?_) | (go_at_call 53; (refine (shardsT w0 _ _ S9.out c.epoch A2 c2 c.pieces (fun W hW => (hW.reads 5 rfl).1) HLP.out).mono ?_); rintro e1 w13 ⟨vS, rfl, h_⟩; obtain ⟨As, cs, rfl, _, _⟩ := h_.row 0 rfl; obtain ⟨gs, rfl⟩ := h_.head 0 rfl (Nat.lt_of_le_of_lt (Nat.zero_le _) HLT.out); have S12 := Aside0.mk h_; clear h_) | ((refine gate_ (.store 63 (.tmp 48) (.tmp 46)) rfl ?_); refine st_store rfl rfl 63 _ _ rfl rfl rfl (seg := [(.slice (some ⟨gs, 0, none⟩) (shardsV c.pieces).length cs)]) rfl (by kernel_rfl) (by rfl) S12.out 2 rfl (Nat.le_of_ble_eq_true rfl) ?_; intro w14 h_; have S15 : Aside0 (St w0 w14 (Row (Kd.int .i64) 3 (.slice (some ⟨gs, 0, none⟩) (shardsV c.pieces).length cs) (shardsV c.pieces) :: Blk g3 #[(.int .i64 c.call.kind), (.int .i64 0), (.int .i64 0), (.int .i64 0), (.int .i64 c.call.queue), (.string (⟨#[]⟩ : ByteArray)), (.string (⟨#[]⟩ : ByteArray)), (.string (⟨#[]⟩ : ByteArray)), (.string c.call.attempt), (.int .i64 c.call.max), (.int .i64 c.call.secs), (.int .i64 0), (.string (⟨#[]⟩ : ByteArray)), (.int .i64 0), (.int .i64 0), (.int .i64 0), (.int .i64 0), (.int .i64 0), (.slice none 0 0)] 38 :: Blk BC (cliA BA { c with sweep := (shardsV c.pieces) } v1 (.slice A2 c.pieces.length c2) (.slice (some ⟨gs, 0, none⟩) (shardsV c.pieces).length cs) v4) 91 :: Blk BA (askA a bl) 97 :: MapT bl q a.lead :: Row k106 106 v1 c.call.entries :: Row k108 108 (.slice A2 c.pieces.length c2) c.pieces :: Row (Kd.int .i64) 3 v3 c.sweep :: Row k42 42 v4 c.out :: L)) := Aside0.mk h_; clear h_))
 have S17 := Aside0.mk S15.out.drew
 refine start_ (n := 16) (S := fun w' => St w0 w' (Row (Kd.int .i64) 3 (.slice (some ⟨gs, 0, none⟩) (shardsV c.pieces).length cs) (shardsV c.pieces) :: Blk g3 #[(.int .i64 c.call.kind), (.int .i64 0), (.int .i64 0), (.int .i64 0), (.int .i64 c.call.queue), (.string (⟨#[]⟩ : ByteArray)), (.string (⟨#[]⟩ : ByteArray)), (.string (⟨#[]⟩ : ByteArray)), (.string c.call.attempt), (.int .i64 c.call.max), (.int .i64 c.call.secs), (.int .i64 0), (.string (⟨#[]⟩ : ByteArray)), (.int .i64 0), (.int .i64 0), (.int .i64 0), (.int .i64 0), (.int .i64 0), (.slice none 0 0)] 38 :: Blk BC (cliA BA { c with sweep := (shardsV c.pieces) } v1 (.slice A2 c.pieces.length c2) (.slice (some ⟨gs, 0, none⟩) (shardsV c.pieces).length cs) v4) 91 :: Blk BA (askA a bl) 97 :: MapT bl q a.lead :: Row k106 106 v1 c.call.entries :: Row k108 108 (.slice A2 c.pieces.length c2) c.pieces :: Row (Kd.int .i64) 3 v3 c.sweep :: Row k42 42 v4 c.out :: L)) (ds := [15]) (bits 16 0) (by kernel_rfl) rfl rfl (S15.out).drew (fun hHeld => ?_)
 generalize w14.drew = w16 at S17 hHeld ⊢
 refine pu 0 49 (bits 16 1) ?_ rfl rfl (by kernel_rfl) (fun _ _ _ h => h) (by rfl) ?_ ?_ ?_ ?_
 rotate_left
 ·intro w'; go_simp; with_reducible rfl
 rotate_left
 ·simp only [Act.put, sqA, sqB, sqC, i64_w, i32_w]; rfl
 refine pu 1 50 (bits 16 3) ?_ rfl rfl (by kernel_rfl) (fun _ _ _ h => h) (by rfl) ?_ ?_ ?_ ?_
 rotate_left
 ·intro w'; go_simp; with_reducible rfl
 rotate_left
 ·simp only [Act.put, sqA, sqB, sqC, i64_w, i32_w]; rfl
 refine pu 2 51 (bits 16 7) ?_ rfl rfl (by kernel_rfl) (fun _ _ _ h => h) (by rfl) ?_ ?_ ?_ ?_
 rotate_left
 ·intro w'; go_simp; with_reducible rfl
 rotate_left
 ·simp only [Act.put, sqA, sqB, sqC, i64_w, i32_w]; rfl
 refine pu 4 53 (bits 16 23) ?_ rfl rfl (by kernel_rfl) (fun _ _ _ h => h) (by rfl) ?_ ?_ ?_ ?_
 rotate_left
 ·intro w'; go_simp; with_reducible rfl
 rotate_left
 ·simp only [Act.put, sqA, sqB, sqC, i64_w, i32_w]; rfl
 refine pu 5 54 (bits 16 55) ?_ rfl rfl (by kernel_rfl) (fun _ _ _ h => h) (by rfl) ?_ ?_ ?_ ?_
 rotate_left
 ·intro w'; go_simp; with_reducible rfl
 rotate_left
 ·simp only [Act.put, sqA, sqB, sqC, i64_w, i32_w]; rfl
 refine pu 6 55 (bits 16 119) ?_ rfl rfl (by kernel_rfl) (fun _ _ _ h => h) (by rfl) ?_ ?_ ?_ ?_
 rotate_left
 ·intro w'; go_simp; with_reducible rfl
 rotate_left
 ·simp only [Act.put, sqA, sqB, sqC, i64_w, i32_w]; rfl
 refine pu 8 57 (bits 16 375) ?_ rfl rfl (by kernel_rfl) (fun _ _ _ h => h) (by rfl) ?_ ?_ ?_ ?_
 rotate_left
 ·intro w'; go_simp; with_reducible rfl
 rotate_left
 ·simp only [Act.put, sqA, sqB, sqC, i64_w, i32_w]; rfl
 refine pu 9 58 (bits 16 887) ?_ rfl rfl (by kernel_rfl) (fun _ _ _ h => h) (by rfl) ?_ ?_ ?_ ?_
 rotate_left
 ·intro w'; go_simp; with_reducible rfl
 rotate_left
 ·simp only [Act.put, sqA, sqB, sqC, i64_w, i32_w]; rfl
 refine pu 10 59 (bits 16 1911) ?_ rfl rfl (by kernel_rfl) (fun _ _ _ h => h) (by rfl) ?_ ?_ ?_ ?_
 rotate_left
 ·intro w'; go_simp; with_reducible rfl
 rotate_left
 ·simp only [Act.put, sqA, sqB, sqC, i64_w, i32_w]; rfl
 refine tk 3 52 (bits 16 1919) ?_ rfl rfl (by kernel_rfl) (fun _ _ _ h => h) (by rfl) ?_ hHeld ?_ ?_ ?_
 rotate_left
 ·intro w' hw'; have s0 : w'.cell? ⟨BC, 0, none⟩ = some (.pointer (some ⟨BA, 0, none⟩)) := hw'.cell 2 0 rfl rfl; go_simp; with_reducible rfl
 rotate_left
 ·simp only [Act.put, sqA, sqB, sqC, i64_w, i32_w]; rfl
 refine tk 7 56 (bits 16 2047) ?_ rfl rfl (by kernel_rfl) (fun _ _ _ h => h) (by rfl) ?_ hHeld ?_ ?_ ?_
 rotate_left
 ·intro w' hw'; have s0 : w'.cell? ⟨BC, 14, none⟩ = some (.slice (some ⟨gs, 0, none⟩) (shardsV c.pieces).length cs) := hw'.cell 2 14 rfl rfl; go_simp; with_reducible rfl
 rotate_left
 ·simp only [Act.put, sqA, sqB, sqC, i64_w, i32_w]; rfl
 refine tk 11 60 (bits 16 4095) ?_ rfl rfl (by kernel_rfl) (fun _ _ _ h => h) (by rfl) ?_ hHeld ?_ ?_ ?_
 rotate_left
 ·intro w' hw'; have s0 : w'.cell? ⟨BC, 13, none⟩ = some (.int .i64 c.step) := hw'.cell 2 13 rfl rfl; go_simp; with_reducible rfl
 rotate_left
 ·simp only [Act.put, sqA, sqB, sqC, i64_w, i32_w]; rfl
 refine pure_ (i := 12) (N := some 61) (a' := ?_) (bits 16 8191) rfl rfl (by kernel_rfl) (fun _ _ _ h => h) (yields_index (by rfl) 63 _ _ rfl rfl rfl (by have := HST.out; omega) (by have := HST.out; have := HLT.out; omega) Try.underlying63 (sz := 1) (by kernel_rfl) (o' := i) (by have := HST.out; omega)) ?_ ?_
 rotate_left
 ·simp only [Act.put, sqA, sqB, sqC, i64_w, i32_w]; rfl
 refine tk 13 62 (bits 16 16383) ?_ rfl rfl (by kernel_rfl) (fun _ _ _ h => h) (by rfl) ?_ hHeld ?_ ?_ ?_
 rotate_left
 ·intro w' hw'; have s0 : w'.cell? ⟨gs, i, none⟩ = some (.int .i64 ((shardsV c.pieces).getD i 0)) := int_cell hw' 0 rfl i HLT.out; go_simp; with_reducible rfl
 rotate_left
 ·simp only [Act.put, sqA, sqB, sqC, i64_w, i32_w]; rfl
 refine take_ (i := 14) (N := some 63) (a' := ?_) (bits 16 32767) rfl rfl (by kernel_rfl) (fun _ _ _ h => h) (yields_blk (by rfl) 38 _ rfl g3 0 rfl [(.int .i64 c.call.kind), (.int .i64 0), (.int .i64 0), (.int .i64 0), (.int .i64 c.call.queue), (.string (⟨#[]⟩ : ByteArray)), (.string (⟨#[]⟩ : ByteArray)), (.string (⟨#[]⟩ : ByteArray)), (.string c.call.attempt), (.int .i64 c.call.max), (.int .i64 c.call.secs), (.int .i64 0), (.string (⟨#[]⟩ : ByteArray)), (.int .i64 0), (.int .i64 0), (.int .i64 0), (.int .i64 0), (.int .i64 0), (.slice none 0 0)] rfl (fun w' hw' => hw'.blk 1 rfl) Try.underlying38 rfl (by kernel_rfl)) hHeld ?_ ?_
 rotate_left
 ·simp only [Act.put, sqA, sqB, sqC, i64_w, i32_w]; rfl
 refine last_ (i := 15) (N := some 64) (bits 16 65535) rfl rfl (by kernel_rfl) (by decide) (fun K hK => ?_)
 refine goes_ Try.func27 (by kernel_rfl) rfl #[(.pointer (some ⟨BA, 0, none⟩)), (.int .i64 ((shardsV c.pieces).getD i 0)), (.agg #[(.int .i64 c.call.kind), (.int .i64 0), (.int .i64 0), (.int .i64 0), (.int .i64 c.call.queue), (.string (⟨#[]⟩ : ByteArray)), (.string (⟨#[]⟩ : ByteArray)), (.string (⟨#[]⟩ : ByteArray)), (.string c.call.attempt), (.int .i64 c.call.max), (.int .i64 c.call.secs), (.int .i64 0), (.string (⟨#[]⟩ : ByteArray)), (.int .i64 0), (.int .i64 0), (.int .i64 0), (.int .i64 0), (.int .i64 0), (.slice none 0 0)])] (by rfl) rfl rfl (by (try simp only [List.map_toArray, List.map_cons, List.map_nil]); first | done | rfl) ?_
 refine (askAskT w0 _ (Row (Kd.int .i64) 3 (.slice (some ⟨gs, 0, none⟩) (shardsV c.pieces).length cs) (shardsV c.pieces) :: Blk g3 #[(.int .i64 c.call.kind), (.int .i64 0), (.int .i64 0), (.int .i64 0), (.int .i64 c.call.queue), (.string (⟨#[]⟩ : ByteArray)), (.string (⟨#[]⟩ : ByteArray)), (.string (⟨#[]⟩ : ByteArray)), (.string c.call.attempt), (.int .i64 c.call.max), (.int .i64 c.call.secs), (.int .i64 0), (.string (⟨#[]⟩ : ByteArray)), (.int .i64 0), (.int .i64 0), (.int .i64 0), (.int .i64 0), (.int .i64 0), (.slice none 0 0)] 38 :: Blk BC (cliA BA { c with sweep := (shardsV c.pieces) } v1 (.slice A2 c.pieces.length c2) (.slice (some ⟨gs, 0, none⟩) (shardsV c.pieces).length cs) v4) 91 :: Row k106 106 v1 c.call.entries :: Row k108 108 (.slice A2 c.pieces.length c2) c.pieces :: Row (Kd.int .i64) 3 v3 c.sweep :: Row k42 42 v4 c.out :: L) BA bl q a ((((((((((S17.out).bring 8 rfl).bring 8 rfl).bring 8 rfl).bring 8 rfl).bring 6 rfl).bring 6 rfl).bring 6 rfl).bring 8 rfl).bring 8 rfl) HK.out ((shardsV c.pieces).getD i 0) (cmdS c.call) rfl).mono ?_
 rintro e1 w19 ⟨rfl, h_⟩
 have S18 := Aside0.mk h_
 clear h_
 refine ⟨_, rfl, ?_⟩
 refine hK.out _ _ ?_
 clear hK K
 refine norm_ (a' := ?_) ?_ ?_
 rotate_left
 ·show Act.put _ (some 64) _ = _; simp only [Act.put, sqA, sqB, sqC, i64_w, i32_w]; rfl
 refine done_ (by kernel_rfl) ?_
 clear hHeld
 go_wp2_with (fail)
 try go_end0
 refine HPOST.out _ _ ?_
 exact ⟨rfl, _, ((((((((((S18.out).erase 7).erase 3).bring 6 rfl).bring 3 rfl).bring 6 rfl).bring 6 rfl).bring 5 rfl).bring 5 rfl).bring 6 rfl)⟩
set_option maxHeartbeats 4000000 in
set_option maxRecDepth 100000 in
theorem nextSweepN (w0 : World) (L : List Thing) (BC BA bl q : Nat) (a : As) (c : Cl) (v1 v2 v3 v4 : Value) (hk : a.ok q) (hsw : sweepsB c.call.kind = true) (i : Nat) (hst : c.step = (i : Int)) (hl : c.pieces.length ≤ 1000000) (hi0 : 0 < i) (hi : i < c.sweep.length) :
  NextDoes w0 L BC BA bl q a c v1 v2 v3 v4 (askV a (c.sweep.getD i 0) (cmdS c.call)).2 c := by
 intro w h
 have H0 := Aside0.mk h
 have HK := Aside0.mk hk
 have HSW := Aside0.mk hsw
 have HLP := Aside0.mk hl
 have HST := Aside0.mk hst
 have HLT := Aside0.mk hi
 clear h hk hl hi
 obtain ⟨A2, c2, rfl, _, _⟩ := H0.out.row 4 rfl
 obtain ⟨A3, c3, rfl, _, _⟩ := H0.out.row 5 rfl
 obtain ⟨gs, rfl⟩ := H0.out.head 5 rfl (Nat.lt_of_le_of_lt (Nat.zero_le _) HLT.out)
 have hs1 : (c.step == 0) = false := beq_eq_false_iff_ne.2 (by omega)
 have hs2 : (c.step != 0) = true := by rw [bne, hs1]; rfl
 have Xz := Aside0.mk (show ¬ c.step = 0 by omega)
 have H := H0
 clear hst hi0
 refine calls_hide fun R HPOST => ?_
 go_enter Try.func36, Try.ntmps36
 go_upto_region 0 with (fail)
 have S2 := Aside0.mk H.out.drew
 refine start_ (n := 28) (S := fun w' => St w0 w' (Blk BC (cliA BA c v1 (.slice A2 c.pieces.length c2) (.slice (some ⟨gs, 0, none⟩) c.sweep.length c3) v4) 91 :: Blk BA (askA a bl) 97 :: MapT bl q a.lead :: Row k106 106 v1 c.call.entries :: Row k108 108 (.slice A2 c.pieces.length c2) c.pieces :: Row (Kd.int .i64) 3 (.slice (some ⟨gs, 0, none⟩) c.sweep.length c3) c.sweep :: Row k42 42 v4 c.out :: L)) (ds := [27]) (bits 28 0) (by kernel_rfl) rfl rfl (H.out).drew (fun hHeld => ?_)
 generalize w.drew = w1 at S2 hHeld ⊢
 refine pu 0 4 (bits 28 1) ?_ rfl rfl (by kernel_rfl) (fun _ _ _ h => h) (by rfl) ?_ ?_ ?_ ?_
 rotate_left
 ·intro w'; go_simp; with_reducible rfl
 rotate_left
 ·simp only [Act.put, sqA, sqB, sqC, i64_w, i32_w]; rfl
 refine pu 1 5 (bits 28 3) ?_ rfl rfl (by kernel_rfl) (fun _ _ _ h => h) (by rfl) ?_ ?_ ?_ ?_
 rotate_left
 ·intro w'; go_simp; with_reducible rfl
 rotate_left
 ·simp only [Act.put, sqA, sqB, sqC, i64_w, i32_w]; rfl
 refine pu 2 6 (bits 28 7) ?_ rfl rfl (by kernel_rfl) (fun _ _ _ h => h) (by rfl) ?_ ?_ ?_ ?_
 rotate_left
 ·intro w'; go_simp; with_reducible rfl
 rotate_left
 ·simp only [Act.put, sqA, sqB, sqC, i64_w, i32_w]; rfl
 refine pu 3 7 (bits 28 15) ?_ rfl rfl (by kernel_rfl) (fun _ _ _ h => h) (by rfl) ?_ ?_ ?_ ?_
 rotate_left
 ·intro w'; go_simp; with_reducible rfl
 rotate_left
 ·simp only [Act.put, sqA, sqB, sqC, i64_w, i32_w]; rfl
 refine pu 5 9 (bits 28 47) ?_ rfl rfl (by kernel_rfl) (fun _ _ _ h => h) (by rfl) ?_ ?_ ?_ ?_
 rotate_left
 ·intro w'; go_simp; with_reducible rfl
 rotate_left
 ·simp only [Act.put, sqA, sqB, sqC, i64_w, i32_w]; rfl
 refine pu 6 10 (bits 28 111) ?_ rfl rfl (by kernel_rfl) (fun _ _ _ h => h) (by rfl) ?_ ?_ ?_ ?_
 rotate_left
 ·intro w'; go_simp; with_reducible rfl
 rotate_left
 ·simp only [Act.put, sqA, sqB, sqC, i64_w, i32_w]; rfl
 refine pu 7 11 (bits 28 239) ?_ rfl rfl (by kernel_rfl) (fun _ _ _ h => h) (by rfl) ?_ ?_ ?_ ?_
 rotate_left
 ·intro w'; go_simp; with_reducible rfl
 rotate_left
 ·simp only [Act.put, sqA, sqB, sqC, i64_w, i32_w]; rfl
 refine pu 8 12 (bits 28 495) ?_ rfl rfl (by kernel_rfl) (fun _ _ _ h => h) (by rfl) ?_ ?_ ?_ ?_
 rotate_left
 ·intro w'; go_simp; with_reducible rfl
 rotate_left
 ·simp only [Act.put, sqA, sqB, sqC, i64_w, i32_w]; rfl
 refine pu 10 14 (bits 28 1519) ?_ rfl rfl (by kernel_rfl) (fun _ _ _ h => h) (by rfl) ?_ ?_ ?_ ?_
 rotate_left
 ·intro w'; go_simp; with_reducible rfl
 rotate_left
 ·simp only [Act.put, sqA, sqB, sqC, i64_w, i32_w]; rfl
 refine pu 11 15 (bits 28 3567) ?_ rfl rfl (by kernel_rfl) (fun _ _ _ h => h) (by rfl) ?_ ?_ ?_ ?_
 rotate_left
 ·intro w'; go_simp; with_reducible rfl
 rotate_left
 ·simp only [Act.put, sqA, sqB, sqC, i64_w, i32_w]; rfl
 refine pu 12 16 (bits 28 7663) ?_ rfl rfl (by kernel_rfl) (fun _ _ _ h => h) (by rfl) ?_ ?_ ?_ ?_
 rotate_left
 ·intro w'; go_simp; with_reducible rfl
 rotate_left
 ·simp only [Act.put, sqA, sqB, sqC, i64_w, i32_w]; rfl
 refine pu 13 17 (bits 28 15855) ?_ rfl rfl (by kernel_rfl) (fun _ _ _ h => h) (by rfl) ?_ ?_ ?_ ?_
 rotate_left
 ·intro w'; go_simp; with_reducible rfl
 rotate_left
 ·simp only [Act.put, sqA, sqB, sqC, i64_w, i32_w]; rfl
 refine pu 15 19 (bits 28 48623) ?_ rfl rfl (by kernel_rfl) (fun _ _ _ h => h) (by rfl) ?_ ?_ ?_ ?_
 rotate_left
 ·intro w'; go_simp; with_reducible rfl
 rotate_left
 ·simp only [Act.put, sqA, sqB, sqC, i64_w, i32_w]; rfl
 refine pu 16 20 (bits 28 114159) ?_ rfl rfl (by kernel_rfl) (fun _ _ _ h => h) (by rfl) ?_ ?_ ?_ ?_
 rotate_left
 ·intro w'; go_simp; with_reducible rfl
 rotate_left
 ·simp only [Act.put, sqA, sqB, sqC, i64_w, i32_w]; rfl
 refine pu 17 21 (bits 28 245231) ?_ rfl rfl (by kernel_rfl) (fun _ _ _ h => h) (by rfl) ?_ ?_ ?_ ?_
 rotate_left
 ·intro w'; go_simp; with_reducible rfl
 rotate_left
 ·simp only [Act.put, sqA, sqB, sqC, i64_w, i32_w]; rfl
 refine pu 18 22 (bits 28 507375) ?_ rfl rfl (by kernel_rfl) (fun _ _ _ h => h) (by rfl) ?_ ?_ ?_ ?_
 rotate_left
 ·intro w'; go_simp; with_reducible rfl
 rotate_left
 ·simp only [Act.put, sqA, sqB, sqC, i64_w, i32_w]; rfl
 refine pu 20 24 (bits 28 1555951) ?_ rfl rfl (by kernel_rfl) (fun _ _ _ h => h) (by rfl) ?_ ?_ ?_ ?_
 rotate_left
 ·intro w'; go_simp; with_reducible rfl
 rotate_left
 ·simp only [Act.put, sqA, sqB, sqC, i64_w, i32_w]; rfl
 refine pu 21 25 (bits 28 3653103) ?_ rfl rfl (by kernel_rfl) (fun _ _ _ h => h) (by rfl) ?_ ?_ ?_ ?_
 rotate_left
 ·intro w'; go_simp; with_reducible rfl
 rotate_left
 ·simp only [Act.put, sqA, sqB, sqC, i64_w, i32_w]; rfl
 refine pu 22 26 (bits 28 7847407) ?_ rfl rfl (by kernel_rfl) (fun _ _ _ h => h) (by rfl) ?_ ?_ ?_ ?_
 rotate_left
 ·intro w'; go_simp; with_reducible rfl
 rotate_left
 ·simp only [Act.put, sqA, sqB, sqC, i64_w, i32_w]; rfl
 refine pu 23 27 (bits 28 16236015) ?_ rfl rfl (by kernel_rfl) (fun _ _ _ h => h) (by rfl) ?_ ?_ ?_ ?_
 rotate_left
 ·intro w'; go_simp; with_reducible rfl
 rotate_left
 ·simp only [Act.put, sqA, sqB, sqC, i64_w, i32_w]; rfl
 refine tk 4 8 (bits 28 16236031) ?_ rfl rfl (by kernel_rfl) (fun _ _ _ h => h) (by rfl) ?_ hHeld ?_ ?_ ?_
 rotate_left
 ·intro w' hw'; have s0 : w'.cell? ⟨BC, 1, none⟩ = some (.int .i64 c.call.kind) := hw'.cell 0 1 rfl rfl; go_simp; with_reducible rfl
 rotate_left
 ·simp only [Act.put, sqA, sqB, sqC, i64_w, i32_w]; rfl
 refine tk 9 13 (bits 28 16236543) ?_ rfl rfl (by kernel_rfl) (fun _ _ _ h => h) (by rfl) ?_ hHeld ?_ ?_ ?_
 rotate_left
 ·intro w' hw'; have s0 : w'.cell? ⟨BC, 2, none⟩ = some (.int .i64 c.call.queue) := hw'.cell 0 2 rfl rfl; go_simp; with_reducible rfl
 rotate_left
 ·simp only [Act.put, sqA, sqB, sqC, i64_w, i32_w]; rfl
 refine tk 14 18 (bits 28 16252927) ?_ rfl rfl (by kernel_rfl) (fun _ _ _ h => h) (by rfl) ?_ hHeld ?_ ?_ ?_
 rotate_left
 ·intro w' hw'; have s0 : w'.cell? ⟨BC, 3, none⟩ = some (.int .i64 c.call.max) := hw'.cell 0 3 rfl rfl; go_simp; with_reducible rfl
 rotate_left
 ·simp only [Act.put, sqA, sqB, sqC, i64_w, i32_w]; rfl
 refine tk 19 23 (bits 28 16777215) ?_ rfl rfl (by kernel_rfl) (fun _ _ _ h => h) (by rfl) ?_ hHeld ?_ ?_ ?_
 rotate_left
 ·intro w' hw'; have s0 : w'.cell? ⟨BC, 4, none⟩ = some (.int .i64 c.call.secs) := hw'.cell 0 4 rfl rfl; go_simp; with_reducible rfl
 rotate_left
 ·simp only [Act.put, sqA, sqB, sqC, i64_w, i32_w]; rfl
 refine tk 24 28 (bits 28 33554431) ?_ rfl rfl (by kernel_rfl) (fun _ _ _ h => h) (by rfl) ?_ hHeld ?_ ?_ ?_
 rotate_left
 ·intro w' hw'; have s0 : w'.cell? ⟨BC, 5, none⟩ = some (.string c.call.attempt) := hw'.cell 0 5 rfl rfl; go_simp; with_reducible rfl
 rotate_left
 ·simp only [Act.put, sqA, sqB, sqC, i64_w, i32_w]; rfl
 refine pu 25 29 (bits 28 67108863) ?_ rfl rfl (by kernel_rfl) (fun _ _ _ h => h) (by rfl) ?_ ?_ ?_ ?_
 rotate_left
 ·intro w'; go_simp; with_reducible rfl
 rotate_left
 ·simp only [Act.put, sqA, sqB, sqC, i64_w, i32_w]; rfl
 refine one_ (i := 26) (N := some 2) (bits 28 134217727) rfl rfl (by kernel_rfl) (by decide) (fun K hK => ?_)
 refine st_box_step (by rfl) (N := 2) rfl #[(.int .i64 0), (.int .i64 0), (.int .i64 0), (.int .i64 0), (.int .i64 0), (.string (⟨#[]⟩ : ByteArray)), (.string (⟨#[]⟩ : ByteArray)), (.string (⟨#[]⟩ : ByteArray)), (.string (⟨#[]⟩ : ByteArray)), (.int .i64 0), (.int .i64 0), (.int .i64 0), (.string (⟨#[]⟩ : ByteArray)), (.int .i64 0), (.int .i64 0), (.int .i64 0), (.int .i64 0), (.int .i64 0), (.slice none 0 0)] 38 ?_ S2.out ?_
 ·first | (go_simp; done) | (go_simp; rfl)
 intro g3 w4 hg_ h_ hb_
 have S5 := Aside0.mk h_
 have BS5 := Aside0.mk hb_
 have GS5 := Aside0.mk hg_
 clear h_ hb_ hg_
 refine hK.out _ _ (((S5.out).erase 0)) ?_
 clear hHeld
 intro hHeld
 clear hK K
 refine norm_ (a' := ?_) ?_ ?_
 rotate_left
 ·show Act.put _ (some 2) _ = _; simp only [Act.put, sqA, sqB, sqC, i64_w, i32_w]; rfl
 refine last_ (i := 27) (N := none) (bits 28 268435455) rfl rfl (by kernel_rfl) (by decide) (fun K hK => ?_)
 refine st_store_step (by rfl) rfl 38 _ _ rfl rfl rfl (seg := [(.int .i64 c.call.kind), (.int .i64 0), (.int .i64 0), (.int .i64 0), (.int .i64 c.call.queue), (.string (⟨#[]⟩ : ByteArray)), (.string (⟨#[]⟩ : ByteArray)), (.string (⟨#[]⟩ : ByteArray)), (.string c.call.attempt), (.int .i64 c.call.max), (.int .i64 c.call.secs), (.int .i64 0), (.string (⟨#[]⟩ : ByteArray)), (.int .i64 0), (.int .i64 0), (.int .i64 0), (.int .i64 0), (.int .i64 0), (.slice none 0 0)]) rfl (by kernel_rfl) (by rfl) S5.out 0 rfl (Nat.le_of_ble_eq_true rfl) ?_
 intro w6 h_ hu_
 have S7 : Aside0 (St w0 w6 (Blk g3 #[(.int .i64 c.call.kind), (.int .i64 0), (.int .i64 0), (.int .i64 0), (.int .i64 c.call.queue), (.string (⟨#[]⟩ : ByteArray)), (.string (⟨#[]⟩ : ByteArray)), (.string (⟨#[]⟩ : ByteArray)), (.string c.call.attempt), (.int .i64 c.call.max), (.int .i64 c.call.secs), (.int .i64 0), (.string (⟨#[]⟩ : ByteArray)), (.int .i64 0), (.int .i64 0), (.int .i64 0), (.int .i64 0), (.int .i64 0), (.slice none 0 0)] 38 :: Blk BC (cliA BA c v1 (.slice A2 c.pieces.length c2) (.slice (some ⟨gs, 0, none⟩) c.sweep.length c3) v4) 91 :: Blk BA (askA a bl) 97 :: MapT bl q a.lead :: Row k106 106 v1 c.call.entries :: Row k108 108 (.slice A2 c.pieces.length c2) c.pieces :: Row (Kd.int .i64) 3 (.slice (some ⟨gs, 0, none⟩) c.sweep.length c3) c.sweep :: Row k42 42 v4 c.out :: L)) := Aside0.mk h_
 clear h_ hu_
 refine hK.out _ _ ?_
 clear hK K
 refine done_ (by kernel_rfl) ?_
 clear hHeld
 go_upto_region 1 with (fail)
 have cf_8 : w6.cell? ⟨BC, 1, none⟩ = some (.int .i64 c.call.kind) := S7.out.cell 1 1 rfl rfl
 go_upto_region 2 with (first | (go_at_call 39; (with_reducible refine (sweepsC _ c.call.kind).mono ?_); rintro e1 w10 ⟨rfl, hb_⟩; clear cf_8; have S9 := Aside0.mk (S7.out.below hb_); clear hb_))
 have cf_11 : w10.cell? ⟨BC, 13, none⟩ = some (.int .i64 c.step) := S9.out.cell 1 13 rfl rfl
 go_upto_region 4 with (fail)
 clear cf_11
 have S13 := Aside0.mk S9.out.drew
 refine start_ (n := 16) (S := fun w' => St w0 w' (Blk g3 #[(.int .i64 c.call.kind), (.int .i64 0), (.int .i64 0), (.int .i64 0), (.int .i64 c.call.queue), (.string (⟨#[]⟩ : ByteArray)), (.string (⟨#[]⟩ : ByteArray)), (.string (⟨#[]⟩ : ByteArray)), (.string c.call.attempt), (.int .i64 c.call.max), (.int .i64 c.call.secs), (.int .i64 0), (.string (⟨#[]⟩ : ByteArray)), (.int .i64 0), (.int .i64 0), (.int .i64 0), (.int .i64 0), (.int .i64 0), (.slice none 0 0)] 38 :: Blk BC (cliA BA c v1 (.slice A2 c.pieces.length c2) (.slice (some ⟨gs, 0, none⟩) c.sweep.length c3) v4) 91 :: Blk BA (askA a bl) 97 :: MapT bl q a.lead :: Row k106 106 v1 c.call.entries :: Row k108 108 (.slice A2 c.pieces.length c2) c.pieces :: Row (Kd.int .i64) 3 (.slice (some ⟨gs, 0, none⟩) c.sweep.length c3) c.sweep :: Row k42 42 v4 c.out :: L)) (ds := [15]) (bits 16 0) (by kernel_rfl) rfl rfl (S9.out).drew (fun hHeld => ?_)
 generalize w10.drew = w12 at S13 hHeld ⊢
 refine pu 0 49 (bits 16 1) ?_ rfl rfl (by kernel_rfl) (fun _ _ _ h => h) (by rfl) ?_ ?_ ?_ ?_
 rotate_left
 ·intro w'; go_simp; with_reducible rfl
 rotate_left
 ·simp only [Act.put, sqA, sqB, sqC, i64_w, i32_w]; rfl
 refine pu 1 50 (bits 16 3) ?_ rfl rfl (by kernel_rfl) (fun _ _ _ h => h) (by rfl) ?_ ?_ ?_ ?_
 rotate_left
 ·intro w'; go_simp; with_reducible rfl
 rotate_left
 ·simp only [Act.put, sqA, sqB, sqC, i64_w, i32_w]; rfl
 refine pu 2 51 (bits 16 7) ?_ rfl rfl (by kernel_rfl) (fun _ _ _ h => h) (by rfl) ?_ ?_ ?_ ?_
 rotate_left
 ·intro w'; go_simp; with_reducible rfl
 rotate_left
 ·simp only [Act.put, sqA, sqB, sqC, i64_w, i32_w]; rfl
 refine pu 4 53 (bits 16 23) ?_ rfl rfl (by kernel_rfl) (fun _ _ _ h => h) (by rfl) ?_ ?_ ?_ ?_
 rotate_left
 ·intro w'; go_simp; with_reducible rfl
 rotate_left
 ·simp only [Act.put, sqA, sqB, sqC, i64_w, i32_w]; rfl
 refine pu 5 54 (bits 16 55) ?_ rfl rfl (by kernel_rfl) (fun _ _ _ h => h) (by rfl) ?_ ?_ ?_ ?_
 rotate_left
 ·intro w'; go_simp; with_reducible rfl
 rotate_left
 ·simp only [Act.put, sqA, sqB, sqC, i64_w, i32_w]; rfl
 refine pu 6 55 (bits 16 119) ?_ rfl rfl (by kernel_rfl) (fun _ _ _ h => h) (by rfl) ?_ ?_ ?_ ?_
 rotate_left
 ·intro w'; go_simp; with_reducible rfl
 rotate_left
 ·simp only [Act.put, sqA, sqB, sqC, i64_w, i32_w]; rfl
 refine pu 8 57 (bits 16 375) ?_ rfl rfl (by kernel_rfl) (fun _ _ _ h => h) (by rfl) ?_ ?_ ?_ ?_
 rotate_left
 ·intro w'; go_simp; with_reducible rfl
 rotate_left
 ·simp only [Act.put, sqA, sqB, sqC, i64_w, i32_w]; rfl
 refine pu 9 58 (bits 16 887) ?_ rfl rfl (by kernel_rfl) (fun _ _ _ h => h) (by rfl) ?_ ?_ ?_ ?_
 rotate_left
 ·intro w'; go_simp; with_reducible rfl
 rotate_left
 ·simp only [Act.put, sqA, sqB, sqC, i64_w, i32_w]; rfl
 refine pu 10 59 (bits 16 1911) ?_ rfl rfl (by kernel_rfl) (fun _ _ _ h => h) (by rfl) ?_ ?_ ?_ ?_
 rotate_left
 ·intro w'; go_simp; with_reducible rfl
 rotate_left
 ·simp only [Act.put, sqA, sqB, sqC, i64_w, i32_w]; rfl
 refine tk 3 52 (bits 16 1919) ?_ rfl rfl (by kernel_rfl) (fun _ _ _ h => h) (by rfl) ?_ hHeld ?_ ?_ ?_
 rotate_left
 ·intro w' hw'; have s0 : w'.cell? ⟨BC, 0, none⟩ = some (.pointer (some ⟨BA, 0, none⟩)) := hw'.cell 1 0 rfl rfl; go_simp; with_reducible rfl
 rotate_left
 ·simp only [Act.put, sqA, sqB, sqC, i64_w, i32_w]; rfl
 refine tk 7 56 (bits 16 2047) ?_ rfl rfl (by kernel_rfl) (fun _ _ _ h => h) (by rfl) ?_ hHeld ?_ ?_ ?_
 rotate_left
 ·intro w' hw'; have s0 : w'.cell? ⟨BC, 14, none⟩ = some (.slice (some ⟨gs, 0, none⟩) c.sweep.length c3) := hw'.cell 1 14 rfl rfl; go_simp; with_reducible rfl
 rotate_left
 ·simp only [Act.put, sqA, sqB, sqC, i64_w, i32_w]; rfl
 refine tk 11 60 (bits 16 4095) ?_ rfl rfl (by kernel_rfl) (fun _ _ _ h => h) (by rfl) ?_ hHeld ?_ ?_ ?_
 rotate_left
 ·intro w' hw'; have s0 : w'.cell? ⟨BC, 13, none⟩ = some (.int .i64 c.step) := hw'.cell 1 13 rfl rfl; go_simp; with_reducible rfl
 rotate_left
 ·simp only [Act.put, sqA, sqB, sqC, i64_w, i32_w]; rfl
 refine pure_ (i := 12) (N := some 61) (a' := ?_) (bits 16 8191) rfl rfl (by kernel_rfl) (fun _ _ _ h => h) (yields_index (by rfl) 63 _ _ rfl rfl rfl (by have := HST.out; omega) (by have := HST.out; have := HLT.out; omega) Try.underlying63 (sz := 1) (by kernel_rfl) (o' := i) (by have := HST.out; omega)) ?_ ?_
 rotate_left
 ·simp only [Act.put, sqA, sqB, sqC, i64_w, i32_w]; rfl
 refine tk 13 62 (bits 16 16383) ?_ rfl rfl (by kernel_rfl) (fun _ _ _ h => h) (by rfl) ?_ hHeld ?_ ?_ ?_
 rotate_left
 ·intro w' hw'; have s0 : w'.cell? ⟨gs, i, none⟩ = some (.int .i64 (c.sweep.getD i 0)) := int_cell hw' 6 rfl i HLT.out; go_simp; with_reducible rfl
 rotate_left
 ·simp only [Act.put, sqA, sqB, sqC, i64_w, i32_w]; rfl
 refine take_ (i := 14) (N := some 63) (a' := ?_) (bits 16 32767) rfl rfl (by kernel_rfl) (fun _ _ _ h => h) (yields_blk (by rfl) 38 _ rfl g3 0 rfl [(.int .i64 c.call.kind), (.int .i64 0), (.int .i64 0), (.int .i64 0), (.int .i64 c.call.queue), (.string (⟨#[]⟩ : ByteArray)), (.string (⟨#[]⟩ : ByteArray)), (.string (⟨#[]⟩ : ByteArray)), (.string c.call.attempt), (.int .i64 c.call.max), (.int .i64 c.call.secs), (.int .i64 0), (.string (⟨#[]⟩ : ByteArray)), (.int .i64 0), (.int .i64 0), (.int .i64 0), (.int .i64 0), (.int .i64 0), (.slice none 0 0)] rfl (fun w' hw' => hw'.blk 0 rfl) Try.underlying38 rfl (by kernel_rfl)) hHeld ?_ ?_
 rotate_left
 ·simp only [Act.put, sqA, sqB, sqC, i64_w, i32_w]; rfl
 refine last_ (i := 15) (N := some 64) (bits 16 65535) rfl rfl (by kernel_rfl) (by decide) (fun K hK => ?_)
 refine goes_ Try.func27 (by kernel_rfl) rfl #[(.pointer (some ⟨BA, 0, none⟩)), (.int .i64 (c.sweep.getD i 0)), (.agg #[(.int .i64 c.call.kind), (.int .i64 0), (.int .i64 0), (.int .i64 0), (.int .i64 c.call.queue), (.string (⟨#[]⟩ : ByteArray)), (.string (⟨#[]⟩ : ByteArray)), (.string (⟨#[]⟩ : ByteArray)), (.string c.call.attempt), (.int .i64 c.call.max), (.int .i64 c.call.secs), (.int .i64 0), (.string (⟨#[]⟩ : ByteArray)), (.int .i64 0), (.int .i64 0), (.int .i64 0), (.int .i64 0), (.int .i64 0), (.slice none 0 0)])] (by rfl) rfl rfl (by (try simp only [List.map_toArray, List.map_cons, List.map_nil]); first | done | rfl) ?_
 refine (askAskT w0 _ (Blk g3 #[(.int .i64 c.call.kind), (.int .i64 0), (.int .i64 0), (.int .i64 0), (.int .i64 c.call.queue), (.string (⟨#[]⟩ : ByteArray)), (.string (⟨#[]⟩ : ByteArray)), (.string (⟨#[]⟩ : ByteArray)), (.string c.call.attempt), (.int .i64 c.call.max), (.int .i64 c.call.secs), (.int .i64 0), (.string (⟨#[]⟩ : ByteArray)), (.int .i64 0), (.int .i64 0), (.int .i64 0), (.int .i64 0), (.int .i64 0), (.slice none 0 0)] 38 :: Blk BC (cliA BA c v1 (.slice A2 c.pieces.length c2) (.slice (some ⟨gs, 0, none⟩) c.sweep.length c3) v4) 91 :: Row k106 106 v1 c.call.entries :: Row k108 108 (.slice A2 c.pieces.length c2) c.pieces :: Row (Kd.int .i64) 3 (.slice (some ⟨gs, 0, none⟩) c.sweep.length c3) c.sweep :: Row k42 42 v4 c.out :: L) BA bl q a (((((((((S13.out).bring 7 rfl).bring 7 rfl).bring 7 rfl).bring 7 rfl).bring 5 rfl).bring 5 rfl).bring 7 rfl).bring 7 rfl) HK.out (c.sweep.getD i 0) (cmdS c.call) rfl).mono ?_
 rintro e1 w15 ⟨rfl, h_⟩
 have S14 := Aside0.mk h_
 clear h_
 refine ⟨_, rfl, ?_⟩
 refine hK.out _ _ ?_
 clear hK K
 refine norm_ (a' := ?_) ?_ ?_
 rotate_left
 ·show Act.put _ (some 64) _ = _; simp only [Act.put, sqA, sqB, sqC, i64_w, i32_w]; rfl
 refine done_ (by kernel_rfl) ?_
 clear hHeld
 go_wp2_with (fail)
 try go_end0
 refine HPOST.out _ _ ?_
 exact ⟨rfl, _, (((((((((S14.out).erase 2).bring 6 rfl).bring 6 rfl).bring 6 rfl).bring 6 rfl).bring 5 rfl).bring 5 rfl).bring 6 rfl)⟩
end Go.Proofs.Ytonedijkgddepaa.P
namespace Go.Proofs.Ytonedijkgddepaa.P.C4
open Go.Sq
open Go.RowKit Go.Proofs.YtonedijkgddepaaW.PrintWords Go.Proofs.YtonedijkgddepaaW.PrintLast
set_option linter.unusedVariables false
theorem w64_small {i : Int} (h0 : 0 ≤ i) (h1 : i < 9223372036854775808) : wrap64 i = i := by
 unfold wrap64
 omega
abbrev Rg := S35
def MayP (x : Rg) : Prop := 0 ≤ x.f0 ∧ x.f0 < x.f1 ∧ x.f1 ≤ 65536
instance (x : Rg) : Decidable (MayP x) := inferInstanceAs (Decidable (_ ∧ _))
def mayB (x : Rg) : Bool := decide (MayP x)
def InP (x : Rg) (p : Int) : Prop := MayP x ∧ x.f0 ≤ p ∧ p < x.f1
instance (x : Rg) (p : Int) : Decidable (InP x p) := inferInstanceAs (Decidable (_ ∧ _))
theorem mayB_iff (x : Rg) : mayB x = true ↔ MayP x := by simp [mayB]
theorem may_f (x : Rg) : place_May.f x.f0 x.f1 = some (mayB x) := by
 unfold place_May.f mayB MayP
 by_cases h1 : x.f0 ≥ 0 <;> by_cases h2 : x.f0 < x.f1 <;> by_cases h3 : x.f1 ≤ 65536 <;> simp [h1, h2, h3] <;> omega
theorem rd_nat (l : List Rg) (i : Nat) (h : i < l.length) : rd_T35 l (i : Int) = l[i] := by
 unfold rd_T35
 simp [h]
theorem some_loop (acc l : List Rg) (h : acc.length + l.length < 1000000) (d : Nat) : ∀ i : Nat, i + d = l.length →
  ∀ a : List Rg, a = acc ++ (l.take i).filter mayB → Ev (fun k => place_some.l0 k a l (l.length : Int) (i : Int)) (acc ++ l.filter mayB) := by
 induction d with
 | zero =>
  intro i hi a ha
  have e : i = l.length := by omega
  subst e
  rw [List.take_length] at ha
  refine Ev.step (f := fun _ => some (acc ++ l.filter mayB)) (fun k => ?_) (Ev.now _)
  simp only [place_some.l0]
  rw [if_neg (by omega), ha]
 | succ d ih =>
  intro i hi a ha
  have hlt : i < l.length := by omega
  have hal : a.length ≤ acc.length + l.length := by
   rw [ha, List.length_append]
   have := List.length_filter_le mayB (l.take i)
   rw [List.length_take] at this
   omega
  have ht : l.take (i + 1) = l.take i ++ [l[i]] := List.take_succ_eq_append_getElem hlt
  cases hm : mayB l[i] with
  | true =>
   have h2 := ih (i + 1) (by omega) (a ++ [l[i]]) (by rw [ha, ht, List.filter_append, List.append_assoc]; simp [hm])
   refine Ev.step (fun k => ?_) h2
   simp only [place_some.l0]
   rw [if_pos (by omega), if_pos (by omega), if_pos (by omega), rd_nat l i hlt, may_f, hm]
   simp only [Option.bind_some, if_true]
   rw [if_pos (by omega), w64_small (by omega) (by omega)]
   rfl
  | false =>
   have h2 := ih (i + 1) (by omega) a (by rw [ha, ht, List.filter_append]; simp [hm])
   refine Ev.step (fun k => ?_) h2
   simp only [place_some.l0]
   rw [if_pos (by omega), if_pos (by omega), if_pos (by omega), rd_nat l i hlt, may_f, hm]
   simp only [Option.bind_some, Bool.false_eq_true, if_false]
   rw [w64_small (by omega) (by omega)]
   rfl
theorem some_ev (acc l : List Rg) (h : acc.length + l.length < 1000000) : Ev (fun k => place_some.f k acc l) (acc ++ l.filter mayB) :=
 some_loop acc l h l.length 0 (by omega) acc (by simp)
def PtP (l : List Rg) (p : Int) : Prop := ∃ x ∈ l, InP x p
def srt (l : List Rg) : List Rg := (sortR (l.filter mayB)).toList.map SmallR.v
theorem srt_perm (l : List Rg) : (srt l).Perm (l.filter mayB) := by
 have hall : (l.filter mayB).all smallB = true := by
  rw [List.all_eq_true]
  intro x hx
  have h1 := (mayB_iff x).1 (List.mem_filter.1 hx).2
  unfold MayP at h1
  simp [smallB]
  omega
 have h := (permR (l.filter mayB)).1.map SmallR.v
 rw [toSmall_val _ hall] at h
 exact h
theorem srt_rise (l : List Rg) : (srt l).Pairwise fun x y => x.f0 ≤ y.f0 := by
 have h := (permR (l.filter mayB)).2
 unfold srt
 rw [List.pairwise_map, List.pairwise_iff_getElem]
 intro i j hi hj hij
 have h1 := h i j hij (by simpa using hj)
 rw [Go.Proofs.Ytonedijkgddepaa.SortRow.getElem!_arr _ i (by simpa using hi), Go.Proofs.Ytonedijkgddepaa.SortRow.getElem!_arr _ j (by simpa using hj)] at h1
 simpa using h1
theorem srt_len (l : List Rg) : (srt l).length ≤ l.length := by
 rw [(srt_perm l).length_eq]
 exact List.length_filter_le _ _
theorem srt_may (l : List Rg) : ∀ x ∈ srt l, MayP x := fun x hx => (mayB_iff x).1 (List.mem_filter.1 ((srt_perm l).mem_iff.1 hx)).2
theorem sortf (l : List Rg) (h : l.length < 1000) : slices_SortFunc_Range.f (l.filter mayB) () = some (srt l) := by
 unfold slices_SortFunc_Range.f
 have hall : (l.filter mayB).all smallB = true := by
  rw [List.all_eq_true]
  intro x hx
  have h1 := (mayB_iff x).1 (List.mem_filter.1 hx).2
  unfold MayP at h1
  simp [smallB]
  omega
 have hlen := List.length_filter_le mayB l
 rw [if_pos ⟨hall, by omega⟩]
 rfl
theorem sorted_loop (l : List Rg) (h : l.length < 1000) (d : Nat) : ∀ i : Nat, i + d = l.length →
  Ev (fun k => place_sorted.l0 k ((l.take i).filter mayB) l (l.length : Int) (i : Int)) (srt l) := by
 induction d with
 | zero =>
  intro i hi
  have e : i = l.length := by omega
  subst e
  rw [List.take_length]
  refine Ev.step (f := fun _ => some (srt l)) (fun k => ?_) (Ev.now _)
  simp only [place_sorted.l0]
  rw [if_neg (by omega), sortf l h]
  rfl
 | succ d ih =>
  intro i hi
  have hlt : i < l.length := by omega
  have ht : l.take (i + 1) = l.take i ++ [l[i]] := List.take_succ_eq_append_getElem hlt
  have h2 := ih (i + 1) (by omega)
  rw [ht, List.filter_append] at h2
  have hl := List.length_filter_le mayB (l.take i)
  rw [List.length_take] at hl
  have h3 := Ev.bind (f := fun k a => place_sorted.l0 k a l (l.length : Int) ((i + 1 : Nat) : Int)) (some_ev ((l.take i).filter mayB) [l[i]] (by simp; omega)) h2
  refine Ev.step (fun k => ?_) h3
  simp only [place_sorted.l0]
  rw [if_pos (by omega), if_pos (by omega), if_pos (by omega), rd_nat l i hlt, w64_small (by omega) (by omega)]
  rfl
theorem sorted_ev (l : List Rg) (h : l.length < 1000) : Ev (fun k => place_sorted.f k l) (srt l) := sorted_loop l h l.length 0 (by omega)
def inD (p : Int) (x : Rg) : Bool := decide (InP x p)
def cnt (p : Int) (l : List Rg) : Nat := l.countP (inD p)
/-- All may be, and each place from 0 to 65535 is in just one. -/
def TilesP (l : List Rg) : Prop := (∀ x ∈ l, MayP x) ∧ ∀ p, 0 ≤ p → p < 65536 → cnt p l = 1
/-- One behind the other, from a on, to the end. -/
def chain : Int → List Rg → Bool
 | a, [] => decide (a = 65536)
 | a, x :: s => decide (x.f0 = a) && chain x.f1 s
/-- What the code asks. -/
def Tiles (l : List Rg) : Prop := (srt l).length = l.length ∧ chain 0 (srt l) = true
instance (l : List Rg) : Decidable (Tiles l) := inferInstanceAs (Decidable (_ ∧ _))
theorem cnt_cons (p : Int) (x : Rg) (s : List Rg) : cnt p (x :: s) = cnt p s + if InP x p then 1 else 0 := by
 unfold cnt inD
 rw [List.countP_cons]
 by_cases h : InP x p <;> simp [h]
theorem cnt_pos (p : Int) (l : List Rg) : 0 < cnt p l ↔ PtP l p := by
 unfold cnt PtP
 rw [List.countP_pos_iff]
 simp [inD]
theorem chain_cnt : ∀ (s : List Rg) (a : Int), (∀ x ∈ s, MayP x) → chain a s = true → ∀ p, cnt p s = if a ≤ p ∧ p < 65536 then 1 else 0 := by
 intro s
 induction s with
 | nil =>
  intro a _ hc p
  simp only [chain, decide_eq_true_eq] at hc
  rw [if_neg (by omega)]
  rfl
 | cons x s ih =>
  intro a hm hc p
  simp only [chain, Bool.and_eq_true, decide_eq_true_eq] at hc
  have hx := hm x List.mem_cons_self
  have hx' := hx
  unfold MayP at hx'
  rw [cnt_cons, ih x.f1 (fun y hy => hm y (List.mem_cons_of_mem _ hy)) hc.2 p]
  have hi : InP x p ↔ x.f0 ≤ p ∧ p < x.f1 := ⟨fun h => h.2, fun h => ⟨hx, h⟩⟩
  by_cases h1 : InP x p
  ·rw [if_pos h1]
   rw [hi] at h1
   rw [if_neg (by omega), if_pos (by omega)]
  ·rw [if_neg h1]
   rw [hi] at h1
   by_cases h2 : x.f1 ≤ p ∧ p < 65536
   ·rw [if_pos h2, if_pos (by omega)]
   ·rw [if_neg h2, if_neg (by omega)]
theorem cnt_chain : ∀ (s : List Rg) (a : Int), (∀ x ∈ s, MayP x) → s.Pairwise (fun x y => x.f0 ≤ y.f0) → 0 ≤ a → a ≤ 65536 → (∀ p, cnt p s = if a ≤ p ∧ p < 65536 then 1 else 0) → chain a s = true := by
 intro s
 induction s with
 | nil =>
  intro a _ _ h0 h1 h
  simp only [chain, decide_eq_true_eq]
  have := h a
  by_cases e : a = 65536
  ·exact e
  ·rw [if_pos (by omega)] at this
   simp [cnt] at this
 | cons x s ih =>
  intro a hm hp h0 h1 h
  have hx := hm x List.mem_cons_self
  have hx' := hx
  unfold MayP at hx'
  rw [List.pairwise_cons] at hp
  have e0 : x.f0 = a := by
   have hle : a ≤ x.f0 := by
    have h2 := h x.f0
    have h3 : 0 < cnt x.f0 (x :: s) := (cnt_pos _ _).2 ⟨x, List.mem_cons_self, hx, by omega, by omega⟩
    by_cases h4 : a ≤ x.f0 ∧ x.f0 < 65536
    ·exact h4.1
    ·rw [if_neg h4] at h2; omega
   have h2 := h a
   rw [if_pos (by omega)] at h2
   have h3 : 0 < cnt a (x :: s) := by omega
   obtain ⟨y, hy, hi⟩ := (cnt_pos _ _).1 h3
   have := hi.2.1
   rcases List.mem_cons.1 hy with rfl | hy
   ·omega
   ·have := hp.1 y hy; omega
  simp only [chain, Bool.and_eq_true, decide_eq_true_eq]
  refine ⟨e0, ih x.f1 (fun y hy => hm y (List.mem_cons_of_mem _ hy)) hp.2 (by omega) (by omega) (fun p => ?_)⟩
  have h2 := h p
  rw [cnt_cons] at h2
  have hi : InP x p ↔ x.f0 ≤ p ∧ p < x.f1 := ⟨fun h => h.2, fun h => ⟨hx, h⟩⟩
  by_cases h3 : InP x p
  ·rw [if_pos h3] at h2
   rw [hi] at h3
   rw [if_pos (by omega)] at h2
   rw [if_neg (by omega)]
   omega
  ·rw [if_neg h3] at h2
   rw [hi] at h3
   by_cases h4 : x.f1 ≤ p ∧ p < 65536
   ·rw [if_pos h4]
    rw [if_pos (by omega)] at h2
    omega
   ·rw [if_neg h4]
    rw [if_neg (by omega)] at h2
    omega
theorem cnt_perm (p : Int) {a b : List Rg} (h : a.Perm b) : cnt p a = cnt p b := h.countP_eq _
theorem cnt_out (l : List Rg) (p : Int) (h : p < 0 ∨ 65536 ≤ p) : cnt p l = 0 := by
 rcases Nat.eq_zero_or_pos (cnt p l) with h0 | h0
 ·exact h0
 ·obtain ⟨x, _, hm, h1, h2⟩ := (cnt_pos _ _).1 h0
  unfold MayP at hm
  omega
theorem srt_all (l : List Rg) : (srt l).length = l.length ↔ ∀ x ∈ l, MayP x := by
 rw [(srt_perm l).length_eq, List.length_filter_eq_length_iff]
 constructor
 ·intro h x hx
  exact (mayB_iff x).1 (h x hx)
 ·intro h x hx
  exact (mayB_iff x).2 (h x hx)
theorem srt_cnt (l : List Rg) (hm : ∀ x ∈ l, MayP x) (p : Int) : cnt p (srt l) = cnt p l := by
 rw [cnt_perm p (srt_perm l), List.filter_eq_self.2 (fun x hx => (mayB_iff x).2 (hm x hx))]
theorem tiles_iff (l : List Rg) : Tiles l ↔ TilesP l := by
 unfold Tiles TilesP
 rw [srt_all]
 constructor
 ·rintro ⟨hm, hc⟩
  refine ⟨hm, fun p h0 h1 => ?_⟩
  rw [← srt_cnt l hm, chain_cnt (srt l) 0 (srt_may l) hc p, if_pos ⟨h0, h1⟩]
 ·rintro ⟨hm, hc⟩
  refine ⟨hm, cnt_chain (srt l) 0 (srt_may l) (srt_rise l) (by decide) (by decide) (fun p => ?_)⟩
  rw [srt_cnt l hm]
  by_cases h : 0 ≤ p ∧ p < 65536
  ·rw [if_pos h, hc p h.1 h.2]
  ·rw [if_neg h, cnt_out l p (by omega)]
theorem covers_loop (l s : List Rg) (h : s.length < 1000) (hl : l.length < 1000) (d : Nat) : ∀ (i : Nat) (a : Int), i + d = s.length →
  Ev (fun k => place_Covers.l0 k l s a s (s.length : Int) (i : Int)) (decide (s.length = l.length) && chain a (s.drop i)) := by
 induction d with
 | zero =>
  intro i a hi
  have e : i = s.length := by omega
  subst e
  rw [List.drop_length]
  refine Ev.step (f := fun _ => some (decide (s.length = l.length) && chain a [])) (fun k => ?_) (Ev.now _)
  simp only [place_Covers.l0]
  rw [if_neg (by omega)]
  by_cases e : s.length = l.length
  ·rw [if_pos (by omega)]
   simp only [e, decide_true, Bool.true_and, chain]
   congr 1
  ·rw [if_neg (by omega)]
   simp [e]
 | succ d ih =>
  intro i a hi
  have hlt : i < s.length := by omega
  have hd : s.drop i = s[i] :: s.drop (i + 1) := List.drop_eq_getElem_cons hlt
  rw [hd]
  by_cases e : s[i].f0 = a
  ·have h2 := ih (i + 1) s[i].f1 (by omega)
   simp only [chain, e, decide_true, Bool.true_and]
   refine Ev.step (fun k => ?_) h2
   simp only [place_Covers.l0]
   rw [if_pos (by omega), if_pos (by omega), if_pos (by omega), rd_nat s i hlt, if_pos e, w64_small (by omega) (by omega)]
   rfl
  ·simp only [chain, e, decide_false, Bool.false_and, Bool.and_false]
   refine Ev.step (f := fun _ => some false) (fun k => ?_) (Ev.now _)
   simp only [place_Covers.l0]
   rw [if_pos (by omega), if_pos (by omega), if_pos (by omega), rd_nat s i hlt, if_neg e]
theorem covers_ev (l : List Rg) (h : l.length < 1000) : Ev (fun k => place_Covers.f k l) (decide (Tiles l)) := by
 have hs := srt_len l
 have h1 := covers_loop l (srt l) (by omega) h (srt l).length 0 0 (by omega)
 rw [List.drop_zero] at h1
 have e : (decide ((srt l).length = l.length) && chain 0 (srt l)) = decide (Tiles l) := by
  unfold Tiles
  by_cases a : (srt l).length = l.length <;> by_cases b : chain 0 (srt l) = true <;> simp [a, b]
 rw [e] at h1
 unfold place_Covers.f
 exact Ev.bind (sorted_ev l h) h1
def fstep (h c : Nat) : Nat := ((h ^^^ c) * 16777619) % 4294967296
def fnv (s : ByteArray) : Nat → Nat
 | 0 => 2166136261
 | i + 1 => fstep (fnv s i) (bt s (i : Int)).toNat
/-- The place of a text. -/
def plc (s : ByteArray) : Nat := (fnv s s.size / 65536) ^^^ (fnv s s.size % 65536)
theorem fnv_lt (s : ByteArray) : ∀ i, fnv s i < 4294967296
 | 0 => by show 2166136261 < 4294967296; decide
 | i + 1 => Nat.mod_lt _ (by decide)
theorem plc_lt (s : ByteArray) : plc s < 65536 := by
 have h := fnv_lt s s.size
 have h1 : fnv s s.size / 65536 < 2 ^ 16 := by omega
 have h2 : fnv s s.size % 65536 < 2 ^ 16 := by omega
 exact Nat.xor_lt_two_pow h1 h2
theorem of_step (s : ByteArray) (i : Nat) : ((Go.bits .xor .u32 (fnv s i : Int) ((bt s (i : Int)) % 4294967296)) * 16777619) % 4294967296 = (fnv s (i + 1) : Int) := by
 have hb := bt_range s (i : Int)
 have hf := fnv_lt s i
 rw [u32_xor _ _ (by omega) (by omega) (by omega) (by omega)]
 have e : ((bt s (i : Int)) % 4294967296).toNat = (bt s (i : Int)).toNat := by omega
 rw [e, Int.toNat_natCast]
 show _ = ((fstep (fnv s i) (bt s (i : Int)).toNat : Nat) : Int)
 unfold fstep
 omega
theorem of_end (s : ByteArray) : wrap64 (Go.bits .xor .u32 ((fnv s s.size : Int) / 65536) (Go.bits .and .u32 (fnv s s.size : Int) 65535)) = (plc s : Int) := by
 have hf := fnv_lt s s.size
 have hm : Go.bits .and .u32 (fnv s s.size : Int) 65535 = ((fnv s s.size % 65536 : Nat) : Int) := by
  rw [u32_and _ _ (by omega) (by omega) (by omega) (by omega), Int.toNat_natCast]
  have e : (65535 : Int).toNat = 2 ^ 16 - 1 := rfl
  rw [e, Nat.and_two_pow_sub_one_eq_mod]
 rw [hm]
 have hd : (fnv s s.size : Int) / 65536 = ((fnv s s.size / 65536 : Nat) : Int) := by omega
 rw [hd, u32_xor_nat _ _ (by omega) (by omega)]
 have := plc_lt s
 exact w64_small (by omega) (by show ((plc s : Nat) : Int) < _; omega)
theorem plc_loop (s : ByteArray) (hn : s.size ≤ 140737488351232) (d : Nat) : ∀ i : Nat, i + d = s.size → Ev (fun k => place_Of.l0 k s (fnv s i : Int) (s.size : Int) (i : Int)) (plc s : Int) := by
 induction d with
 | zero =>
  intro i hi
  have e : i = s.size := by omega
  subst e
  refine Ev.step (f := fun _ => some (plc s : Int)) (fun k => ?_) (Ev.now _)
  simp only [place_Of.l0]
  rw [if_neg (by omega), of_end]
 | succ d ih =>
  intro i hi
  refine Ev.step (fun k => ?_) (ih (i + 1) (by omega))
  simp only [place_Of.l0]
  rw [if_pos (by omega), if_pos (by omega), if_pos (by omega), of_step, w64_small (by omega) (by omega)]
  rfl
theorem plc_ev (s : ByteArray) (hn : s.size ≤ 140737488351232) : Ev (fun k => place_Of.f k s) (plc s : Int) := plc_loop s hn s.size 0 (by omega)
abbrev Pc := S108
instance : DecidableEq S35 := fun x y => decidable_of_iff (x.f0 = y.f0 ∧ x.f1 = y.f1) (by cases x; cases y; simp)
instance : DecidableEq S108 := fun x y => decidable_of_iff (x.f0 = y.f0 ∧ x.f1 = y.f1) (by cases x; cases y; simp)
theorem rd_pc (l : List Pc) (i : Nat) (h : i < l.length) : rd_T108 l (i : Int) = l[i] := by unfold rd_T108; simp [h]
/-- One behind the other from x on to the end, no two alike side by side (q: the shard before). -/
def chOK : Int → Int → List Pc → Bool
 | x, _, [] => decide (x = 65536)
 | x, q, p :: l => decide (p.f0.f0 = x) && (decide (x < p.f0.f1) && (decide (p.f0.f1 ≤ 65536) && (decide (1 ≤ p.f1) && (decide (p.f1 ≤ 6) && (decide (p.f1 ≠ q) && chOK p.f0.f1 p.f1 l)))))
def mayC (ep : Int) (l : List Pc) : Bool := decide (1 ≤ ep) && (decide (ep ≤ 1099511627776) && chOK 0 0 l)
theorem shard_f (n : Int) : chart_shard.f n = some (decide (1 ≤ n ∧ n ≤ 6)) := by
 unfold chart_shard.f
 by_cases h1 : n ≥ 1
 ·rw [if_pos h1]; congr 1; rw [decide_eq_decide]; omega
 ·rw [if_neg h1]; congr 1; rw [eq_comm, decide_eq_false_iff_not]; omega
/-- Shards that may be, each piece behind the one before, and unlike it. -/
def rise : Option Pc → List Pc → Bool
 | _, [] => true
 | q, p :: l => decide (1 ≤ p.f1 ∧ p.f1 ≤ 6) && ((match q with | none => true | some y => decide (y.f0.f1 ≤ p.f0.f0) && decide (p.f1 ≠ y.f1)) && rise (some p) l)
def prevP (l : List Pc) (i : Nat) : Option Pc := if 0 < i then l[i - 1]? else none
theorem may_loop (ep : Int) (l : List Pc) (h : l.length < 1000) (d : Nat) : ∀ (i : Nat), i + d = l.length →
  Ev (fun k => chart_May.l0 k ((l.take i).map (·.f0)) l (l.length : Int) (i : Int) ep l) (rise (prevP l i) (l.drop i) && decide (Tiles (l.map (·.f0)))) := by
 induction d with
 | zero =>
  intro i hi
  have e : i = l.length := by omega
  subst e
  rw [List.drop_length, List.take_length]
  have h1 := covers_ev (l.map (·.f0)) (by simpa using h)
  have h2 := Ev.bind (f := fun _ t => some t) h1 (Ev.now _)
  refine Ev.step (fun k => ?_) h2
  simp only [chart_May.l0]
  rw [if_neg (by omega)]
 | succ d ih =>
  intro i hi
  have hlt : i < l.length := by omega
  have hn := ih (i + 1) (by omega)
  have ht : (l.take (i + 1)).map (·.f0) = (l.take i).map (·.f0) ++ [(l[i]).f0] := by rw [List.take_succ_eq_append_getElem hlt, List.map_append]; rfl
  have hp : prevP l (i + 1) = some l[i] := by unfold prevP; simp [hlt]
  rw [ht, hp] at hn
  have hln : ((l.take i).map (·.f0)).length < 8796093022208 := by simp; omega
  rw [List.drop_eq_getElem_cons hlt]
  by_cases c1 : 1 ≤ (l[i]).f1 ∧ (l[i]).f1 ≤ 6
  ·by_cases h0 : 0 < i
   ·have hq : prevP l i = some l[i - 1] := by unfold prevP; rw [if_pos h0]; simp
    have hw : wrap64 ((i : Int) - 1) = ((i - 1 : Nat) : Int) := by rw [w64_small (by omega) (by omega)]; omega
    rw [hq]
    by_cases c2 : (l[i]).f0.f0 < (l[i - 1]).f0.f1
    ·have e : rise (some l[i - 1]) (l[i] :: l.drop (i + 1)) = false := by simp only [rise]; rw [decide_eq_false (show ¬ (l[i - 1]).f0.f1 ≤ (l[i]).f0.f0 by omega)]; simp
     rw [e, Bool.false_and]
     refine Ev.step (f := fun _ => some false) (fun k => ?_) (Ev.now _)
     simp only [chart_May.l0]
     rw [if_pos (by omega), if_pos (by omega), if_pos (by omega), rd_pc l i hlt, shard_f, decide_eq_true c1]
     simp only [Option.bind_some, if_true]
     rw [if_pos (by omega), hw, if_pos (by omega), if_pos (by omega), rd_pc l (i - 1) (by omega), if_pos c2]
    ·by_cases c3 : (l[i]).f1 = (l[i - 1]).f1
     ·have e : rise (some l[i - 1]) (l[i] :: l.drop (i + 1)) = false := by simp only [rise]; rw [show decide ((l[i]).f1 ≠ (l[i - 1]).f1) = false from decide_eq_false (fun h => h c3)]; simp
      rw [e, Bool.false_and]
      refine Ev.step (f := fun _ => some false) (fun k => ?_) (Ev.now _)
      simp only [chart_May.l0]
      rw [if_pos (by omega), if_pos (by omega), if_pos (by omega), rd_pc l i hlt, shard_f, decide_eq_true c1]
      simp only [Option.bind_some, if_true]
      rw [if_pos (by omega), hw, if_pos (by omega), if_pos (by omega), rd_pc l (i - 1) (by omega), if_neg c2, if_pos c3]
     ·have e : rise (some l[i - 1]) (l[i] :: l.drop (i + 1)) = rise (some l[i]) (l.drop (i + 1)) := by
       simp only [rise]
       rw [decide_eq_true c1, decide_eq_true (show (l[i - 1]).f0.f1 ≤ (l[i]).f0.f0 by omega), show decide ((l[i]).f1 ≠ (l[i - 1]).f1) = true from decide_eq_true c3]
       simp
      rw [e]
      refine Ev.step (fun k => ?_) hn
      simp only [chart_May.l0]
      rw [if_pos (by omega), if_pos (by omega), if_pos (by omega), rd_pc l i hlt, shard_f, decide_eq_true c1]
      simp only [Option.bind_some, if_true]
      rw [if_pos (by omega), hw, if_pos (by omega), if_pos (by omega), rd_pc l (i - 1) (by omega), if_neg c2, if_neg c3, if_pos hln, w64_small (by omega) (by omega)]
      rfl
   ·have hi0 : i = 0 := by omega
    have hq : prevP l i = none := by unfold prevP; rw [if_neg h0]
    have e : rise (prevP l i) (l[i] :: l.drop (i + 1)) = rise (some l[i]) (l.drop (i + 1)) := by rw [hq]; simp only [rise]; rw [decide_eq_true c1]; simp
    rw [e]
    refine Ev.step (fun k => ?_) hn
    simp only [chart_May.l0]
    rw [if_pos (by omega), if_pos (by omega), if_pos (by omega), rd_pc l i hlt, shard_f, decide_eq_true c1]
    simp only [Option.bind_some, if_true]
    rw [if_neg (by omega), if_pos hln, w64_small (by omega) (by omega)]
    rfl
  ·have e : rise (prevP l i) (l[i] :: l.drop (i + 1)) = false := by simp only [rise]; rw [decide_eq_false c1]; simp
   rw [e, Bool.false_and]
   refine Ev.step (f := fun _ => some false) (fun k => ?_) (Ev.now _)
   simp only [chart_May.l0]
   rw [if_pos (by omega), if_pos (by omega), if_pos (by omega), rd_pc l i hlt, shard_f, decide_eq_false c1]
   simp
theorem chOK_all : ∀ (l : List Pc) (x q : Int), chOK x q l = true → (∀ p ∈ l, 0 ≤ x → MayP p.f0 ∧ 1 ≤ p.f1 ∧ p.f1 ≤ 6) ∧ chain x (l.map (·.f0)) = true := by
 intro l
 induction l with
 | nil => intro x q h; exact ⟨fun p hp => (by cases hp), by simpa [chOK, chain] using h⟩
 | cons y l ih =>
  intro x q h
  simp only [chOK, Bool.and_eq_true, decide_eq_true_eq] at h
  obtain ⟨h1, h2, h3, h4, h5, h6, h7⟩ := h
  obtain ⟨i1, i2⟩ := ih _ _ h7
  refine ⟨fun p hp hx => ?_, ?_⟩
  ·rcases List.mem_cons.1 hp with rfl | hp
   ·exact ⟨⟨by omega, by omega, h3⟩, h4, h5⟩
   ·exact i1 p hp (by omega)
  ·simp only [List.map_cons, chain, Bool.and_eq_true, decide_eq_true_eq]
   exact ⟨h1, i2⟩
theorem rise_of : ∀ (l : List Pc) (x q : Int) (y : Option Pc), chOK x q l = true → (∀ z, y = some z → z.f0.f1 = x ∧ z.f1 = q) → rise y l = true := by
 intro l
 induction l with
 | nil => intro x q y _ _; rfl
 | cons p l ih =>
  intro x q y h hy
  simp only [chOK, Bool.and_eq_true, decide_eq_true_eq] at h
  obtain ⟨h1, h2, h3, h4, h5, h6, h7⟩ := h
  simp only [rise, Bool.and_eq_true, decide_eq_true_eq]
  refine ⟨⟨h4, h5⟩, ?_, ih _ _ _ h7 (fun z hz => by cases hz; exact ⟨rfl, rfl⟩)⟩
  cases y with
  | none => rfl
  | some z =>
   obtain ⟨z1, z2⟩ := hy z rfl
   simp only [Bool.and_eq_true, decide_eq_true_eq]
   exact ⟨by omega, by omega⟩
theorem chOK_of : ∀ (l : List Pc) (x q : Int) (y : Option Pc), rise y l = true → (∀ z, y = some z → z.f1 = q) → (y = none → q = 0) → (∀ p ∈ l, MayP p.f0) → chain x (l.map (·.f0)) = true → chOK x q l = true := by
 intro l
 induction l with
 | nil => intro x q y _ _ _ _ hc; simpa [chOK, chain] using hc
 | cons p l ih =>
  intro x q y hr hy hn hm hc
  simp only [List.map_cons, chain, Bool.and_eq_true, decide_eq_true_eq] at hc
  simp only [rise, Bool.and_eq_true, decide_eq_true_eq] at hr
  obtain ⟨⟨h4, h5⟩, h6, h7⟩ := hr
  have hp := hm p List.mem_cons_self
  unfold MayP at hp
  simp only [chOK, Bool.and_eq_true, decide_eq_true_eq]
  refine ⟨hc.1, by omega, hp.2.2, h4, h5, ?_, ih _ _ _ h7 (fun z hz => by cases hz; rfl) (fun h => by cases h) (fun z hz => hm z (List.mem_cons_of_mem _ hz)) hc.2⟩
  cases y with
  | none => have := hn rfl; omega
  | some z =>
   simp only [Bool.and_eq_true, decide_eq_true_eq] at h6
   rw [← hy z rfl]
   exact h6.2
theorem rise_pair : ∀ (l : List Pc) (y : Option Pc), rise y l = true → (∀ p ∈ l, MayP p.f0) → (l.map (·.f0)).Pairwise (fun a b => a.f0 ≤ b.f0) ∧ (∀ z, y = some z → MayP z.f0 → ∀ p ∈ l, z.f0.f0 ≤ p.f0.f0) := by
 intro l
 induction l with
 | nil => intro y _ _; exact ⟨List.Pairwise.nil, fun _ _ _ p hp => (by cases hp)⟩
 | cons p l ih =>
  intro y hr hm
  simp only [rise, Bool.and_eq_true, decide_eq_true_eq] at hr
  obtain ⟨_, h6, h7⟩ := hr
  obtain ⟨i1, i2⟩ := ih (some p) h7 (fun z hz => hm z (List.mem_cons_of_mem _ hz))
  have hp := hm p List.mem_cons_self
  have i3 := i2 p rfl hp
  refine ⟨?_, fun z hz hzm q hq => ?_⟩
  ·rw [List.map_cons, List.pairwise_cons]
   exact ⟨fun b hb => by obtain ⟨c, hc, rfl⟩ := List.mem_map.1 hb; exact i3 c hc, i1⟩
  ·subst hz
   simp only [Bool.and_eq_true, decide_eq_true_eq] at h6
   unfold MayP at hzm
   rcases List.mem_cons.1 hq with rfl | hq
   ·omega
   ·have := i3 q hq; omega
theorem may_iff (l : List Pc) : (rise none l && decide (Tiles (l.map (·.f0)))) = chOK 0 0 l := by
 rw [Bool.eq_iff_iff]
 simp only [Bool.and_eq_true, decide_eq_true_eq]
 constructor
 ·rintro ⟨hr, ht⟩
  rw [tiles_iff] at ht
  obtain ⟨hm, hc⟩ := ht
  have hm2 : ∀ p ∈ l, MayP p.f0 := fun p hp => hm _ (List.mem_map_of_mem hp)
  refine chOK_of l 0 0 none hr (fun z hz => by cases hz) (fun _ => rfl) hm2 ?_
  refine cnt_chain _ 0 hm (rise_pair l none hr hm2).1 (by omega) (by omega) (fun p => ?_)
  by_cases hp : 0 ≤ p ∧ p < 65536
  ·rw [if_pos hp]; exact hc p hp.1 hp.2
  ·rw [if_neg hp]; exact cnt_out _ p (by omega)
 ·intro h
  obtain ⟨h1, h2⟩ := chOK_all l 0 0 h
  refine ⟨rise_of l 0 0 none h (fun z hz => by cases hz), (tiles_iff _).2 ⟨fun x hx => ?_, fun p h0 h1' => ?_⟩⟩
  ·obtain ⟨c, hc, rfl⟩ := List.mem_map.1 hx
   exact (h1 c hc (by omega)).1
  ·rw [chain_cnt _ 0 (fun x hx => by obtain ⟨c, hc, rfl⟩ := List.mem_map.1 hx; exact (h1 c hc (by omega)).1) h2 p, if_pos ⟨h0, h1'⟩]
theorem may_ev (ep : Int) (l : List Pc) (h : l.length < 1000) : Ev (fun k => chart_May.f k ep l) (mayC ep l) := by
 unfold mayC
 by_cases c1 : ep < 1
 ·rw [decide_eq_false (show ¬ 1 ≤ ep by omega), Bool.false_and]
  refine Ev.step (f := fun _ => some false) (fun k => ?_) (Ev.now _)
  unfold chart_May.f
  rw [if_pos c1]
  simp [chart_May.j0]
 ·rw [decide_eq_true (show 1 ≤ ep by omega), Bool.true_and]
  by_cases c2 : ep > 1099511627776
  ·rw [decide_eq_false (show ¬ ep ≤ 1099511627776 by omega), Bool.false_and]
   refine Ev.step (f := fun _ => some false) (fun k => ?_) (Ev.now _)
   unfold chart_May.f
   rw [if_neg c1, decide_eq_true c2]
   simp [chart_May.j0]
  ·rw [decide_eq_true (show ep ≤ 1099511627776 by omega), Bool.true_and]
   have h1 := may_loop ep l h l.length 0 (by omega)
   rw [List.drop_zero, show prevP l 0 = none from rfl, may_iff] at h1
   refine Ev.step (fun k => ?_) h1
   unfold chart_May.f
   rw [if_neg c1, decide_eq_false c2]
   simp [chart_May.j0]
def ofC (p : Int) : List Pc → Int
 | [] => 0
 | y :: l => if InP y.f0 p then y.f1 else ofC p l
theorem in_f (x : Rg) (p : Int) : place_In.f x.f0 x.f1 p = some (decide (InP x p)) := by
 unfold place_In.f
 rw [may_f]
 unfold InP mayB
 by_cases h0 : MayP x
 ·by_cases h1 : p ≥ x.f0 <;> by_cases h2 : p < x.f1 <;> simp [h0, h1, h2] <;> omega
 ·simp [h0]
theorem of_loop (p : Int) (l : List Pc) (h : l.length < 1000) (d : Nat) : ∀ (i : Nat), i + d = l.length → Ev (fun k => chart_Of.l0 k p l (l.length : Int) (i : Int)) (ofC p (l.drop i)) := by
 induction d with
 | zero =>
  intro i hi
  have e : i = l.length := by omega
  subst e
  rw [List.drop_length]
  refine Ev.step (f := fun _ => some (ofC p [])) (fun k => ?_) (Ev.now _)
  simp only [chart_Of.l0]
  rw [if_neg (by omega)]
  rfl
 | succ d ih =>
  intro i hi
  have hlt : i < l.length := by omega
  rw [List.drop_eq_getElem_cons hlt, ofC]
  by_cases hp : InP (l[i]).f0 p
  ·rw [if_pos hp]
   refine Ev.step (f := fun _ => some ((l[i]).f1)) (fun k => ?_) (Ev.now _)
   simp only [chart_Of.l0]
   rw [if_pos (by omega), if_pos (by omega), if_pos (by omega), rd_pc l i hlt, in_f, decide_eq_true hp]
   simp
  ·rw [if_neg hp]
   refine Ev.step (fun k => ?_) (ih (i + 1) (by omega))
   simp only [chart_Of.l0]
   rw [if_pos (by omega), if_pos (by omega), if_pos (by omega), rd_pc l i hlt, in_f, decide_eq_false hp]
   simp only [Option.bind_some, Bool.false_eq_true, if_false]
   rw [w64_small (by omega) (by omega)]
   rfl
theorem of_ev (ep : Int) (l : List Pc) (p : Int) (h : l.length < 1000) : Ev (fun k => chart_Of.f k ep l p) (ofC p l) := by
 have h1 := of_loop p l h l.length 0 (by omega)
 rw [List.drop_zero] at h1
 exact h1
end Go.Proofs.Ytonedijkgddepaa.P.C4
namespace Go.Proofs.Ytonedijkgddepaa.P
open Go.Sq
open Go.RowKit Go.Maps Go.Proofs.YtonedijkgddepaaW.PrintWords Go.Proofs.YtonedijkgddepaaW.PrintLast Go.Proofs.YtonedijkgddepaaW.PrintMore
set_option linter.unusedVariables false
set_option linter.unusedSimpArgs false
def rplc (c : Cl) : Int := (C4.plc (entG c.call.kind (c.call.entries.getD c.step.toNat z106)) : Int)
def swOf (c : Cl) : List Int := if c.step = 0 then shardsV c.pieces else c.sweep
def nextA (a : As) (c : Cl) : As := if sweepsB c.call.kind = true then (askV a ((swOf c).getD c.step.toNat 0) (cmdS c.call)).2 else (askV a (C4.ofC (rplc c) c.pieces) (cmdV c.call (c.call.entries.getD c.step.toNat z106))).2
def nextC (c : Cl) : Cl := if sweepsB c.call.kind = true then { c with sweep := swOf c } else c
def tickN (a : As) (c : Cl) : As × Cl × List S47 := cliTickV a c (nextA a c) (nextC c)
def recvN (a : As) (c : Cl) (p : S47) : As × Cl := cliRecvV a c p (C4.mayC p.f7.f0 p.f7.f1) (C4.ofC (rplc c) (newChart c p).pieces)
def entOk (y : S106) : Prop := y.f0.size ≤ 140737488351232 ∧ y.f3.f1.size ≤ 140737488351232
structure CInv (a : As) (c : Cl) (q k : Nat) : Prop where
 ok : a.ok q
 at1 : 0 ≤ c.at_ ∧ c.at_ < a.nodes
 out1 : c.out.length ≤ k
 step1 : 0 ≤ c.step ∧ c.step ≤ k
 pcs : c.pieces.length ≤ 20
 ep1 : 0 ≤ c.epoch
 ep2 : c.epoch = 0 → c.works = true → c.wants = true
 ep3 : c.epoch ≠ 0 → 0 < c.pieces.length
 ent : c.works = true → sweepsB c.call.kind = false → c.step < c.call.entries.length
 swp : c.works = true → sweepsB c.call.kind = true → (c.step = 0 ∧ (a.busy = true → 0 < c.sweep.length)) ∨ (0 < c.step ∧ c.step < c.sweep.length)
 bw : a.busy = true → c.works = true
 ents : ∀ y ∈ c.call.entries, entOk y
theorem compact_pos (xs : List Int) (h : 0 < xs.length) : 0 < (Lib.compact xs).length := by
 unfold Lib.compact Lib.compactUpTo
 rw [List.length_map, List.length_pos_iff]
 intro e
 have h0 : 0 ∈ (List.range xs.length).filter (Lib.keeps xs.toArray) := List.mem_filter.2 ⟨List.mem_range.2 h, Lib.keeps_lt_one _ 0 (by decide)⟩
 rw [e] at h0
 cases h0
theorem shards_pos (xs : List S108) (h : 0 < xs.length) : 0 < (shardsV xs).length := by
 unfold shardsV
 exact compact_pos _ (by simpa using h)
theorem entG_ok {k : Int} {l : List S106} (h : ∀ y ∈ l, entOk y) (i : Nat) (hi : i < l.length) : (entG k (l.getD i z106)).size ≤ 140737488351232 := by
 have h1 : entOk (l.getD i z106) := h _ (by rw [List.getD_eq_getElem?_getD, List.getElem?_eq_getElem hi]; exact List.getElem_mem hi)
 unfold entG
 split
 ·exact h1.2
 ·exact h1.1
theorem rplc_ev {a : As} {c : Cl} {q k : Nat} (h : CInv a c q k) (hw : c.works = true) (hs : sweepsB c.call.kind = false) : ∃ k, place_Of.f k (entG c.call.kind (c.call.entries.getD c.step.toNat z106)) = some (rplc c) :=
 (C4.plc_ev _ (entG_ok h.ents _ (by have := h.ent hw hs; have := h.step1; omega))).rounds
theorem nextA_ok {a : As} {c : Cl} {q k : Nat} (h : CInv a c q k) (hq : q + 1 < 100000) : (nextA a c).ok (q + 1) := by
 unfold nextA
 split
 ·exact askV_ok h.ok hq _ _ rfl
 ·exact askV_ok h.ok hq _ _ rfl
theorem next_does {a : As} {c : Cl} {q k : Nat} (h : CInv a c q k) (w0 : World) (L : List Thing) (BC BA bl : Nat) (v1 v2 v3 v4 : Value) (hw : c.works = true) (hwa : c.wants = false) (hb : a.busy = false) :
  NextDoes w0 L BC BA bl q a c v1 v2 v3 v4 (nextA a c) (nextC c) := by
 have hst : c.step = (c.step.toNat : Int) := by have := h.step1; omega
 have hep : 0 < c.pieces.length := h.ep3 (fun e => by have := h.ep2 e hw; rw [hwa] at this; cases this)
 rcases Bool.eq_false_or_eq_true (sweepsB c.call.kind) with hs | hs
 ·unfold nextA nextC swOf
  rw [if_pos hs, if_pos hs]
  rcases h.swp hw hs with ⟨h0, _⟩ | ⟨h0, h1⟩
  ·rw [if_pos h0]
   exact nextSweep0 w0 L BC BA bl q a c v1 v2 v3 v4 h.ok hs _ hst (by have := h.pcs; omega) (by omega) (by rw [h0]; exact shards_pos _ hep)
  ·rw [if_neg (by omega)]
   exact nextSweepN w0 L BC BA bl q a c v1 v2 v3 v4 h.ok hs _ hst (by have := h.pcs; omega) (by omega) (by omega)
 ·unfold nextA nextC
  rw [if_neg (by rw [hs]; decide), if_neg (by rw [hs]; decide)]
  exact nextSendT w0 L BC BA bl q a c v1 v2 v3 v4 h.ok _ hst (by have := h.ent hw hs; have := h.step1; omega) hs _ _ (rplc_ev h hw hs) (C4.of_ev c.epoch c.pieces _ (by have := h.pcs; omega)).rounds
theorem tickC {a : As} {c : Cl} {q k : Nat} (hI : CInv a c q k) (hq : q + 1 < 100000) (w0 w : World) (L : List Thing) (BC BA bl : Nat) (v1 v2 v3 v4 : Value) (h : St w0 w (cliT BC BA bl q a c v1 v2 v3 v4 ++ L)) :
  Calls Try.prog 9 #[.pointer (some ⟨BC, 0, none⟩)] w fun e' w' => TickT w0 L BC BA bl (q + 2) v1 v2 v4 (tickN a c) e' w' :=
 cliTickT w0 w L BC BA bl q a c v1 v2 v3 v4 h hI.ok (by have := hI.at1; have := hI.ok.nodes1; omega) (nextA a c) (nextC c) (nextA_ok hI hq) (next_does hI w0 L BC BA bl v1 v2 v3 v4)
theorem recvC {a : As} {c : Cl} {q k : Nat} (hI : CInv a c q k) (hq : q + 1 < 100000) (hk : k < 10000) (w0 w : World) (L : List Thing) (BC BA bl : Nat) (v1 v2 v3 v4 : Value) (h : St w0 w (cliT BC BA bl q a c v1 v2 v3 v4 ++ L)) (p : S47) (vm vv vd vpd : Value) (A3 A5 A7 : Option Addr) (c3 c5 c7 : Nat)
  (hr : ∀ W, Mem W L → (Kd.C k115 W A3 p.f6.f3.length p.f6.f3 ∧ p.f6.f3.length ≤ c3) ∧ (Kd.C k35 W A5 p.f6.f5.length p.f6.f5 ∧ p.f6.f5.length ≤ c5) ∧ Kd.C k108 W A7 p.f7.f1.length p.f7.f1 ∧ p.f7.f1.length ≤ c7) (h3 : p.f6.f3.length ≤ 12) (h5 : p.f6.f5.length ≤ 12) (h7 : p.f7.f1.length ≤ 20) (h4 : p.f6.f4 = []) :
  Calls Try.prog 11 #[.pointer (some ⟨BC, 0, none⟩), .agg (pkA p vm vv vd A3 c3 A5 c5 A7 c7 vpd)] w fun e' w' => CRecvP w0 L BC BA bl (q + 1) v1 v3 (recvN a c p) e' w' := by
 have hL : Mem w L := h.drop.drop.drop.drop.drop.drop.drop.mem
 refine cliRecvT w0 w L BC BA bl q a c v1 v2 v3 v4 h hI.ok hq p vm vv vd vpd A3 A5 A7 c3 c5 c7 (fun W hW => ⟨⟨(hr W hW).1.1, (hr W hW).2.1.1⟩, (hr W hW).2.2.1⟩) ⟨(hr w hL).1.2, by omega⟩ ⟨(hr w hL).2.1.2, by omega⟩ ⟨(hr w hL).2.2.2, by omega⟩ h4 _ (C4.may_ev _ _ (by omega)).rounds (rplc c) _ (fun _ hb hs => ⟨⟨c.step.toNat, by have := hI.step1; omega, by have := hI.ent (hI.bw hb) hs; have := hI.step1; omega, rplc_ev hI (hI.bw hb) hs⟩, (C4.of_ev _ _ _ ?_).rounds⟩) (by have := hI.out1; omega) (by have := hI.step1; omega)
 have := hI.pcs
 unfold newChart
 split
 ·show p.f7.f1.length < 1000; omega
 ·omega
theorem tickV_same (s : As) : (tickV s).1.busy = s.busy ∧ (tickV s).1.nodes = s.nodes ∧ (tickV s).1.num = s.num ∧ (tickV s).1.cmd = s.cmd ∧ (tickV s).1.id = s.id := by
 unfold tickV
 split
 ·split
  ·split
   ·exact ⟨rfl, rfl, rfl, rfl, rfl⟩
   ·exact ⟨rfl, rfl, rfl, rfl, rfl⟩
  ·exact ⟨rfl, rfl, rfl, rfl, rfl⟩
 ·exact ⟨rfl, rfl, rfl, rfl, rfl⟩
theorem askV_same (s : As) (g : Int) (c : S38) : (askV s g c).2.nodes = s.nodes ∧ (askV s g c).2.id = s.id := by
 unfold askV
 split
 ·exact ⟨rfl, rfl⟩
 ·split
  ·exact ⟨rfl, rfl⟩
  ·exact ⟨rfl, rfl⟩
theorem nextA_same (a : As) (c : Cl) : (nextA a c).nodes = a.nodes ∧ (nextA a c).id = a.id := by
 unfold nextA
 split
 ·exact askV_same _ _ _
 ·exact askV_same _ _ _
theorem turnV_same (s : As) (g : Int) : (turnV s g).2.busy = s.busy ∧ (turnV s g).2.nodes = s.nodes ∧ (turnV s g).2.num = s.num ∧ (turnV s g).2.cmd = s.cmd ∧ (turnV s g).2.id = s.id := by
 unfold turnV
 split
 ·split
  ·exact ⟨rfl, rfl, rfl, rfl, rfl⟩
  ·exact ⟨rfl, rfl, rfl, rfl, rfl⟩
 ·exact ⟨rfl, rfl, rfl, rfl, rfl⟩
theorem leadV_same (s : As) (n : Int) : (leadV s n).busy = s.busy ∧ (leadV s n).nodes = s.nodes ∧ (leadV s n).num = s.num ∧ (leadV s n).cmd = s.cmd ∧ (leadV s n).id = s.id := by
 unfold leadV
 split
 ·exact ⟨rfl, rfl, rfl, rfl, rfl⟩
 ·exact ⟨rfl, rfl, rfl, rfl, rfl⟩
theorem recvV_same (s : As) (p : S47) : (recvV s p).1.nodes = s.nodes ∧ (recvV s p).1.num = s.num ∧ (recvV s p).1.cmd = s.cmd ∧ (recvV s p).1.id = s.id ∧ ((recvV s p).1.busy = true → s.busy = true) ∧ ((recvV s p).2.2 = false → (recvV s p).1.busy = s.busy) ∧ ((recvV s p).2.2 = true → s.busy = true ∧ (recvV s p).1.busy = false) := by
 unfold recvV
 split
 ·rename_i hh
  have hb : s.busy = true := hh.1
  split
  ·have h := leadV_same s p.f6.f2
   exact ⟨h.2.1, h.2.2.1, h.2.2.2.1, h.2.2.2.2, fun _ => hb, fun _ => h.1, fun h => by cases h⟩
  ·exact ⟨rfl, rfl, rfl, rfl, fun h => (by cases h), fun h => (by cases h), fun _ => ⟨hb, rfl⟩⟩
 ·exact ⟨rfl, rfl, rfl, rfl, fun h => h, fun _ => rfl, fun h => by cases h⟩
theorem CInv.mono {a : As} {c : Cl} {q q' k k' : Nat} (h : CInv a c q k) (hq : q ≤ q') (hq' : q' < 100000) (hk : k ≤ k') : CInv a c q' k' :=
 ⟨h.ok.mono hq hq', h.at1, by have := h.out1; omega, by have := h.step1; omega, h.pcs, h.ep1, h.ep2, h.ep3, h.ent, h.swp, h.bw, h.ents⟩
theorem tick_inv {a : As} {c : Cl} {q k : Nat} (h : CInv a c q k) (hq : q + 2 < 100000) : CInv (tickN a c).1 (tickN a c).2.1 (q + 2) k := by
 unfold tickN cliTickV
 split
 ·rename_i hw
  split
  ·refine ⟨h.ok.mono (by omega) hq, ?_, h.out1, h.step1, h.pcs, h.ep1, h.ep2, h.ep3, h.ent, h.swp, h.bw, h.ents⟩
   have h1 := h.at1
   exact ⟨Int.tmod_nonneg _ (by omega), Int.tmod_lt_of_pos _ (by omega)⟩
  ·rename_i hwa
   split
   ·have hs := tickV_same a
    exact ⟨(tickV_ok h.ok).mono (by omega) hq, by rw [hs.2.1]; exact h.at1, h.out1, h.step1, h.pcs, h.ep1, h.ep2, h.ep3, h.ent, fun h1 h2 => (h.swp h1 h2).imp (fun h3 => ⟨h3.1, fun hb => h3.2 (by rw [← hs.1]; exact hb)⟩) id, fun _ => hw, h.ents⟩
   ·rename_i hb
    have hs := tickV_same (nextA a c)
    have hn := nextA_same a c
    have hk := nextA_ok h (by omega)
    have hep : 0 < c.pieces.length := h.ep3 (fun e => hwa (h.ep2 e hw))
    unfold nextC
    split
    ·rename_i hsw
     refine ⟨(tickV_ok hk).mono (by omega) hq, by rw [hs.2.1, hn.1]; exact h.at1, h.out1, h.step1, h.pcs, h.ep1, h.ep2, h.ep3, h.ent, fun _ _ => ?_, fun _ => hw, h.ents⟩
     unfold swOf
     rcases h.swp hw hsw with ⟨h0, _⟩ | ⟨h0, h1⟩
     ·left
      refine ⟨h0, fun _ => ?_⟩
      show 0 < (if c.step = 0 then shardsV c.pieces else c.sweep).length
      rw [if_pos h0]
      exact shards_pos _ hep
     ·right
      refine ⟨h0, ?_⟩
      show c.step < ((if c.step = 0 then shardsV c.pieces else c.sweep).length : Int)
      rw [if_neg (by omega)]
      exact h1
    ·rename_i hsw
     exact ⟨(tickV_ok hk).mono (by omega) hq, by rw [hs.2.1, hn.1]; exact h.at1, h.out1, h.step1, h.pcs, h.ep1, h.ep2, h.ep3, h.ent, fun _ h2 => absurd h2 hsw, fun _ => hw, h.ents⟩
 ·exact h.mono (by omega) hq (Nat.le_refl _)
theorem start_inv {a : As} {c : Cl} {q k : Nat} (h : CInv a c q k) (x : Ca) (hx : ∀ y ∈ x.entries, entOk y) : CInv a (startV c x).2 q k := by
 unfold startV
 split
 ·exact h
 ·rename_i hw
  split
  ·rename_i hc
   refine ⟨h.ok, h.at1, Nat.zero_le _, ⟨Int.le_refl _, by show (0 : Int) ≤ k; omega⟩, h.pcs, h.ep1, fun e _ => ?_, h.ep3, fun _ hs => ?_, fun _ _ => Or.inl ⟨rfl, fun hb => absurd (h.bw hb) hw⟩, fun _ => rfl, hx⟩
   ·have e1 : c.epoch = 0 := e
    show ((c.epoch == 0) || sweepsB x.kind) = true
    rw [e1]; rfl
   ·have := (hc.2.2.1 hs).1
    show (0 : Int) < (x.entries.length : Int)
    omega
  ·exact h
theorem may_pos {e : Int} {l : List S108} (h : C4.mayC e l = true) : 1 ≤ e ∧ 0 < l.length := by
 unfold C4.mayC at h
 simp only [Bool.and_eq_true, decide_eq_true_eq] at h
 refine ⟨h.1, ?_⟩
 cases l with
 | nil => simp [C4.chOK] at h
 | cons x l => simp
theorem newChart_same (c : Cl) (p : S47) : (newChart c p).works = c.works ∧ (newChart c p).call = c.call ∧ (newChart c p).sweep = c.sweep ∧ (newChart c p).step = c.step ∧ (newChart c p).out = c.out ∧ (newChart c p).at_ = c.at_ := by
 unfold newChart
 split <;> exact ⟨rfl, rfl, rfl, rfl, rfl, rfl⟩
theorem learn_inv {a : As} {c : Cl} {q k : Nat} (h : CInv a c q k) (hq : q + 1 < 100000) (p : S47) (h7 : p.f7.f1.length ≤ 20) (g : Int) : CInv (learnV a c p (C4.mayC p.f7.f0 p.f7.f1) g).1 (learnV a c p (C4.mayC p.f7.f0 p.f7.f1) g).2 (q + 1) (k + 1) := by
 unfold learnV
 split
 ·rename_i hh
  obtain ⟨hm1, hm2⟩ := may_pos hh.2.2
  obtain ⟨n1, n2, n3, n4, n5, n6⟩ := newChart_same c p
  have hn : (newChart c p).epoch ≠ 0 ∧ 0 ≤ (newChart c p).epoch ∧ 0 < (newChart c p).pieces.length ∧ (newChart c p).pieces.length ≤ 20 := by
   unfold newChart
   split
   ·exact ⟨by show p.f7.f0 ≠ 0; omega, by show 0 ≤ p.f7.f0; omega, hm2, h7⟩
   ·exact ⟨by omega, by omega, h.ep3 (by omega), h.pcs⟩
  have key : ∀ a' : As, a'.ok q → a'.nodes = a.nodes → a'.busy = a.busy → CInv a' { newChart c p with wants := false } (q + 1) (k + 1) := by
   intro a' hk hn1 hb
   refine ⟨hk.mono (by omega) hq, by rw [hn1]; show 0 ≤ (newChart c p).at_ ∧ (newChart c p).at_ < a.nodes; rw [n6]; exact h.at1, by show (newChart c p).out.length ≤ _; rw [n5]; have := h.out1; omega, by show 0 ≤ (newChart c p).step ∧ (newChart c p).step ≤ _; rw [n4]; have := h.step1; omega, hn.2.2.2, hn.2.1, fun e => absurd e hn.1, fun _ => hn.2.2.1, fun h1 h2 => ?_, fun h1 h2 => ?_, fun h1 => ?_, by show ∀ y ∈ (newChart c p).call.entries, _; rw [n2]; exact h.ents⟩
   ·show (newChart c p).step < ((newChart c p).call.entries.length : Int)
    rw [n4, n2]
    exact h.ent (n1 ▸ h1) (n2 ▸ h2)
   ·show ((newChart c p).step = 0 ∧ (a'.busy = true → 0 < (newChart c p).sweep.length)) ∨ (0 < (newChart c p).step ∧ (newChart c p).step < ((newChart c p).sweep.length : Int))
    rw [n4, n3, hb]
    exact h.swp (n1 ▸ h1) (n2 ▸ h2)
   ·show (newChart c p).works = true
    rw [n1]
    exact h.bw (hb ▸ h1)
  split
  ·have ht := turnV_same a g
   exact key _ (turnV_ok h.ok g) ht.2.1 ht.1
  ·exact key _ h.ok rfl rfl
 ·exact h.mono (by omega) hq (by omega)
theorem done_inv {a a' : As} {c : Cl} {q k : Nat} (h : CInv a c q k) (hq : q + 1 < 100000) (hk : a'.ok q) (hn : a'.nodes = a.nodes) (hb : a.busy = true) (hb' : a'.busy = false) (r : S42) : CInv a' (doneV c r) (q + 1) (k + 1) := by
 have hw := h.bw hb
 refine ⟨hk.mono (by omega) hq, by rw [hn]; exact h.at1, by show (c.out ++ [r]).length ≤ _; rw [List.length_append]; have := h.out1; show c.out.length + 1 ≤ _; omega, by show 0 ≤ c.step + 1 ∧ c.step + 1 ≤ _; have := h.step1; omega, h.pcs, h.ep1, fun e h1 => ?_, h.ep3, fun h1 h2 => ?_, fun h1 h2 => ?_, fun h1 => (by rw [hb'] at h1; cases h1), h.ents⟩
 ·exact h.ep2 e hw
 ·have h2' : sweepsB c.call.kind = false := h2
  have h3 : (if c.step + 1 = (if sweepsB c.call.kind = true then (c.sweep.length : Int) else (c.call.entries.length : Int)) ∨ (c.call.kind = 2 ∧ 0 < r.f3.length) then false else c.works) = true := h1
  rw [if_neg (show ¬ sweepsB c.call.kind = true by rw [h2']; decide)] at h3
  have h4 := h.ent hw h2'
  show c.step + 1 < (c.call.entries.length : Int)
  split at h3
  ·cases h3
  ·rename_i h5
   have h6 : ¬ c.step + 1 = (c.call.entries.length : Int) := fun e => h5 (Or.inl e)
   omega
 ·have h2' : sweepsB c.call.kind = true := h2
  have h3 : (if c.step + 1 = (if sweepsB c.call.kind = true then (c.sweep.length : Int) else (c.call.entries.length : Int)) ∨ (c.call.kind = 2 ∧ 0 < r.f3.length) then false else c.works) = true := h1
  rw [if_pos h2'] at h3
  right
  show 0 < c.step + 1 ∧ c.step + 1 < (c.sweep.length : Int)
  have h4 : 0 ≤ c.step ∧ c.step < (c.sweep.length : Int) := by
   rcases h.swp hw h2' with ⟨e, h5⟩ | h5
   ·have := h5 hb
    omega
   ·omega
  split at h3
  ·cases h3
  ·rename_i h5
   have h6 : ¬ c.step + 1 = (c.sweep.length : Int) := fun e => h5 (Or.inl e)
   omega
theorem recv_inv {a : As} {c : Cl} {q k : Nat} (h : CInv a c q k) (hq : q + 1 < 100000) (p : S47) (h7 : p.f7.f1.length ≤ 20) : CInv (recvN a c p).1 (recvN a c p).2 (q + 1) (k + 1) := by
 unfold recvN cliRecvV
 split
 ·rename_i hw
  split
  ·exact learn_inv h hq p h7 _
  ·have hs := recvV_same a p
   split
   ·rename_i hans
    obtain ⟨hb, hb'⟩ := hs.2.2.2.2.2.2 hans
    split
    ·rename_i hmv
     have hk : As.ok { (recvV a p).1 with cmd := a.cmd, busy := true, sent := false } q := by
      have h1 := recvV_ok h.ok p
      exact ⟨h1.id1, h1.nodes1, h1.retry1, h1.num1, h1.group1, h1.waited1, h1.lead1, h1.q1, h.ok.data0⟩
     exact ⟨hk.mono (by omega) hq, by show 0 ≤ c.at_ ∧ c.at_ < (recvV a p).1.nodes; rw [hs.1]; exact h.at1, by show c.out.length ≤ _; have := h.out1; omega, by show 0 ≤ c.step ∧ c.step ≤ _; have := h.step1; omega, h.pcs, h.ep1, fun _ _ => rfl, h.ep3, h.ent, fun _ h2 => (by have h3 : sweepsB c.call.kind = true := h2; rw [hmv.2] at h3; cases h3), fun _ => hw, h.ents⟩
    ·exact done_inv h hq (recvV_ok h.ok p) hs.1 hb hb' _
   ·rename_i hans
    have hf : (recvV a p).2.2 = false := by simpa using hans
    have hb := hs.2.2.2.2.2.1 hf
    exact ⟨(recvV_ok h.ok p).mono (by omega) hq, by rw [hs.1]; exact h.at1, by show c.out.length ≤ _; have := h.out1; omega, by show 0 ≤ c.step ∧ c.step ≤ _; have := h.step1; omega, h.pcs, h.ep1, h.ep2, h.ep3, h.ent, fun h1 h2 => by rw [hb]; exact h.swp h1 h2, fun _ => hw, h.ents⟩
 ·exact h.mono (by omega) hq (by omega)
theorem new_inv {id nodes retry : Int} (h : confOk id nodes retry) : CInv (newAs id nodes retry) newCl 0 0 :=
 ⟨newAs_ok h, ⟨Int.le_refl _, by show (0 : Int) < nodes; have := h.2.2.1; omega⟩, Nat.le_refl _, ⟨Int.le_refl _, Int.le_refl _⟩, Nat.zero_le _, Int.le_refl _, fun _ h => (by cases h), fun h => absurd rfl h, fun h => (by cases h), fun h => (by cases h), fun h => (by cases h), fun y hy => (by cases hy)⟩
end Go.Proofs.Ytonedijkgddepaa.P
namespace Go.Proofs.Ytonedijkgddepaa.P
open Go.Sq
open Go.RowKit Go.Maps Go.Proofs.YtonedijkgddepaaW.PrintWords Go.Proofs.YtonedijkgddepaaW.PrintLast Go.Proofs.YtonedijkgddepaaW.PrintMore
set_option linter.unusedVariables false
set_option linter.unusedSimpArgs false

def went : S106 := ⟨⟨#[103]⟩, ⟨#[98]⟩, ⟨#[]⟩, z33⟩
def wcall : Ca := ⟨1, 0, 0, 0, ⟨#[]⟩, [went]⟩
def wpcs : List S108 := [⟨⟨0, 65536⟩, 1⟩]
def wa0 : As := newAs 1 1 3
def wc1 : Cl := ⟨wcall, true, true, true, 0, 0, [], 0, [], []⟩
def wpk1 : S47 := ⟨5, 0, -1, 0, z31, z38, z42, ⟨1, wpcs⟩, []⟩
def wc2 : Cl := ⟨wcall, true, true, false, 0, 1, wpcs, 0, [], []⟩
def wcmd : S38 := ⟨1, 1, 1, 0, 0, ⟨#[103]⟩, ⟨#[98]⟩, ⟨#[]⟩, ⟨#[]⟩, 0, 0, z33, z35, 0, []⟩
def wa1 : As := ⟨1, 1, 3, 1, 1, wcmd, true, false, 0, []⟩
def wa2 : As := ⟨1, 1, 3, 1, 1, wcmd, true, true, 0, []⟩
def wrep : S42 := ⟨0, 9, 0, [], [], []⟩
def wpk2 : S47 := ⟨3, 0, -1, 1, z31, ⟨0, 1, 1, 0, 0, ⟨#[]⟩, ⟨#[]⟩, ⟨#[]⟩, ⟨#[]⟩, 0, 0, z33, z35, 0, []⟩, wrep, z45, []⟩
def wa3 : As := ⟨1, 1, 3, 1, 1, wcmd, false, true, 0, []⟩
def wc3 : Cl := ⟨wcall, false, true, false, 0, 1, wpcs, 1, [], [wrep]⟩
theorem w_conf : confOk 1 1 3 := by unfold confOk; omega
theorem w_ok0 : wa0.ok 0 := newAs_ok w_conf
theorem w_start : startV newCl wcall = (0, wc1) := by
 unfold startV
 rw [if_neg (by decide), if_pos]
 ·rfl
 ·unfold callOk numB
  refine ⟨by decide, fun h => ?_, fun _ => by decide, by decide, by decide, by decide⟩
  revert h
  decide
theorem w_tick1 : cliTickV wa0 wc1 wa0 wc1 = (wa0, wc1, [mapPk 1 0]) := by kernel_rfl
theorem w_first : ∃ k, racewayref15_First.f k 1 = some (1, wpcs, 0) := ⟨20, by kernel_rfl⟩
theorem w_may : ∃ k, chart_May.f k 1 wpcs = some true := ⟨200, by kernel_rfl⟩
theorem w_may2 : ∃ k, chart_May.f k 0 [] = some false := ⟨200, by kernel_rfl⟩
theorem w_recv1 : cliRecvV wa0 wc1 wpk1 true 1 = (wa0, wc2) := by kernel_rfl
theorem w_place : ∃ k, place_Of.f k ⟨#[103]⟩ = some 50186 := ⟨20, by kernel_rfl⟩
theorem w_of : ∃ k, chart_Of.f k 1 wpcs 50186 = some 1 := ⟨20, by kernel_rfl⟩
theorem w_ask : (askV wa0 1 (cmdV wc2.call (wc2.call.entries.getD 0 z106))).2 = wa1 := by kernel_rfl
theorem w_next (w0 : World) (L : List Thing) (BC BA bl : Nat) (v1 v2 v3 v4 : Value) : NextDoes w0 L BC BA bl 3 wa0 wc2 v1 v2 v3 v4 wa1 wc2 := by
 have h := nextSendT w0 L BC BA bl 3 wa0 wc2 v1 v2 v3 v4 (w_ok0.mono (by decide) (by decide)) 0 rfl (by decide) rfl 50186 1 w_place w_of
 rw [w_ask] at h
 exact h
theorem w_ok1 : wa1.ok 1 := by rw [← w_ask]; exact askV_ok w_ok0 (by decide) 1 _ rfl
theorem w_tick2 : cliTickV wa0 wc2 wa1 wc2 = (wa2, wc2, [askPk wa2]) := by kernel_rfl
theorem w_ok2 : wa2.ok 3 := ⟨by decide, by decide, by decide, by decide, by decide, by decide, fun x h => (by cases h), by decide, rfl⟩
theorem w_recv2 : cliRecvV wa2 wc2 wpk2 false 0 = (wa3, wc3) := by kernel_rfl
end Go.Proofs.Ytonedijkgddepaa.P
namespace Go.Proofs.Ytonedijkgddepaa.P
open Go.Sq
open Go.RowKit Go.Maps Go.Proofs.YtonedijkgddepaaW.PrintWords Go.Proofs.YtonedijkgddepaaW.PrintLast Go.Proofs.YtonedijkgddepaaW.PrintMore
set_option linter.unusedVariables false
set_option linter.unusedSimpArgs false

theorem C_nil {α : Type} (d : Kd α) (w : World) : Kd.C d w none 0 [] := ⟨rfl, by decide, fun h => absurd h (by decide)⟩
set_option maxHeartbeats 4000000 in
set_option maxRecDepth 100000 in
theorem worksT (w0 w : World) (L : List Thing) (h : St w0 w L) :
  Calls Try.prog 14 #[] w fun e' w' => e' = .returned (.bool true) ∧ St w0 w' L := by
 have H := Aside0.mk h
 obtain ⟨kf, hkf⟩ := w_first
 have hkf := Aside0.mk hkf
 clear h
 refine calls_hide fun R HPOST => ?_
 go_enter Try.func14, Try.ntmps14
 go_upto_region 0 with (fail)
 go_upto_region 1 with (fail)
 go_upto_region 2 with (first | (go_at_call 7; (with_reducible refine (newClientT w0 _ _ H.out 1 1 3).mono ?_); rintro e1 w2 (⟨_, BC, BA, bl, rfl, h_⟩ | ⟨hn, _⟩); rotate_left; exact (hn w_conf).elim; have S1 := Aside0.mk h_; clear h_))
 go_upto_region 4 with (first | ((with_reducible refine gate_dst (N := 22) rfl ?_); refine unguard (by rfl) ?_; refine st_lit ?hg (N := 22) ?hd #[(.string ⟨#[103]⟩), (.string ⟨#[98]⟩), (.string (⟨#[]⟩ : ByteArray)), (.int .i64 0), (.string (⟨#[]⟩ : ByteArray)), (.int .i64 0), (.int .i64 0)] 106 1 ?hr S1.out ?_; (case hd => rfl); (case hg => rfl); (case hr => first | (go_simp; done) | (go_simp; rfl) | (go_simp; exact ⟨rfl, rfl⟩)); intro g3 w4 hg_ h_ hb_; have S5 := Aside0.mk (h_.mono0 (fun S hS => blkRow (d := k106) (x := went) hS (k106_mkM _ _ _ went) rfl)); have BS5 := Aside0.mk hb_; have GS5 := Aside0.mk hg_; clear h_ hb_ hg_) | (go_at_call 12; (refine (cliStartT w0 _ (Row k106 106 (.slice (some ⟨g3, 0, none⟩) 1 1) [went] :: L) BC BA bl 0 wa0 newCl (.slice none 0 0) (.slice none 0 0) (.slice none 0 0) (.slice none 0 0) (((((((((S5.out).bring 0 rfl).bring 7 rfl).bring 7 rfl).bring 7 rfl).bring 7 rfl).bring 7 rfl).bring 7 rfl).bring 7 rfl) (by decide) wcall (some ⟨g3, 0, none⟩) 1 (by decide) (fun W hM => (hM.reads 0 rfl).1) (by decide)).mono ?_); rintro e1 w7 hP_; rw [w_start] at hP_; obtain ⟨u1, u3, u4, rfl, h_⟩ := hP_; have S6 := Aside0.mk h_; clear h_))
 go_upto_region 5 with (first | (go_at_call 9; (with_reducible refine (cliTickT w0 _ (Row k106 106 (.slice (some ⟨g3, 0, none⟩) 1 1) [went] :: L) BC BA bl 0 wa0 wc1 u1 (.slice none 0 0) u3 u4 (S6.out) w_ok0 (by decide) wa0 wc1 (w_ok0.mono (by decide) (by decide)) (fun _ h _ => absurd h (by decide))).mono ?_); rintro e1 w9 hP_; rw [w_tick1] at hP_; obtain ⟨x3t11, At11, nt11, rfl, h_⟩ := hP_; obtain ⟨gk10, rfl⟩ := h_.head 7 rfl (by decide); have S8 : Aside0 (St w0 w9 (Blk BC (cliA BA wc1 u1 (.slice none 0 0) x3t11 u4) 91 :: Blk BA (askA wa0 bl) 97 :: MapT bl 2 wa0.lead :: Row k106 106 u1 wc1.call.entries :: Row k108 108 (.slice none 0 0) wc1.pieces :: Row (Kd.int .i64) 3 x3t11 wc1.sweep :: Row k42 42 u4 wc1.out :: Row k47 47 (.slice (some ⟨gk10, 0, none⟩) 1 nt11) [mapPk 1 0] :: Row k106 106 (.slice (some ⟨g3, 0, none⟩) 1 1) [went] :: L)) := Aside0.mk h_; clear h_))
 go_upto_region 6 with (first | (go_at_call 15; (with_reducible refine (firstT w0 _ _ S8.out kf 1 1 wpcs 0 hkf.out).mono ?_); rintro e1 w13 ⟨Af, nf, rfl, h_⟩; have S12 := Aside0.mk h_; clear h_) | ((with_reducible refine gate_dst (N := 4) rfl ?_); refine st_box ?hg (N := 4) ?hd #[(.int .i64 0), (.slice none 0 0)] 45 ?hr S12.out ?_; (case hd => rfl); (case hg => rfl); (case hr => first | (go_simp; done) | (go_simp; rfl)); intro g14 w15 hg_ h_ hb_; have S16 := Aside0.mk h_; have BS16 := Aside0.mk hb_; have GS16 := Aside0.mk hg_; clear h_ hb_ hg_) | ((with_reducible refine gate_ (.store 45 (.tmp 4) (.tmp 31)) rfl ?_); refine st_store rfl rfl 45 _ _ rfl rfl rfl (seg := [(.int .i64 1), (.slice Af 1 nf)]) rfl (by kernel_rfl) (by rfl) S16.out 0 rfl (Nat.le_of_ble_eq_true rfl) ?_; intro w17 h_; have S18 : Aside0 (St w0 w17 (Blk g14 #[(.int .i64 1), (.slice Af 1 nf)] 45 :: Row k108 108 (.slice Af 1 nf) wpcs :: Blk BC (cliA BA wc1 u1 (.slice none 0 0) x3t11 u4) 91 :: Blk BA (askA wa0 bl) 97 :: MapT bl 2 wa0.lead :: Row k106 106 u1 wc1.call.entries :: Row k108 108 (.slice none 0 0) wc1.pieces :: Row (Kd.int .i64) 3 x3t11 wc1.sweep :: Row k42 42 u4 wc1.out :: Row k47 47 (.slice (some ⟨gk10, 0, none⟩) 1 nt11) [mapPk 1 0] :: Row k106 106 (.slice (some ⟨g3, 0, none⟩) 1 1) [went] :: L)) := Aside0.mk h_; clear h_))
 go_upto_region 7 with (first | ((with_reducible refine gate_ (.load 45 (.tmp 4)) rfl ?_); refine st_load rfl 45 _ rfl rfl S18.out 0 rfl [(.int .i64 1), (.slice Af 1 nf)] rfl Try.underlying45 rfl (by kernel_rfl) ?_) | (go_at_call 11; (refine (cliRecvT w0 _ (Blk g14 #[(.int .i64 1), (.slice Af 1 nf)] 45 :: Row k108 108 (.slice Af 1 nf) wpcs :: Row k47 47 (.slice (some ⟨gk10, 0, none⟩) 1 nt11) [mapPk 1 0] :: Row k106 106 (.slice (some ⟨g3, 0, none⟩) 1 1) [went] :: L) BC BA bl 2 wa0 wc1 u1 (.slice none 0 0) x3t11 u4 ((((((((((((S18.out).bring 10 rfl).bring 10 rfl).bring 3 rfl).bring 3 rfl).bring 10 rfl).bring 10 rfl).bring 10 rfl).bring 10 rfl).bring 10 rfl).bring 10 rfl).bring 10 rfl) (w_ok0.mono (by decide) (by decide)) (by decide) wpk1 (.slice none 0 0) (.slice none 0 0) (.slice none 0 0) (.slice none 0 0) none none Af 0 0 nf (fun W hM => ⟨⟨C_nil _ _, C_nil _ _⟩, (hM.reads 1 rfl).1⟩) ⟨by decide, by decide⟩ ⟨by decide, by decide⟩ ⟨(S18.out.reads 1 rfl).2, by decide⟩ rfl true w_may 50186 1 (fun _ h => absurd h (by decide)) (by decide) (by decide)).mono ?_); rintro e1 w20 hP_; rw [w_recv1] at hP_; obtain ⟨x2t21, x4t21, rfl, h_⟩ := hP_; have S19 := Aside0.mk h_; clear h_))
 go_upto_region 8 with (first | (go_at_call 9; (with_reducible refine (cliTickT w0 _ (Blk g14 #[(.int .i64 1), (.slice Af 1 nf)] 45 :: Row k108 108 (.slice Af 1 nf) wpcs :: Row k47 47 (.slice (some ⟨gk10, 0, none⟩) 1 nt11) [mapPk 1 0] :: Row k106 106 (.slice (some ⟨g3, 0, none⟩) 1 1) [went] :: L) BC BA bl 3 wa0 wc2 u1 x2t21 x3t11 x4t21 (S19.out) (w_ok0.mono (by decide) (by decide)) (by decide) wa1 wc2 (w_ok1.mono (by decide) (by decide)) (fun _ _ _ => w_next w0 (Blk g14 #[(.int .i64 1), (.slice Af 1 nf)] 45 :: Row k108 108 (.slice Af 1 nf) wpcs :: Row k47 47 (.slice (some ⟨gk10, 0, none⟩) 1 nt11) [mapPk 1 0] :: Row k106 106 (.slice (some ⟨g3, 0, none⟩) 1 1) [went] :: L) BC BA bl u1 x2t21 x3t11 x4t21)).mono ?_); rintro e1 w23 hP_; rw [w_tick2] at hP_; obtain ⟨x3t25, At25, nt25, rfl, h_⟩ := hP_; obtain ⟨gk24, rfl⟩ := h_.head 7 rfl (by decide); have S22 : Aside0 (St w0 w23 (Blk BC (cliA BA wc2 u1 x2t21 x3t25 x4t21) 91 :: Blk BA (askA wa2 bl) 97 :: MapT bl 5 wa2.lead :: Row k106 106 u1 wc2.call.entries :: Row k108 108 x2t21 wc2.pieces :: Row (Kd.int .i64) 3 x3t25 wc2.sweep :: Row k42 42 x4t21 wc2.out :: Row k47 47 (.slice (some ⟨gk24, 0, none⟩) 1 nt25) [askPk wa2] :: Blk g14 #[(.int .i64 1), (.slice Af 1 nf)] 45 :: Row k108 108 (.slice Af 1 nf) wpcs :: Row k47 47 (.slice (some ⟨gk10, 0, none⟩) 1 nt11) [mapPk 1 0] :: Row k106 106 (.slice (some ⟨g3, 0, none⟩) 1 1) [went] :: L)) := Aside0.mk h_; clear h_))
 have c26 : w23.cell? ⟨gk10, 0, none⟩ = some (.int .i64 4) := pk_cell S22.out 10 rfl 0 (by decide) 0 rfl
 have c27 : w23.cell? ⟨gk24, 0, none⟩ = some (.int .i64 2) := pk_cell S22.out 7 rfl 0 (by decide) 0 rfl
 have c28 : w23.cell? ⟨gk24, 14, none⟩ = some (.int .i64 1) := pk_cell S22.out 7 rfl 0 (by decide) 14 rfl
 have c29 : w23.cell? ⟨gk24, 3, none⟩ = some (.int .i64 1) := pk_cell S22.out 7 rfl 0 (by decide) 3 rfl
 go_upto_region 10 with (fail)
 clear c26 c27 c28 c29
 go_upto_region 11 with (first | (go_at_call 11; (refine (cliRecvT w0 _ (Row k47 47 (.slice (some ⟨gk24, 0, none⟩) 1 nt25) [askPk wa2] :: Blk g14 #[(.int .i64 1), (.slice Af 1 nf)] 45 :: Row k108 108 (.slice Af 1 nf) wpcs :: Row k47 47 (.slice (some ⟨gk10, 0, none⟩) 1 nt11) [mapPk 1 0] :: Row k106 106 (.slice (some ⟨g3, 0, none⟩) 1 1) [went] :: L) BC BA bl 5 wa2 wc2 u1 x2t21 x3t25 x4t21 (S22.out) (w_ok2.mono (by decide) (by decide)) (by decide) wpk2 (.slice none 0 0) (.slice none 0 0) (.slice none 0 0) (.slice none 0 0) none none none 0 0 0 (fun W hM => ⟨⟨C_nil _ _, C_nil _ _⟩, C_nil _ _⟩) ⟨by decide, by decide⟩ ⟨by decide, by decide⟩ ⟨by decide, by decide⟩ rfl false w_may2 0 0 (fun h => absurd h.2.1 (by decide)) (by decide) (by decide)).mono ?_); rintro e1 w31 hP_; rw [w_recv2] at hP_; obtain ⟨x2t32, x4t32, rfl, h_⟩ := hP_; have S30 := Aside0.mk h_; clear h_))
 go_upto_region 12 with (first | (go_at_call 17; (with_reducible refine (cliResultT w0 _ (Row k47 47 (.slice (some ⟨gk24, 0, none⟩) 1 nt25) [askPk wa2] :: Blk g14 #[(.int .i64 1), (.slice Af 1 nf)] 45 :: Row k108 108 (.slice Af 1 nf) wpcs :: Row k47 47 (.slice (some ⟨gk10, 0, none⟩) 1 nt11) [mapPk 1 0] :: Row k106 106 (.slice (some ⟨g3, 0, none⟩) 1 1) [went] :: L) BC BA bl 6 wa3 wc3 u1 x2t32 x3t25 x4t32 (S30.out) (by decide) (by decide)).mono ?_); rintro e1 w34 ⟨Ar, nr, rfl, h_⟩; obtain ⟨gr, rfl⟩ := h_.head 0 rfl (by decide); have S33 : Aside0 (St w0 w34 (Row kRep 42 (.slice (some ⟨gr, 0, none⟩) 1 nr) [wrep] :: Blk BC (cliA BA wc3 u1 x2t32 x3t25 x4t32) 91 :: Blk BA (askA wa3 bl) 97 :: MapT bl 6 wa3.lead :: Row k106 106 u1 wc3.call.entries :: Row k108 108 x2t32 wc3.pieces :: Row (Kd.int .i64) 3 x3t25 wc3.sweep :: Row k42 42 x4t32 wc3.out :: Row k47 47 (.slice (some ⟨gk24, 0, none⟩) 1 nt25) [askPk wa2] :: Blk g14 #[(.int .i64 1), (.slice Af 1 nf)] 45 :: Row k108 108 (.slice Af 1 nf) wpcs :: Row k47 47 (.slice (some ⟨gk10, 0, none⟩) 1 nt11) [mapPk 1 0] :: Row k106 106 (.slice (some ⟨g3, 0, none⟩) 1 1) [went] :: L)) := Aside0.mk h_; clear h_))
 have c35 : w34.cell? ⟨gr, 1, none⟩ = some (.int .i64 9) := rep_cell S33.out 0 rfl 0 (by decide) 1 rfl
 go_wp2_with (first | (go_at_call 16; (with_reducible refine (cliBusy _ 0 BC BA bl 6 wa3 wc3 u1 x2t32 x3t25 x4t32 (cli_in (L := (Row kRep 42 (.slice (some ⟨gr, 0, none⟩) 1 nr) [wrep] :: Row k47 47 (.slice (some ⟨gk24, 0, none⟩) 1 nt25) [askPk wa2] :: Blk g14 #[(.int .i64 1), (.slice Af 1 nf)] 45 :: Row k108 108 (.slice Af 1 nf) wpcs :: Row k47 47 (.slice (some ⟨gk10, 0, none⟩) 1 nt11) [mapPk 1 0] :: Row k106 106 (.slice (some ⟨g3, 0, none⟩) 1 1) [went] :: L)) ((((((((((((((S33.out).bring 12 rfl).bring 12 rfl).bring 12 rfl).bring 12 rfl).bring 12 rfl).bring 5 rfl).bring 12 rfl).bring 12 rfl).bring 12 rfl).bring 12 rfl).bring 12 rfl).bring 12 rfl).bring 12 rfl)) (by decide)).mono ?_); rintro e1 w37 ⟨rfl, hw_⟩; clear c35; have S36 := Aside0.mk (S33.out.same hw_); clear hw_))
 try go_ret
 refine HPOST.out _ _ ?_
 exact ⟨rfl, ((((((((((((((S36.out).erase 12).erase 11).erase 10).erase 9).erase 8).erase 7).erase 6).erase 5).erase 4).erase 3).erase 2).erase 1).erase 0)⟩
end Go.Proofs.Ytonedijkgddepaa.P
namespace Go.Proofs.Ytonedijkgddepaa.P
open Go.Sq
open Go.RowKit Go.Maps Go.Proofs.YtonedijkgddepaaW.PrintWords Go.Proofs.YtonedijkgddepaaW.PrintLast Go.Proofs.YtonedijkgddepaaW.PrintMore
set_option linter.unusedVariables false
set_option linter.unusedSimpArgs false
structure NumI (a : As) (M : List (Int × S38)) (last : Int) : Prop where
 num : a.num = last
 pos : 0 ≤ last
 keys : ∀ x ∈ M, 1 ≤ x.1 ∧ x.1 ≤ last
 cur : 0 < last → (last, a.cmd) ∈ M ∧ a.cmd.f2 = last ∧ a.cmd.f1 = a.id
 busy : a.busy = true → 0 < last
 data : ∀ x ∈ M, x.2.f14 = []
theorem NumI.same {a a' : As} {M : List (Int × S38)} {last : Int} (h : NumI a M last) (h1 : a'.num = a.num) (h2 : a'.cmd = a.cmd) (h3 : a'.id = a.id) (h4 : a'.busy = true → a.busy = true) : NumI a' M last :=
 ⟨h1.trans h.num, h.pos, h.keys, fun hl => by rw [h2, h3]; exact h.cur hl, fun hb => h.busy (h4 hb), h.data⟩
theorem putM_keys {β : Type} {c : Int} {y : β} {M : List (Int × β)} {P : Int → Prop} (hc : P c) (h : ∀ x ∈ M, P x.1) : ∀ x ∈ putM c y M, P x.1 := by
 intro x hx
 rcases putM_mem c y M x hx with rfl | hx
 ·exact hc
 ·exact h x hx
theorem NumI.put {a a' : As} {M : List (Int × S38)} {last last' : Int} (h : NumI a M last) (h0 : 0 < last') (hl : last ≤ last') (h1 : a'.num = last') (h2 : a'.cmd.f2 = last') (h3 : a'.cmd.f1 = a'.id) (hd : a'.cmd.f14 = []) : NumI a' (putM last' a'.cmd M) last' := by
 refine ⟨h1, by omega, ?_, fun _ => ⟨putM_in _ _ _, h2, h3⟩, fun _ => h0, ?_⟩
 ·exact putM_keys (P := fun k => 1 ≤ k ∧ k ≤ last') ⟨by omega, Int.le_refl _⟩ (fun x hx => by have := h.keys x hx; omega)
 ·intro x hx
  rcases putM_mem _ _ _ x hx with rfl | hx
  ·exact hd
  ·exact h.data x hx
theorem tick1 {a : As} {c : Cl} {q k : Nat} (hI : CInv a c q k) (hq : q + 1 < 100000) (w0 w : World) (L : List Thing) (BC BA bl : Nat) (v1 v2 v3 v4 : Value) (h : St w0 w (cliT BC BA bl q a c v1 v2 v3 v4 ++ L)) (x0 x1 x2 x3 : Int) (xc : S38) (hx : xc.f14 = []) (hl : (tickN a c).2.2 = [cmdPk x0 x1 x2 x3 xc]) :
  Calls Try.prog 9 #[.pointer (some ⟨BC, 0, none⟩)] w fun e' w' => ∃ v3 g n A10 c10 A11 c11 A30 c30 A34 c34 A35 c35 A36 c36 A38 c38 A39 c39 r, e' = .returned (.slice (some ⟨g, 0, none⟩) 1 n) ∧ St w0 w' (Blk g (pkL x0 x1 x2 x3 xc A10 c10 A11 c11 A30 c30 A34 c34 A35 c35 A36 c36 A38 c38 A39 c39 ++ r).toArray 47 :: cliT BC BA bl (q + 2) (tickN a c).1 (tickN a c).2.1 v1 v2 v3 v4 ++ L) :=
 (tickC hI hq w0 w L BC BA bl v1 v2 v3 v4 h).mono (fun e' w' hp => by
  obtain ⟨v3', A, n, rfl, h1⟩ := hp
  rw [hl] at h1 ⊢
  obtain ⟨g, rfl⟩ := h1.head 7 rfl Nat.zero_lt_one
  obtain ⟨cs, r, hK, h2⟩ := rowBlk (h1.bring 7 rfl) (by decide)
  obtain ⟨A10, c10, A11, c11, A30, c30, A34, c34, A35, c35, A36, c36, A38, c38, A39, c39, rfl, _⟩ := k47_open hK
  obtain ⟨x5, x6, x7, x8, x9, y5, y6, y7, y8, y9, y10, y11, y12, y13, y14⟩ := xc
  subst hx
  exact ⟨v3', g, n, A10, c10, A11, c11, A30, c30, A34, c34, A35, c35, A36, c36, A38, c38, A39, c39, r, rfl, h2⟩)
theorem newClientOk (w0 w : World) (L : List Thing) (h : St w0 w L) (id nodes retry : Int) (hc : confOk id nodes retry) :
  Calls Try.prog 7 #[.int .i64 id, .int .i64 nodes, .int .i64 retry] w fun e' w' => ∃ BC BA bl, e' = .returned (.tuple #[.pointer (some ⟨BC, 0, none⟩), .int .i64 0]) ∧ St w0 w' (cliT BC BA bl 0 (newAs id nodes retry) newCl (.slice none 0 0) (.slice none 0 0) (.slice none 0 0) (.slice none 0 0) ++ L) :=
 (newClientT w0 w L h id nodes retry).mono (fun e' w' hp => hp.elim (fun h => h.2) (fun h => absurd hc h.1))
section
variable {ops : Array Oper} {rest : List Oper} {o : Oper} {a : Act} {Q : Exit → Act → World → Prop} {W w0 : World} {L : List Thing}
end
end Go.Proofs.Ytonedijkgddepaa.P
namespace Go.Proofs.Ytonedijkgddepaa.P
open Go.Sq
open Go.RowKit Go.Maps Go.Proofs.YtonedijkgddepaaW.PrintWords Go.Proofs.YtonedijkgddepaaW.PrintLast Go.Proofs.YtonedijkgddepaaW.PrintMore
set_option linter.unusedVariables false
set_option linter.unusedSimpArgs false
def firstP (n : Nat) : List S108 := (List.range n).map fun i => ⟨⟨((65536 * i / n : Nat) : Int), ((65536 * (i + 1) / n : Nat) : Int)⟩, ((i + 1 : Nat) : Int)⟩
theorem six {n : Nat} (h : 1 ≤ n ∧ n ≤ 6) : n = 1 ∨ n = 2 ∨ n = 3 ∨ n = 4 ∨ n = 5 ∨ n = 6 := by omega
theorem first_f {n : Nat} (h : 1 ≤ n ∧ n ≤ 6) : ∃ k, racewayref15_First.f k (n : Int) = some (1, firstP n, 0) := by
 rcases six h with rfl | rfl | rfl | rfl | rfl | rfl
 ·exact ⟨40, by kernel_rfl⟩
 ·exact ⟨40, by kernel_rfl⟩
 ·exact ⟨40, by kernel_rfl⟩
 ·exact ⟨40, by kernel_rfl⟩
 ·exact ⟨40, by kernel_rfl⟩
 ·exact ⟨40, by kernel_rfl⟩
theorem first_may {n : Nat} (h : 1 ≤ n ∧ n ≤ 6) : C4.mayC 1 (firstP n) = true := by
 rcases six h with rfl | rfl | rfl | rfl | rfl | rfl <;> kernel_rfl
theorem first_len (n : Nat) : (firstP n).length = n := by simp [firstP]
theorem first_of {n : Nat} (h : 1 ≤ n ∧ n ≤ 6) (r : Int) : isG (C4.ofC r (firstP n)) := by
 have key : ∀ l : List S108, (∀ x ∈ l, isG x.f1) → isG (C4.ofC r l) := by
  intro l
  induction l with
  | nil => intro _; exact ⟨Int.le_refl _, by show (0 : Int) ≤ 6; omega⟩
  | cons x l ih =>
   intro hl
   unfold C4.ofC
   split
   ·exact hl x List.mem_cons_self
   ·exact ih (fun y hy => hl y (List.mem_cons_of_mem _ hy))
 refine key _ (fun x hx => ?_)
 unfold firstP at hx
 obtain ⟨i, hi, rfl⟩ := List.mem_map.1 hx
 have := List.mem_range.1 hi
 show 0 ≤ ((i + 1 : Nat) : Int) ∧ ((i + 1 : Nat) : Int) ≤ 6
 omega
def oneTo (n : Nat) : List Int := (List.range n).map fun i => ((i + 1 : Nat) : Int)
theorem first_shards {n : Nat} (h : 1 ≤ n ∧ n ≤ 6) : shardsV (firstP n) = oneTo n := by
 have e : (firstP n).map (·.f1) = oneTo n := by unfold firstP oneTo; rw [List.map_map]; rfl
 unfold shardsV
 have hp : (oneTo n).Pairwise (fun x y => decide (x ≤ y) = true) := by
  rcases six h with rfl | rfl | rfl | rfl | rfl | rfl <;> decide
 have key : Lib.compact (oneTo n) = oneTo n := by
  rcases six h with rfl | rfl | rfl | rfl | rfl | rfl
  ·exact Eq.trans (by kernel_rfl) rfl
  ·exact Eq.trans (by kernel_rfl) rfl
  ·exact Eq.trans (by kernel_rfl) rfl
  ·exact Eq.trans (by kernel_rfl) rfl
  ·exact Eq.trans (by kernel_rfl) rfl
  ·exact Eq.trans (by kernel_rfl) rfl
 rw [e, List.mergeSort_of_pairwise hp]
 exact key
theorem oneTo_len (n : Nat) : (oneTo n).length = n := by simp [oneTo]
theorem oneTo_get {n k : Nat} (h : k < n) : (oneTo n).getD k 0 = ((k + 1 : Nat) : Int) := by
 unfold oneTo
 rw [List.getD_eq_getElem?_getD, List.getElem?_map, List.getElem?_range h]
 rfl
def rep (k : Nat) : S42 := ⟨0, (k : Int), 0, [], [], []⟩
def outs (k : Nat) : List S42 := (List.range k).map fun j => rep (j + 1)
theorem outs_len (k : Nat) : (outs k).length = k := by simp [outs]
theorem outs_succ (k : Nat) : outs (k + 1) = outs k ++ [rep (k + 1)] := by unfold outs; rw [List.range_succ, List.map_append]; rfl
theorem outs_get {k j : Nat} (h : j < k) : ((outs k).getD j z42).f1 = ((j + 1 : Nat) : Int) := by
 unfold outs
 rw [List.getD_eq_getElem?_getD, List.getElem?_map, List.getElem?_range h]
 rfl
def totOf (x : Ca) (n : Nat) : Nat := if sweepsB x.kind = true then n else x.entries.length
/-- The asker, between two rounds: idle, or about to send. -/
def Ready (a : As) (k : Nat) : Prop := (a.busy = false ∧ a.num = k) ∨ (a.busy = true ∧ a.sent = false ∧ a.num = ((k + 1 : Nat) : Int) ∧ a.cmd.f1 = 7 ∧ a.cmd.f2 = ((k + 1 : Nat) : Int))
/-- Behind the chart: k steps done, asked commands sent. -/
structure EB (x : Ca) (n wl asked k : Nat) (a : As) (c : Cl) : Prop where
 wants : c.wants = false
 epoch : c.epoch = 1
 pieces : c.pieces = firstP n
 step : c.step = (k : Int)
 out : c.out = outs k
 asked1 : asked ≤ k + wl
 on : c.works = true → k < totOf x n
 off : c.works = false → k = totOf x n
 swp : sweepsB x.kind = true → (0 < k ∨ a.busy = true) → c.sweep = oneTo n
 ready : Ready a k
structure EI (x : Ca) (n wl i asked : Nat) (a : As) (c : Cl) (q : Nat) : Prop where
 inv : CInv a c q i
 id7 : a.id = 7
 q1 : q ≤ 3 * i
 st : c.started = true
 call : c.call = x
 ph : (i = 0 ∧ asked = 0 ∧ c.works = true ∧ c.wants = true ∧ a.busy = false ∧ a.num = 0 ∧ c.step = 0 ∧ c.out = [] ∧ c.epoch = 0 ∧ c.at_ = 0) ∨ (i = asked + 1 ∧ ∃ k, EB x n wl asked k a c)
theorem start_ok {x : Ca} (hx : callOk x) : startV newCl x = (0, { newCl with call := x, works := true, started := true, step := 0, sweep := [], out := [], wants := (newCl.epoch == 0) || sweepsB x.kind }) := by
 unfold startV
 rw [if_neg (by decide), if_pos hx]
theorem start_no {x : Ca} (hx : ¬ callOk x) : startV newCl x = (2, newCl) := by
 unfold startV
 rw [if_neg (by decide), if_neg hx]
theorem conf7 : confOk 7 3 2 := by unfold confOk; omega
theorem start_EI {x : Ca} (hx : callOk x) (he : ∀ y ∈ x.entries, entOk y) (n wl : Nat) : EI x n wl 0 0 (newAs 7 3 2) (startV newCl x).2 0 := by
 have hi := start_inv (new_inv conf7) x he
 rw [start_ok hx] at hi ⊢
 exact ⟨hi, rfl, Nat.le_refl _, rfl, rfl, .inl ⟨rfl, rfl, rfl, rfl, rfl, rfl, rfl, rfl, rfl, rfl⟩⟩
theorem tot_pos {x : Ca} (hx : callOk x) {n : Nat} (hn : 1 ≤ n ∧ n ≤ 6) : 0 < totOf x n ∧ totOf x n ≤ 10 := by
 unfold totOf
 rcases Bool.eq_false_or_eq_true (sweepsB x.kind) with h | h
 ·rw [if_pos h]; omega
 ·rw [if_neg (by rw [h]; decide)]
  have := hx.2.2.1 h
  omega
theorem tickA {x : Ca} {n wl asked : Nat} {a : As} {c : Cl} {q : Nat} (h : EI x n wl 0 asked a c q) : (tickN a c).1 = a ∧ (tickN a c).2.1 = { c with at_ := (c.at_ + 1).tmod a.nodes } ∧ (tickN a c).2.2 = [cmdPk 4 (-7) 0 0 z38] := by
 rcases h.ph with ⟨_, _, h1, h2, _, _, _, _, _, h3⟩ | ⟨h0, _⟩
 ·unfold tickN cliTickV
  rw [if_pos h1, if_pos h2]
  refine ⟨rfl, rfl, ?_⟩
  show [mapPk a.id c.at_] = _
  rw [h3, h.id7]
  rfl
 ·omega
/-- What the law answers: the chart, or a reply. -/
def chartPk (n : Nat) (f : Int) : S47 := ⟨5, f, -7, 0, z31, z38, z42, ⟨1, firstP n⟩, []⟩
def replyPk (f g num : Int) (client : Int) (r : S42) : S47 := ⟨3, f, -7, g, z31, ⟨0, client, num, 0, 0, ⟨#[]⟩, ⟨#[]⟩, ⟨#[]⟩, ⟨#[]⟩, 0, 0, z33, z35, 0, []⟩, r, z45, []⟩
theorem stepA {x : Ca} (hx : callOk x) {n wl asked : Nat} (hn : 1 ≤ n ∧ n ≤ 6) {a : As} {c : Cl} {q : Nat} (h : EI x n wl 0 asked a c q) (f : Int) :
  EI x n wl 1 asked (recvN (tickN a c).1 (tickN a c).2.1 (chartPk n f)).1 (recvN (tickN a c).1 (tickN a c).2.1 (chartPk n f)).2 (q + 3) := by
 obtain ⟨e1, e2, e3⟩ := tickA h
 have hq := h.q1
 have hi1 := tick_inv h.inv (by omega)
 have hi2 := recv_inv hi1 (by omega) (chartPk n f) (by show (firstP n).length ≤ 20; rw [first_len]; omega)
 rcases h.ph with ⟨_, h0, h1, h2, h3, h4, h5, h6, h7, h8⟩ | ⟨h0, _⟩
 ·have key : recvN (tickN a c).1 (tickN a c).2.1 (chartPk n f) = (a, { c with at_ := (c.at_ + 1).tmod a.nodes, epoch := 1, pieces := firstP n, wants := false }) := by
   rw [e1, e2]
   unfold recvN cliRecvV
   rw [if_pos (show ({ c with at_ := (c.at_ + 1).tmod a.nodes } : Cl).works = true from h1), if_pos (show (chartPk n f).f0 = 5 from rfl)]
   unfold learnV
   have hh : learnHit a { c with at_ := (c.at_ + 1).tmod a.nodes } (chartPk n f) (C4.mayC (chartPk n f).f7.f0 (chartPk n f).f7.f1) := ⟨by rw [h.id7]; rfl, h2, first_may hn⟩
   rw [if_pos hh, if_neg (fun h9 => by have h10 := h9.1; rw [h3] at h10; cases h10)]
   unfold newChart
   rw [if_pos (show ({ c with at_ := (c.at_ + 1).tmod a.nodes } : Cl).epoch ≤ (chartPk n f).f7.f0 by show c.epoch ≤ 1; rw [h7]; decide)]
   rfl
  rw [key] at hi2 ⊢
  refine ⟨hi2.mono (by omega) (by omega) (by omega), h.id7, by omega, h.st, h.call, .inr ⟨by omega, 0, ⟨rfl, rfl, rfl, h5, h6, by omega, fun _ => (tot_pos hx hn).1, fun hw => ?_, fun _ hb => ?_, .inl ⟨h3, h4⟩⟩⟩⟩
  ·have hw' : c.works = false := hw
   rw [h1] at hw'
   cases hw'
  ·rcases hb with hb | hb
   ·omega
   ·rw [h3] at hb
    cases hb
 ·omega
/-- A round behind the chart: what is sent. -/
theorem tickB {x : Ca} (hx : callOk x) {n wl i asked k : Nat} (hn : 1 ≤ n ∧ n ≤ 6) {a : As} {c : Cl} {q : Nat} (h : EI x n wl i asked a c q) (hb : EB x n wl asked k a c) (hw : c.works = true) (hi : i ≤ 100) :
  ∃ tg g xc, xc.f14 = [] ∧ (tickN a c).2.2 = [cmdPk 2 (-7) tg g xc] ∧ xc.f1 = 7 ∧ xc.f2 = ((k + 1 : Nat) : Int) ∧
   (tickN a c).1.busy = true ∧ (tickN a c).1.id = 7 ∧ (tickN a c).1.num = ((k + 1 : Nat) : Int) ∧ (tickN a c).1.group = g ∧ (tickN a c).1.cmd = xc ∧
   (∃ sw, (tickN a c).2.1 = { c with sweep := sw } ∧ (sweepsB x.kind = true → sw = oneTo n)) := by
 have hq := h.q1
 have hst := hb.step
 unfold tickN cliTickV
 rw [if_pos hw, if_neg (show ¬ c.wants = true by rw [hb.wants]; decide)]
 rcases hb.ready with ⟨r1, r2⟩ | ⟨r1, r2, r3, r4, r5⟩
 ·rw [if_neg (show ¬ a.busy = true by rw [r1]; decide)]
  have hask : ∃ g0 y, isG g0 ∧ y.f14 = [] ∧ nextA a c = askedV a g0 y := by
   unfold nextA
   rcases Bool.eq_false_or_eq_true (sweepsB c.call.kind) with hs | hs
   ·rw [if_pos hs]
    have hsx : sweepsB x.kind = true := by rw [← h.call]; exact hs
    have hk : k < n := by have h1 := hb.on hw; unfold totOf at h1; rw [if_pos hsx] at h1; exact h1
    have hsw : swOf c = oneTo n := by
     unfold swOf
     by_cases h0 : c.step = 0
     ·rw [if_pos h0, hb.pieces, first_shards hn]
     ·rw [if_neg h0]
      exact hb.swp hsx (.inl (by omega))
    rw [hsw, hst, Int.toNat_natCast, oneTo_get hk]
    have hg : isG (((k + 1 : Nat) : Int)) := ⟨by omega, by omega⟩
    refine ⟨((k + 1 : Nat) : Int), cmdS c.call, hg, rfl, ?_⟩
    unfold askV
    rw [if_neg (by rw [r1]; decide), if_pos hg]
   ·rw [if_neg (by rw [hs]; decide), hb.pieces]
    have hg := first_of hn (rplc c)
    refine ⟨C4.ofC (rplc c) (firstP n), cmdV c.call (c.call.entries.getD c.step.toNat z106), hg, rfl, ?_⟩
    unfold askV
    rw [if_neg (by rw [r1]; decide), if_pos hg]
  obtain ⟨g0, y, hg, hy, he⟩ := hask
  have ht : tickV (nextA a c) = (sendV (askedV a g0 y), [askPk (sendV (askedV a g0 y))]) := by
   rw [he]
   unfold tickV
   rw [if_pos (show (askedV a g0 y).busy = true from rfl), if_neg (show ¬ (askedV a g0 y).sent = true by show ¬ false = true; decide)]
  rw [ht]
  refine ⟨getG 0 g0 a.lead, g0, { y with f1 := a.id, f2 := a.num + 1 }, hy, ?_, h.id7, by show a.num + 1 = _; rw [r2]; omega, rfl, h.id7, by show a.num + 1 = _; rw [r2]; omega, rfl, rfl, ?_⟩
  ·show [askPk (sendV (askedV a g0 y))] = _
   unfold askPk cmdPk
   rw [← h.id7]
   rfl
  ·unfold nextC
   rcases Bool.eq_false_or_eq_true (sweepsB c.call.kind) with hs | hs
   ·rw [if_pos hs]
    have hsx : sweepsB x.kind = true := by rw [← h.call]; exact hs
    refine ⟨swOf c, rfl, fun _ => ?_⟩
    unfold swOf
    by_cases h0 : c.step = 0
    ·rw [if_pos h0, hb.pieces, first_shards hn]
    ·rw [if_neg h0]
     exact hb.swp hsx (.inl (by omega))
   ·rw [if_neg (by rw [hs]; decide)]
    exact ⟨c.sweep, rfl, fun h1 => by rw [← h.call, hs] at h1; cases h1⟩
 ·rw [if_pos r1]
  have ht : tickV a = (sendV a, [askPk (sendV a)]) := by
   unfold tickV
   rw [if_pos r1, if_neg (by rw [r2]; decide)]
  rw [ht]
  refine ⟨getG 0 a.group a.lead, a.group, a.cmd, h.inv.ok.data0, ?_, r4, r5, r1, h.id7, r3, rfl, rfl, c.sweep, rfl, fun hs => hb.swp hs (.inr r1)⟩
  show [askPk (sendV a)] = _
  unfold askPk cmdPk
  rw [← h.id7]
  rfl
theorem hit7 {a : As} {f g num : Int} {r : S42} (h1 : a.busy = true) (h2 : a.id = 7) (h3 : a.num = num) (h4 : a.group = g) : hit a (replyPk f g num 7 r) := by
 refine ⟨h1, rfl, ?_, h4.symm, h2.symm, h3.symm⟩
 rw [h2]; rfl
/-- A round behind the chart that is answered. -/
theorem stepB {x : Ca} (hx : callOk x) {n wl i asked k : Nat} (hn : 1 ≤ n ∧ n ≤ 6) {a : As} {c : Cl} {q : Nat} (h : EI x n wl i asked a c q) (hia : i = asked + 1) (hb : EB x n wl asked k a c) (hw : c.works = true) (hi : i ≤ 100) (f : Int) :
  EI x n wl (i + 1) (asked + 1) (recvN (tickN a c).1 (tickN a c).2.1 (replyPk f (tickN a c).1.group ((k + 1 : Nat) : Int) 7 (rep (k + 1)))).1 (recvN (tickN a c).1 (tickN a c).2.1 (replyPk f (tickN a c).1.group ((k + 1 : Nat) : Int) 7 (rep (k + 1)))).2 (q + 3) := by
 obtain ⟨tg, g, xc, d1, d2, d3, d4, d5, d6, d7, d8, d9, sw, d10, d11⟩ := tickB hx hn h hb hw hi
 have hq := h.q1
 have hi1 := tick_inv h.inv (by omega)
 have hi2 := recv_inv hi1 (by omega) (replyPk f (tickN a c).1.group ((k + 1 : Nat) : Int) 7 (rep (k + 1))) (by show 0 ≤ 20; omega)
 have key : recvN (tickN a c).1 (tickN a c).2.1 (replyPk f (tickN a c).1.group ((k + 1 : Nat) : Int) 7 (rep (k + 1))) = ({ (tickN a c).1 with busy := false }, doneV (tickN a c).2.1 (rep (k + 1))) := by
  unfold recvN cliRecvV
  have hr : recvV (tickN a c).1 (replyPk f (tickN a c).1.group ((k + 1 : Nat) : Int) 7 (rep (k + 1))) = ({ (tickN a c).1 with busy := false }, rep (k + 1), true) := by
   unfold recvV
   rw [if_pos (hit7 d5 d6 d7 rfl), if_neg (show ¬ (replyPk f (tickN a c).1.group ((k + 1 : Nat) : Int) 7 (rep (k + 1))).f6.f0 = 15 by show ¬ (0 : Int) = 15; decide)]
   rfl
  rw [if_pos (show (tickN a c).2.1.works = true by rw [d10]; exact hw), if_neg (show ¬ (replyPk f (tickN a c).1.group ((k + 1 : Nat) : Int) 7 (rep (k + 1))).f0 = 5 by show ¬ (3 : Int) = 5; decide), hr]
  rw [if_pos rfl, if_neg (show ¬ ((rep (k + 1)).f0 = 14 ∧ _) from fun h => absurd h.1 (by show ¬ (0 : Int) = 14; decide))]
 rw [key] at hi2 ⊢
 have hs10 : (doneV (tickN a c).2.1 (rep (k + 1))) = { c with sweep := sw, out := c.out ++ [rep (k + 1)], step := c.step + 1, works := if c.step + 1 = (if sweepsB c.call.kind = true then (sw.length : Int) else (c.call.entries.length : Int)) ∨ (c.call.kind = 2 ∧ 0 < (rep (k + 1)).f3.length) then false else c.works } := by
  rw [d10]; rfl
 rw [hs10] at hi2 ⊢
 have htot : (if sweepsB c.call.kind = true then (sw.length : Int) else (c.call.entries.length : Int)) = (totOf x n : Int) := by
  rw [h.call]
  unfold totOf
  rcases Bool.eq_false_or_eq_true (sweepsB x.kind) with hs | hs
  ·rw [if_pos hs, if_pos hs, d11 hs, oneTo_len]
  ·rw [if_neg (by rw [hs]; decide), if_neg (by rw [hs]; decide)]
 have hkt := hb.on hw
 have hst := hb.step
 have hwk : (if c.step + 1 = (if sweepsB c.call.kind = true then (sw.length : Int) else (c.call.entries.length : Int)) ∨ (c.call.kind = 2 ∧ 0 < (rep (k + 1)).f3.length) then false else c.works) = decide (k + 1 < totOf x n) := by
  rw [htot]
  by_cases h1 : k + 1 = totOf x n
  ·rw [if_pos (.inl (by omega)), decide_eq_false (by omega)]
  ·rw [if_neg (by rintro (h2 | h2); omega; exact absurd h2.2 (Nat.lt_irrefl 0)), decide_eq_true (by omega)]
   exact hw
 rw [hwk] at hi2 ⊢
 refine ⟨hi2.mono (by omega) (by omega) (by omega), d6, by omega, h.st, h.call, .inr ⟨by omega, k + 1, ⟨hb.wants, hb.epoch, hb.pieces, by show c.step + 1 = _; rw [hst]; omega, by show c.out ++ _ = _; rw [hb.out, outs_succ], by have := hb.asked1; omega, fun h1 => of_decide_eq_true h1, fun h1 => by have := of_decide_eq_false h1; omega, fun hs _ => d11 hs, .inl ⟨rfl, d7⟩⟩⟩⟩
/-- .. or told another node: one of the wrong ones. -/
theorem stepC {x : Ca} (hx : callOk x) {n wl i asked k : Nat} (hn : 1 ≤ n ∧ n ≤ 6) {a : As} {c : Cl} {q : Nat} (h : EI x n wl i asked a c q) (hia : i = asked + 1) (hb : EB x n wl asked k a c) (hw : c.works = true) (hi : i ≤ 100) (f N : Int) (hwl : asked < wl) :
  EI x n wl (i + 1) (asked + 1) (recvN (tickN a c).1 (tickN a c).2.1 (replyPk f (tickN a c).1.group ((k + 1 : Nat) : Int) 7 ⟨15, 0, N, [], [], []⟩)).1 (recvN (tickN a c).1 (tickN a c).2.1 (replyPk f (tickN a c).1.group ((k + 1 : Nat) : Int) 7 ⟨15, 0, N, [], [], []⟩)).2 (q + 3) := by
 obtain ⟨tg, g, xc, d1, d2, d3, d4, d5, d6, d7, d8, d9, sw, d10, d11⟩ := tickB hx hn h hb hw hi
 have hq := h.q1
 have hi1 := tick_inv h.inv (by omega)
 have hi2 := recv_inv hi1 (by omega) (replyPk f (tickN a c).1.group ((k + 1 : Nat) : Int) 7 ⟨15, 0, N, [], [], []⟩) (by show 0 ≤ 20; omega)
 have key : recvN (tickN a c).1 (tickN a c).2.1 (replyPk f (tickN a c).1.group ((k + 1 : Nat) : Int) 7 ⟨15, 0, N, [], [], []⟩) = (leadV (tickN a c).1 N, (tickN a c).2.1) := by
  unfold recvN cliRecvV
  have hr : recvV (tickN a c).1 (replyPk f (tickN a c).1.group ((k + 1 : Nat) : Int) 7 ⟨15, 0, N, [], [], []⟩) = (leadV (tickN a c).1 N, z42, false) := by
   unfold recvV
   rw [if_pos (hit7 d5 d6 d7 rfl), if_pos (show (replyPk f (tickN a c).1.group ((k + 1 : Nat) : Int) 7 ⟨15, 0, N, [], [], []⟩).f6.f0 = 15 from rfl)]
   rfl
  rw [if_pos (show (tickN a c).2.1.works = true by rw [d10]; exact hw), if_neg (show ¬ (replyPk f (tickN a c).1.group ((k + 1 : Nat) : Int) 7 ⟨15, 0, N, [], [], []⟩).f0 = 5 by show ¬ (3 : Int) = 5; decide), hr]
  rw [if_neg (show ¬ false = true by decide)]
 rw [key] at hi2 ⊢
 have hl := leadV_same (tickN a c).1 N
 have hls : (leadV (tickN a c).1 N).sent = false := by
  unfold leadV
  split <;> rfl
 rw [d10] at hi2 ⊢
 refine ⟨hi2.mono (by omega) (by omega) (by omega), hl.2.2.2.2.trans d6, by omega, h.st, h.call, .inr ⟨by omega, k, ⟨hb.wants, hb.epoch, hb.pieces, hb.step, hb.out, by omega, hb.on, hb.off, fun hs _ => d11 hs, .inr ⟨hl.1.trans d5, hls, hl.2.2.1.trans d7, by rw [hl.2.2.2.1, d9]; exact d3, by rw [hl.2.2.2.1, d9]; exact d4⟩⟩⟩⟩
end Go.Proofs.Ytonedijkgddepaa.P
namespace Go.Proofs.Ytonedijkgddepaa.Opens
open Go.Sq
open Go.Proofs.YtonedijkgddepaaW.PrintWords

/-- What is read at type t is told by the kind K, and is good (G). -/
def Opens {α : Type} (P : Program) (K : Kd α) (t : TypeId) (G : α → Prop) : Prop :=
 ∀ (H : Type) (enc : TypeId × Value → H) (w : World) (held : Bool) (fuel : Nat) (cs : List Value) (d : DataW H) (ps : List MemPlace),
  DataW.trod enc P w 0 (fun _ => true) held fuel t cs = some (d, ps) → (∀ n ∈ d.weights P t, n ≤ reachBytes) → ∃ x : α, K.K w x cs ∧ G x

theorem Opens.int {P : Program} {t : TypeId} {k : IntKind} (ht : P.underlying t = some (.int k)) : Opens P (Kd.int k) t (fun x => (Lit.int k x).wf = true) := by
 intro H enc w held fuel cs d ps h _
 obtain ⟨n, rfl, _, hwf⟩ := DataW.trod_int ht h
 exact ⟨n, rfl, hwf⟩

theorem Opens.bool {P : Program} {t : TypeId} (ht : P.underlying t = some .bool) : Opens P Kd.bool t (fun _ => True) := by
 intro H enc w held fuel cs d ps h _
 obtain ⟨n, rfl, _⟩ := DataW.trod_bool ht h
 exact ⟨n, rfl, trivial⟩

theorem Opens.string {P : Program} {t : TypeId} (ht : P.underlying t = some .string) : Opens P Kd.string t (fun s => s.size ≤ 140737488351232) := by
 intro H enc w held fuel cs d ps h hw
 obtain ⟨s, rfl, hx, _⟩ := DataW.trod_string ht h
 obtain ⟨rfl, rfl⟩ := Prod.mk.inj hx
 refine ⟨s, rfl, ?_⟩
 have := hw s.data.toList.length (by simp [DataW.weights])
 simpa [reachBytes] using this

theorem list_of {α : Type} {p : Nat → α → Prop} (n : Nat) (h : ∀ i, i < n → ∃ x, p i x) : ∃ xs : List α, xs.length = n ∧ ∀ (j : Nat) (x : α), xs[j]? = some x → p j x := by
 induction n with
 | zero => exact ⟨[], rfl, fun j x hj => by simp at hj⟩
 | succ n ih =>
  obtain ⟨xs, hl, hx⟩ := ih (fun i hi => h i (Nat.lt_succ_of_lt hi))
  obtain ⟨y, hy⟩ := h n (Nat.lt_succ_self n)
  refine ⟨xs ++ [y], by simp [hl], fun j x hj => ?_⟩
  rcases Nat.lt_trichotomy j n with hlt | heq | hgt
  ·rw [List.getElem?_append_left (by omega)] at hj
   exact hx j x hj
  ·subst heq
   rw [← hl, List.getElem?_concat_length] at hj
   cases hj
   exact hy
  ·rw [List.getElem?_eq_none (by simp; omega)] at hj
   cases hj

theorem cells_get {w : World} {base : Nat} {a : Addr} {n : Nat} {cs : List Value} (h : w.cells? base a n = some cs) : cs.length = n ∧ ∀ i u, cs[i]? = some u → w.cell? (a.add i) = some u := by
 obtain ⟨_, hl, hg⟩ := World.cells?_some h
 refine ⟨hl, fun i u hu => ?_⟩
 have hi : i < n := by
  have := (List.getElem?_eq_some_iff.1 hu).1
  omega
 rw [hg i hi]
 exact hu

theorem weights_mem_all {H : Type} {P : Program} {e : TypeId} (l : List (DataW H)) (d : DataW H) (hd : d ∈ l) : ∀ n ∈ d.weights P e, n ∈ DataW.weightsAll P e l := by
 induction l with
 | nil => cases hd
 | cons x xs ih =>
  intro n hn
  simp only [DataW.weightsAll, List.mem_append]
  rcases List.mem_cons.1 hd with rfl | hd
  ·exact .inl hn
  ·exact .inr (ih hd n hn)

theorem Opens.slice {α : Type} {P : Program} {K : Kd α} {t e : TypeId} {b : Nat} {G : α → Prop} (hE : Opens P K e G) (ht : P.underlying t = some (.slice e)) (hc : P.cellsOf e = K.sz) (hb : P.bytesOf e = b) :
  Opens P (Kd.slice e K) t (fun l => l.length * b ≤ 140737488351232 ∧ l.length ≤ maxLen ∧ ∀ x ∈ l, G x) := by
 intro H enc w held fuel cs d ps h hw
 rcases Go.Deep.open_slice ht h with ⟨rfl, hx⟩ | ⟨a, len, cap, m, n, D, Pl, rfl, _, hl, hm, hmm, hx, hall⟩
 ·exact ⟨[], ⟨none, 0, rfl, Nat.le_refl _, rfl, by simp, fun h0 => absurd h0 (by simp)⟩, by simp [maxLen]⟩
 ·simp only [if_true] at hmm
  subst hmm
  obtain ⟨rfl, rfl⟩ := Prod.mk.inj hx
  have hw0 := hw ((((List.range len).map D).length + ((List.range (m - len)).map fun j => D (len + j)).length) * P.bytesOf e) (by simp [DataW.weights, ht])
  simp only [List.length_map, List.length_range, hb, reachBytes] at hw0
  have hin : ∀ i, i < len → ∀ k ∈ (D i).weights P e, k ≤ reachBytes := by
   intro i hi k hk
   refine hw k ?_
   simp only [DataW.weights, ht, List.mem_cons, List.mem_append]
   exact .inr (.inl (weights_mem_all _ (D i) (List.mem_map.2 ⟨i, by simpa using hi, rfl⟩) k hk))
  have hex : ∀ i, i < len → ∃ x : α, (∃ c, c.length = K.sz ∧ K.K w x c ∧ ∀ j u, c[j]? = some u → w.cell? (a.add (i * K.sz + j)) = some u) ∧ G x := by
   intro i hi
   obtain ⟨cs', h1, h2⟩ := hall i (by omega)
   rw [hc] at h1
   obtain ⟨x, hk, hg⟩ := hE H enc w held n cs' (D i) (Pl i) h2 (hin i hi)
   obtain ⟨g1, g2⟩ := cells_get h1
   exact ⟨x, ⟨cs', g1, hk, fun j u hu => by rw [← Go.Deep.add_add]; exact g2 j u hu⟩, hg⟩
  obtain ⟨xs, hlen, hxs⟩ := list_of len hex
  subst hlen
  have hmul : xs.length * b ≤ 140737488351232 := by
   refine Nat.le_trans (Nat.mul_le_mul_right b (show xs.length ≤ xs.length + (m - xs.length) by omega)) ?_
   simpa using hw0
  refine ⟨xs, ⟨some a, m, rfl, hl, rfl, ?_, fun _ => ⟨a, rfl, fun j p hj => (hxs j p hj).1⟩⟩, hmul, by omega, fun x hx => ?_⟩
  ·unfold maxLen at hm
   omega
  ·obtain ⟨j, hj⟩ := List.getElem?_of_mem hx
   exact (hxs j x hj).2

/-! structs: their fields, one behind the other -/
def Segs {H : Type} (enc : TypeId × Value → H) (P : Program) (w : World) (held : Bool) (fuel : Nat) : List TypeId → List Value → List (DataW H) → Prop
 | [], cs, ds => cs = [] ∧ ds = []
 | t :: ts, cs, ds => ∃ c0 c1 d p ds', cs = c0 ++ c1 ∧ ds = d :: ds' ∧ DataW.trod enc P w 0 (fun _ => true) held fuel t c0 = some (d, p) ∧ Segs enc P w held fuel ts c1 ds'

def OpensS {α : Type} (P : Program) (K : Kd α) (ts : List TypeId) (G : α → Prop) : Prop :=
 ∀ (H : Type) (enc : TypeId × Value → H) (w : World) (held : Bool) (fuel : Nat) (cs : List Value) (ds : List (DataW H)),
  Segs enc P w held fuel ts cs ds → (∀ n ∈ DataW.weightsEach P ts ds, n ≤ reachBytes) → ∃ x : α, K.K w x cs ∧ G x

theorem OpensS.one {α : Type} {P : Program} {K : Kd α} {t : TypeId} {G : α → Prop} (h : Opens P K t G) : OpensS P K [t] G := by
 intro H enc w held fuel cs ds hs hw
 obtain ⟨c0, c1, d, p, ds', rfl, rfl, h0, rfl, rfl⟩ := hs
 rw [List.append_nil]
 exact h H enc w held fuel c0 d p h0 (fun n hn => hw n (by simp [DataW.weightsEach, hn]))

theorem OpensS.cons {α β : Type} {P : Program} {K : Kd α} {L : Kd β} {t : TypeId} {ts : List TypeId} {G : α → Prop} {G' : β → Prop} (h : Opens P K t G) (hs : OpensS P L ts G') :
  OpensS P (Kd.pair K L) (t :: ts) (fun x => G x.1 ∧ G' x.2) := by
 intro H enc w held fuel cs ds hg hw
 obtain ⟨c0, c1, d, p, ds', rfl, rfl, h0, h1⟩ := hg
 obtain ⟨x, hx, gx⟩ := h H enc w held fuel c0 d p h0 (fun n hn => hw n (by simp [DataW.weightsEach, hn]))
 obtain ⟨y, hy, gy⟩ := hs H enc w held fuel c1 ds' h1 (fun n hn => hw n (by simp [DataW.weightsEach, hn]))
 exact ⟨(x, y), ⟨c0, c1, rfl, hx, hy⟩, gx, gy⟩

/-- The fields lie one behind the other, from o on. -/
def offs (P : Program) : Nat → List Field → Bool
 | _, [] => true
 | o, f :: fs => f.offset == o && offs P (o + P.cellsOf f.type) fs
def sum (P : Program) : List Field → Nat
 | [] => 0
 | f :: fs => P.cellsOf f.type + sum P fs

theorem segs_of {H : Type} {enc : TypeId × Value → H} {P : Program} {w : World} {held : Bool} {fuel : Nat} {cs : List Value} :
  ∀ (fs : List Field) (o : Nat) (xs : List (DataW H × List MemPlace)), offs P o fs = true → (cs.drop o).length = sum P fs → xs.length = fs.length →
  (∀ (i : Nat) (f : Field), fs[i]? = some f → DataW.trod enc P w 0 (fun _ => true) held fuel f.type ((cs.drop f.offset).take (P.cellsOf f.type)) = xs[i]?) →
  Segs enc P w held fuel (fs.map (·.type)) (cs.drop o) (xs.map (·.1)) := by
 intro fs
 induction fs with
 | nil =>
  intro o xs _ hl hx _
  refine ⟨?_, ?_⟩
  ·exact List.eq_nil_of_length_eq_zero hl
  ·have : xs = [] := List.eq_nil_of_length_eq_zero hx
   rw [this]
   rfl
 | cons f fs ih =>
  intro o xs ho hl hx hall
  simp only [offs, Bool.and_eq_true, beq_iff_eq] at ho
  obtain ⟨rfl, ho⟩ := ho
  match xs, hx with
  | [], hx => simp at hx
  | (d, p) :: xs, hx =>
   have h0 := hall 0 f rfl
   simp only [sum] at hl
   refine ⟨(cs.drop f.offset).take (P.cellsOf f.type), cs.drop (f.offset + P.cellsOf f.type), d, p, xs.map (·.1), ?_, rfl, h0, ?_⟩
   ·rw [← List.drop_drop, List.take_append_drop]
   ·refine ih (f.offset + P.cellsOf f.type) xs ho ?_ (by simpa using hx) (fun i f' hf => ?_)
    ·simp only [List.length_drop] at hl ⊢
     omega
    ·exact hall (i + 1) f' (by simpa using hf)

theorem Opens.struct {α β : Type} {P : Program} {K : Kd α} {t : TypeId} {ts : List TypeId} {fs : Array Field} {G : α → Prop} (h : OpensS P K ts G) (ht : P.underlying t = some (.struct fs)) (hts : fs.toList.map (·.type) = ts) (ho : offs P 0 fs.toList = true) (hn : P.cellsOf t = sum P fs.toList)
  (f : β → α) (g : α → β) (hfg : ∀ x, f (g x) = x) : Opens P (Kd.iso K f) t (fun y => G (f y)) := by
 intro H enc w held fuel cs d ps hd hw
 obtain ⟨xs, n, rfl, hx, hl, hlen, hall⟩ := DataW.trod_struct ht hd
 obtain ⟨rfl, rfl⟩ := Prod.mk.inj hx
 have hs := segs_of (enc := enc) (P := P) (w := w) (held := held) (fuel := n) (cs := cs) fs.toList 0 xs ho (by simpa [hn] using hl) (by simpa using hlen) (fun i f hf => hall i f (by simpa using hf))
 rw [hts, List.drop_zero] at hs
 obtain ⟨x, hk, gx⟩ := h H enc w held n cs _ hs (fun k hk => hw k (by simp only [DataW.weights, ht, hts]; exact hk))
 refine ⟨g x, ?_, ?_⟩
 ·show K.K w (f (g x)) cs
  rw [hfg]
  exact hk
 ·show G (f (g x))
  rw [hfg]
  exact gx
/-- A good thing said otherwise. -/
theorem Opens.imp {α : Type} {P : Program} {K : Kd α} {t : TypeId} {G G' : α → Prop} (h : Opens P K t G) (hG : ∀ x, G x → G' x) : Opens P K t G' := by
 intro H enc w held fuel cs d ps hd hw
 obtain ⟨x, hk, hg⟩ := h H enc w held fuel cs d ps hd hw
 exact ⟨x, hk, hG x hg⟩
end Go.Proofs.Ytonedijkgddepaa.Opens
namespace Go.Proofs.Ytonedijkgddepaa.P
open Go.Sq
open Go.RowKit Go.Proofs.YtonedijkgddepaaW.PrintWords Go.Proofs.YtonedijkgddepaaW.PrintLast
open Go.Proofs.Ytonedijkgddepaa.Opens
set_option linter.unusedVariables false
def G33 (x : S33) : Prop := ((Lit.int .i64 x.f0).wf = true) ∧ (x.f1.size ≤ 140737488351232) ∧ ((Lit.int .i64 x.f2).wf = true) ∧ ((Lit.int .i64 x.f3).wf = true)
theorem opens33 : Opens Try.prog k33 33 G33 :=
 Opens.struct (t := 33) (K := _) (OpensS.cons (Opens.int Try.underlying3) (OpensS.cons (Opens.string Try.underlying9) (OpensS.cons (Opens.int Try.underlying3) (OpensS.one (Opens.int Try.underlying3))))) Try.underlying33 (by kernel_rfl) (by kernel_rfl) (by kernel_rfl) (fun x : S33 => (x.f0, x.f1, x.f2, x.f3)) (fun p => ⟨p.1, p.2.1, p.2.2.1, p.2.2.2⟩) (fun _ => rfl)
def G106 (x : S106) : Prop := (x.f0.size ≤ 140737488351232) ∧ (x.f1.size ≤ 140737488351232) ∧ (x.f2.size ≤ 140737488351232) ∧ (G33 x.f3)
theorem opens106 : Opens Try.prog k106 106 G106 :=
 Opens.struct (t := 106) (K := _) (OpensS.cons (Opens.string Try.underlying9) (OpensS.cons (Opens.string Try.underlying9) (OpensS.cons (Opens.string Try.underlying9) (OpensS.one opens33)))) Try.underlying106 (by kernel_rfl) (by kernel_rfl) (by kernel_rfl) (fun x : S106 => (x.f0, x.f1, x.f2, x.f3)) (fun p => ⟨p.1, p.2.1, p.2.2.1, p.2.2.2⟩) (fun _ => rfl)
def G50 (x : S50) : Prop := ((Lit.int .i64 x.f0).wf = true) ∧ ((Lit.int .i64 x.f1).wf = true) ∧ ((Lit.int .i64 x.f2).wf = true) ∧ ((Lit.int .i64 x.f3).wf = true) ∧ (x.f4.size ≤ 140737488351232) ∧ (x.f5.length * Try.prog.bytesOf 106 ≤ 140737488351232 ∧ x.f5.length ≤ maxLen ∧ ∀ y_ ∈ x.f5, G106 y_)
theorem opens50 : Opens Try.prog k50 50 G50 :=
 Opens.struct (t := 50) (K := _) (OpensS.cons (Opens.int Try.underlying3) (OpensS.cons (Opens.int Try.underlying3) (OpensS.cons (Opens.int Try.underlying3) (OpensS.cons (Opens.int Try.underlying3) (OpensS.cons (Opens.string Try.underlying9) (OpensS.one (Opens.slice (b := Try.prog.bytesOf 106) opens106 Try.underlying48 (by kernel_rfl) rfl))))))) Try.underlying50 (by kernel_rfl) (by kernel_rfl) (by kernel_rfl) (fun x : S50 => (x.f0, x.f1, x.f2, x.f3, x.f4, x.f5)) (fun p => ⟨p.1, p.2.1, p.2.2.1, p.2.2.2.1, p.2.2.2.2.1, p.2.2.2.2.2⟩) (fun _ => rfl)
end Go.Proofs.Ytonedijkgddepaa.P
namespace Go.Proofs.Ytonedijkgddepaa.P
open Go.Sq
open Go.RowKit Go.Maps Go.Proofs.YtonedijkgddepaaW.PrintWords Go.Proofs.YtonedijkgddepaaW.PrintLast Go.Proofs.YtonedijkgddepaaW.PrintMore
set_option linter.unusedVariables false
set_option linter.unusedSimpArgs false
theorem nheap33 : Kd.Heap k33 := Kd.heap_iso _ (Kd.heap_pair (Kd.heap_int _) (Kd.heap_pair Kd.heap_string (Kd.heap_pair (Kd.heap_int _) (Kd.heap_int _))))
theorem nheap106 : Kd.Heap k106 := Kd.heap_iso _ (Kd.heap_pair Kd.heap_string (Kd.heap_pair Kd.heap_string (Kd.heap_pair Kd.heap_string nheap33)))
theorem Mem.oldN {w w0 : World} {L : List Thing} (h : Mem w L) (n : Nat) (hx : L[n]? = some (Old w0)) : ∀ k, k < w0.heap.size → w.heap[k]? = w0.heap[k]? := by
 obtain ⟨S, hs⟩ := h
 obtain ⟨_, _, h1, _⟩ := hs.perm (perm_bring L n _ hx)
 exact h1.2.2
def callOf (y : S50) : Ca := ⟨y.f0, y.f1, y.f2, y.f3, y.f4, y.f5.take 12⟩
theorem fewer_f (y : S50) (hl : y.f5.length ≤ 2000000000000) : racewaylaw18_fewer.f y.f0 y.f1 y.f2 y.f3 y.f4 y.f5 = some (y.f0, y.f1, y.f2, y.f3, y.f4, y.f5.take 12) := by
 unfold racewaylaw18_fewer.f
 have h0 : 0 ≤ mn (y.f5.length : Int) 12 := by unfold mn; split <;> omega
 have h1 : mn (y.f5.length : Int) 12 ≤ (y.f5.length : Int) := by unfold mn; split <;> omega
 have h2 : y.f5.take (mn (y.f5.length : Int) 12).toNat = y.f5.take 12 := by
  unfold mn
  split
  ·rfl
  ·rw [Int.toNat_natCast, List.take_of_length_le (Nat.le_refl _), List.take_of_length_le (by omega)]
 simp only [Option.bind_some, if_pos h0, if_pos h1, h2]
 rw [if_pos (by rw [List.length_nil, List.length_take]; omega)]
 rfl
theorem wpl_ {P : Program} {ops : Array Oper} {rest : List Oper} {a : Act} {Q : Exit → Act → World → Prop} {W : World} (h : wpList P ops Q rest a W) : wpList P ops Q rest a W := h
theorem fewerC (w0 w : World) (L : List Thing) (h : St w0 w L) (y : S50) (A : Option Addr) (n : Nat) (hr : Kd.C k106 w A y.f5.length y.f5) (hn : y.f5.length ≤ n) (hl : y.f5.length ≤ 2000000000000) :
  Calls Try.prog 13 #[.agg #[.int .i64 y.f0, .int .i64 y.f1, .int .i64 y.f2, .int .i64 y.f3, .string y.f4, .slice A y.f5.length n]] w fun e' w' => ∃ A' n', e' = .returned (.agg (callA (callOf y) (.slice A' (callOf y).entries.length n'))) ∧ St w0 w' (Row k106 106 (.slice A' (callOf y).entries.length n') (callOf y).entries :: L) :=
 (racewaylaw18_fewer.calls y.f0 y.f1 y.f2 y.f3 y.f4 A n y.f5 _ _ _ _ _ _ w hr hn (fewer_f y hl)).mono (fun e' w' hp => by
  obtain ⟨v, rfl, hR, hb⟩ := hp
  obtain ⟨A', n', rfl⟩ := Kd.R_slice hR
  exact ⟨A', n', rfl, h.newRow hb hR⟩)
theorem startC {a : As} {c : Cl} {q k : Nat} (hI : CInv a c q k) (w0 w : World) (L : List Thing) (BC BA bl : Nat) (v1 v2 v3 v4 : Value) (h : St w0 w (cliT BC BA bl q a c v1 v2 v3 v4 ++ L)) (x : Ca) (A : Option Addr) (n : Nat) (hn : x.entries.length ≤ n) (hr : ∀ W, Mem W L → Kd.C k106 W A x.entries.length x.entries) (hl : x.entries.length ≤ 12) :
  Calls Try.prog 12 #[.pointer (some ⟨BC, 0, none⟩), .agg (callA x (.slice A x.entries.length n))] w fun e' w' => ∃ v1 v3 v4, e' = .returned (.int .i64 (startV c x).1) ∧ St w0 w' (cliT BC BA bl q a (startV c x).2 v1 v2 v3 v4 ++ L) :=
 cliStartT w0 w L BC BA bl q a c v1 v2 v3 v4 h (by have := hI.ok.id1; omega) x A n hn hr (by omega)
theorem call_len (y : S50) : (callOf y).entries.length ≤ 12 := by
 show (y.f5.take 12).length ≤ 12
 rw [List.length_take]; omega
end Go.Proofs.Ytonedijkgddepaa.P
