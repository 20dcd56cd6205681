/- front's things, more: what a row's element holds; 'next' over things. No conditions. -/
import Derived.Test.YtonedijkgddepaaGT
import Derived.Test.YtonedijkgddepaaP22
namespace Go.Proofs.Ytonedijkgddepaa.P
open Go.RowKit Go.Maps Go.Proofs.YtonedijkgddepaaW.PrintWords Go.Proofs.YtonedijkgddepaaW.PrintLast Go.Proofs.YtonedijkgddepaaW.PrintMore
set_option linter.unusedVariables false
set_option linter.unusedSimpArgs false

theorem St.elem {w0 w : World} {L : List Thing} (h : St w0 w L) (n : Nat) {α : Type} {d : Kd α} {e m c g : Nat} {xs : List α} (hx : L[n]? = some (Row d e (.slice (some ⟨g, 0, none⟩) m c) xs)) (i : Nat) (hi : i < xs.length) (z : α) :
  ∃ cs, d.K w (xs.getD i z) cs ∧ ∀ j u, cs[j]? = some u → w.cell? ⟨g, i * d.sz + j, none⟩ = some u := by
 have h1 := (h.reads n hx).1
 obtain ⟨ad, cs, e1, _, h3, h4⟩ := h1.get_ z (i : Int) (Int.natCast_nonneg _) (by omega)
 injection e1 with e1
 subst e1
 refine ⟨cs, by simpa using h3, fun j u hj => ?_⟩
 have h5 := h4 j u hj
 rw [Int.toNat_natCast] at h5
 rwa [Addr.add_lit, Nat.zero_add] at h5
theorem St.head {w0 w : World} {L : List Thing} (h : St w0 w L) (n : Nat) {α : Type} {d : Kd α} {e m c : Nat} {A : Option Addr} {xs : List α} (hx : L[n]? = some (Row d e (.slice A m c) xs)) (hp : 0 < xs.length) : ∃ g, A = some ⟨g, 0, none⟩ := by
 obtain ⟨_, _, _, h1, _⟩ := (h.bring n hx).sts
 obtain ⟨g, cap, hv, _⟩ := Kd.R_form h1.1 hp
 injection hv with hv
 exact ⟨g, hv⟩
def pkCells (x : S47) : List (Option Value) := [(some (.int .i64 x.f0)), (some (.int .i64 x.f1)), (some (.int .i64 x.f2)), (some (.int .i64 x.f3)), (some (.int .i64 x.f4.f0)), (some (.int .i64 x.f4.f1)), (some (.int .i64 x.f4.f2)), (some (.int .i64 x.f4.f3)), (some (.int .i64 x.f4.f4)), (some (.int .i64 x.f4.f5)), none, none, (some (.int .i64 x.f5.f0)), (some (.int .i64 x.f5.f1)), (some (.int .i64 x.f5.f2)), (some (.int .i64 x.f5.f3)), (some (.int .i64 x.f5.f4)), (some (.string x.f5.f5)), (some (.string x.f5.f6)), (some (.string x.f5.f7)), (some (.string x.f5.f8)), (some (.int .i64 x.f5.f9)), (some (.int .i64 x.f5.f10)), (some (.int .i64 x.f5.f11.f0)), (some (.string x.f5.f11.f1)), (some (.int .i64 x.f5.f11.f2)), (some (.int .i64 x.f5.f11.f3)), (some (.int .i64 x.f5.f12.f0)), (some (.int .i64 x.f5.f12.f1)), (some (.int .i64 x.f5.f13)), none, (some (.int .i64 x.f6.f0)), (some (.int .i64 x.f6.f1)), (some (.int .i64 x.f6.f2)), none, none, none, (some (.int .i64 x.f7.f0)), none, none]
theorem pk_cell {w0 w : World} {L : List Thing} (h : St w0 w L) (n : Nat) {e m c g : Nat} {xs : List S47} (hx : L[n]? = some (Row k47 e (.slice (some ⟨g, 0, none⟩) m c) xs)) (i : Nat) (hi : i < xs.length) (j : Nat) {u : Value} (hj : (pkCells (xs.getD i z47))[j]? = some (some u)) : w.cell? ⟨g, i * 40 + j, none⟩ = some u := by
 obtain ⟨cs, hK, hc⟩ := h.elem n hx i hi z47
 obtain ⟨A10, c10, A11, c11, A30, c30, A34, c34, A35, c35, A36, c36, A38, c38, A39, c39, rfl, _⟩ := k47_open hK
 refine hc j u ?_
 generalize xs.getD i z47 = x at hj ⊢
 have hlt : j < 40 := by
  rcases Nat.lt_or_ge j 40 with h | h
  ·exact h
  ·rw [List.getElem?_eq_none (by simpa [pkCells] using h)] at hj; cases hj
 revert hj
 unfold pkCells
 revert hlt
 repeat' (first | (rcases j with _ | j; (intro _ hj; first | exact (Option.some.inj hj ▸ rfl) | (injection hj with hj; cases hj))) | (intro h; omega))
def repCells (x : S42) : List (Option Value) := [(some (.int .i64 x.f0)), (some (.int .i64 x.f1)), (some (.int .i64 x.f2)), none, none, none]
theorem rep_cell {w0 w : World} {L : List Thing} (h : St w0 w L) (n : Nat) {e m c g : Nat} {xs : List S42} (hx : L[n]? = some (Row kRep e (.slice (some ⟨g, 0, none⟩) m c) xs)) (i : Nat) (hi : i < xs.length) (j : Nat) {u : Value} (hj : (repCells (xs.getD i z42))[j]? = some (some u)) : w.cell? ⟨g, i * 6 + j, none⟩ = some u := by
 obtain ⟨cs, hK, hc⟩ := h.elem n hx i hi z42
 obtain ⟨A3, c3, A4, c4, A5, c5, rfl⟩ := hK
 refine hc j u ?_
 generalize xs.getD i z42 = x at hj ⊢
 revert hj
 unfold repCells
 repeat' (first | (rcases j with _ | j; (intro hj; first | exact (Option.some.inj hj ▸ rfl) | (injection hj with hj; cases hj))) | (intro hj; simp at hj; done))
theorem unguard {P : Program} {ops : Array Oper} {rest : List Oper} {o : Oper} {a : Act} {Q : Exit → Act → World → Prop} {W : World} (hw : Region.wanted o (yielded ops a.tmps) = true) (h : wpList P ops Q ({ o with guard := none } :: rest) a W) : wpList P ops Q (o :: rest) a W := by
 unfold wpList at h ⊢
 rw [if_pos (by simp [Region.wanted])] at h
 rw [if_pos hw]
 exact h
theorem cli_out {w0 w w' : World} {BC BA bl q q' : Nat} {a a' : As} {c c' : Cl} {v1 v2 v3 v4 : Value} {L : List Thing} (h : St w0 w (cliT BC BA bl q a c v1 v2 v3 v4 ++ L)) (hb : w'.heap[BC]? = some (.cells (cliA BA c' v1 v2 v3 v4) 91 (0, 0))) (ha : AskAt w' BA bl q' a') (hu : Upd w w' (SC BC BA bl))
  (e1 : c'.call.entries = c.call.entries) (e2 : c'.pieces = c.pieces) (e3 : c'.sweep = c.sweep) (e4 : c'.out = c.out) : St w0 w' (cliT BC BA bl q' a' c' v1 v2 v3 v4 ++ L) := by
 show St w0 w' ([Blk BC (cliA BA c' v1 v2 v3 v4) 91, Blk BA (askA a' bl) 97, MapT bl q' a'.lead] ++ (Row k106 106 v1 c'.call.entries :: Row k108 108 v2 c'.pieces :: Row (Kd.int .i64) 3 v3 c'.sweep :: Row k42 42 v4 c'.out :: L))
 rw [e1, e2, e3, e4]
 refine St.byUpd (A := [Blk BC (cliA BA c v1 v2 v3 v4) 91, Blk BA (askA a bl) 97, MapT bl q a.lead]) h hu ?_
 rintro S ⟨S1, S2, g1, ⟨S3, S4, g2, ⟨S5, S6, g3, g8, g9, g10⟩, g4, g5⟩, g6, g7⟩
 refine ⟨fun k hk => ?_, S, ⟨S1, S2, ⟨hb, g1.2⟩, ⟨S3, S4, ⟨ha.blk, g2.2⟩, ⟨S5, S6, ⟨ha.map, g3.2⟩, g8, g9, g10⟩, g4, g5⟩, g6, g7⟩, fun k hk => .inl hk⟩
 rcases hk with hk | hk | hk
 ·exact (g7 k).2 (.inl ((g1.2 k).2 hk))
 ·exact (g7 k).2 (.inr ((g5 k).2 (.inl ((g2.2 k).2 hk))))
 ·exact (g7 k).2 (.inr ((g5 k).2 (.inr ((g10 k).2 (.inl ((g3.2 k).2 hk))))))
theorem nextSendT (w0 : World) (L : List Thing) (BC BA bl q : Nat) (a : As) (c : Cl) (v1 v2 v3 v4 : Value) (hk : a.ok q) (i : Nat) (hst : c.step = (i : Int)) (hi : i < c.call.entries.length) (hsw : sweepsB c.call.kind = false) (r g : Int) (hr : ∃ k, place_Of.f k (entG c.call.kind (c.call.entries.getD i z106)) = some r) (hg : ∃ k, chart_Of.f k c.epoch c.pieces r = some g) :
  NextDoes w0 L BC BA bl q a c v1 v2 v3 v4 (askV a g (cmdV c.call (c.call.entries.getD i z106))).2 c := fun W h =>
 (cliNextSend W 0 BC BA bl q a c v1 v2 v3 v4 (cli_in h) hk i hst hi hsw r g hr hg).mono (fun e w' hp => ⟨hp.1, v3, cli_out h hp.2.1.blk hp.2.1.ask hp.2.2 rfl rfl rfl rfl⟩)
theorem firstT (w0 w : World) (L : List Thing) (h : St w0 w L) (k : Nat) (n e : Int) (xs : List S108) (r : Int) (hf : racewayref15_First.f k n = some (e, xs, r)) :
  Calls Try.prog 15 #[.int .i64 n] w fun e' w' => ∃ A c, e' = .returned (.tuple #[.agg #[.int .i64 e, .slice A xs.length c], .int .i64 r]) ∧ St w0 w' (Row k108 108 (.slice A xs.length c) xs :: L) :=
 (racewayref15_First.calls k n e xs r w hf).mono (fun e' w' hp => by
  obtain ⟨v, rfl, hR, hb⟩ := hp
  obtain ⟨A, c, rfl⟩ := Kd.R_slice hR
  exact ⟨A, c, rfl, h.newRow hb hR⟩)
theorem Mem.reads {w : World} {L : List Thing} (h : Mem w L) (n : Nat) {α : Type} {d : Kd α} {e m c : Nat} {A : Option Addr} {xs : List α} (hx : L[n]? = some (Row d e (.slice A m c) xs)) : d.C w A xs.length xs ∧ xs.length ≤ c := by
 obtain ⟨S, hs⟩ := h
 obtain ⟨_, _, h1, _⟩ := hs.perm (perm_bring L n _ hx)
 have h2 := Kd.R_reads' h1.1
 exact ⟨h2.2.2, h2.1 ▸ h2.2.1⟩
end Go.Proofs.Ytonedijkgddepaa.P
