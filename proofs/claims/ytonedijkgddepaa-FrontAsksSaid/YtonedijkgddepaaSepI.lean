/- Indices; the reference's asker as_ things. No conditions. -/
import Derived.Test.YtonedijkgddepaaSepH
namespace Go.Proofs.Ytonedijkgddepaa.P
open Go.RowKit Go.Maps Go.Proofs.YtonedijkgddepaaW.PrintWords Go.Proofs.YtonedijkgddepaaW.PrintLast Go.Proofs.YtonedijkgddepaaW.PrintMore
set_option linter.unusedVariables false
set_option linter.unusedSimpArgs false
section
variable {P : Program} {ops : Array Oper} {rest : List Oper} {o : Oper} {a : Act} {Q : Exit → Act → World → Prop} {W w0 : World} {L : List Thing}
theorem index_run (t : TypeId) {g off len cap sz o' : Nat} {k : IntKind} {i : Int} (h0 : 0 ≤ i) (h1 : i < len) (hu : P.underlying t = some (.slice (P.elem t))) (hs : (P.info? (P.elem t)).map (·.size) = some sz) (ho : off + i.toNat * sz = o') (w : World) :
  (Instr.indexAt t (.slice (some ⟨g, off, none⟩) len cap) (.int k i)).run P w = .ok (.pointer (some ⟨g, o', none⟩)) w := by
 obtain ⟨inf, hi, hsz⟩ := Option.map_eq_some_iff.1 hs
 rw [run_indexAt_slice _ _ _ _ _ _ _ hu, if_pos ⟨h0, h1⟩]
 simp only [sizeOf, typeInfo]
 simp [hi, hsz, Result.andThen]
 rw [Addr.add_lit, ho]
theorem yields_index {op : Oper} (hw : Region.wanted op (yielded ops a.tmps) = true) (t : TypeId) (x ix : Operand) (hop : op.op = .indexAddr t x ix) {g off len cap sz o' : Nat} {k : IntKind} {i : Int} (hx : a.eval x = .slice (some ⟨g, off, none⟩) len cap) (hix : a.eval ix = .int k i) (h0 : 0 ≤ i) (h1 : i < len) (hu : P.underlying t = some (.slice (P.elem t))) (hs : (P.info? (P.elem t)).map (·.size) = some sz) (ho : off + i.toNat * sz = o') :
  Yields P ops op (.pointer (some ⟨g, o', none⟩)) a := Or.inl ⟨hw, fun w => by
 unfold execOp
 rw [hop]
 simp only [hx, hix]
 simp [index_run t h0 h1 hu hs ho]⟩
theorem st_lit_step {Kc : Act → World → Prop} (hw : Region.wanted o (yielded ops a.tmps) = true) {N : Tmp} (hd : o.dst = some N) (cs : Array Value) (t : TypeId) (n : Nat)
  (hrun : (execOp a.eval o).run P W = .ok (.value (.slice (some ⟨W.heap.size, 0, none⟩) n n)) (W.alloc (.cells cs t (0, 0)))) (h : St w0 W L)
  (k : ∀ g w1, W.heap.size ≤ g → St w0 w1 (Blk g cs t :: L) → Below W.heap.size W w1 → Kc (a.put o.dst (.slice (some ⟨g, 0, none⟩) n n)) w1) : if Region.wanted o (yielded ops a.tmps) = true then Oper.wp P o a W Kc Q else Kc (a.put o.dst undef) W :=
 event_step hw hrun (k _ _ (Nat.le_refl _) (h.alloc cs t) (below_alloc (Below.refl _ _) _))
theorem St.recell {w : World} (h : St w0 w L) (n : Nat) {B : Nat} {cs cs' : Array Value} {T : TypeId} (hx : L[n]? = some (Blk B cs T)) (he : cs = cs') : St w0 w (L.set n (Blk B cs' T)) := by
 subst he
 have : L.set n (Blk B cs T) = L := by
  obtain ⟨hl, e⟩ := List.getElem?_eq_some_iff.1 hx
  rw [← e]
  exact List.set_getElem_self hl
 rw [this]
 exact h
end
def refA (s : As) (BL : Nat) : Array Value := #[(.int .i64 s.id), (.int .i64 s.nodes), (.int .i64 s.retry), (.int .i64 s.num), (.int .i64 s.group), (.int .i64 s.cmd.f0), (.int .i64 s.cmd.f1), (.int .i64 s.cmd.f2), (.int .i64 s.cmd.f3), (.int .i64 s.cmd.f4), (.string s.cmd.f5), (.string s.cmd.f6), (.string s.cmd.f7), (.string s.cmd.f8), (.int .i64 s.cmd.f9), (.int .i64 s.cmd.f10), (.int .i64 s.cmd.f11.f0), (.string s.cmd.f11.f1), (.int .i64 s.cmd.f11.f2), (.int .i64 s.cmd.f11.f3), (.int .i64 s.cmd.f12.f0), (.int .i64 s.cmd.f12.f1), (.int .i64 s.cmd.f13), (.slice none 0 0), (.bool s.busy), (.bool s.sent), (.int .i64 s.waited), (.slice (some ⟨BL, 0, none⟩) 7 7)]
def leadA (s : As) : Array Value := #[.int .i64 (getG 0 0 s.lead), .int .i64 (getG 0 1 s.lead), .int .i64 (getG 0 2 s.lead), .int .i64 (getG 0 3 s.lead), .int .i64 (getG 0 4 s.lead), .int .i64 (getG 0 5 s.lead), .int .i64 (getG 0 6 s.lead)]
abbrev refT (BR BL : Nat) (s : As) : List Thing := [Blk BR (refA s BL) 87, Blk BL (leadA s) 3]
theorem g7 {g : Int} (h : 0 ≤ g ∧ g ≤ 6) : g = 0 ∨ g = 1 ∨ g = 2 ∨ g = 3 ∨ g = 4 ∨ g = 5 ∨ g = 6 := by omega
theorem lead_at (s : As) {g : Int} (h : 0 ≤ g ∧ g ≤ 6) : (leadA s)[g.toNat]? = some (.int .i64 (getG 0 g s.lead)) := by
 rcases g7 h with rfl | rfl | rfl | rfl | rfl | rfl | rfl <;> rfl
theorem lead_cell {w0 w : World} {L : List Thing} (h : St w0 w L) (n : Nat) {B : Nat} {s : As} {T : TypeId} (hx : L[n]? = some (Blk B (leadA s) T)) {g : Int} (hg : 0 ≤ g ∧ g ≤ 6) : w.cell? ⟨B, g.toNat, none⟩ = some (.int .i64 (getG 0 g s.lead)) := h.cell n _ hx (lead_at s hg)
theorem lead_set (s s' : As) {g v : Int} (hg : 0 ≤ g ∧ g ≤ 6) (hl : s'.lead = putM g v s.lead) : ((leadA s).toList.take g.toNat ++ [Value.int .i64 v] ++ (leadA s).toList.drop (g.toNat + 1)).toArray = leadA s' := by
 have hp : ∀ d, getG 0 d s'.lead = if d = g then v else getG 0 d s.lead := fun d => by rw [hl, getG_put]
 unfold leadA
 rw [hp 0, hp 1, hp 2, hp 3, hp 4, hp 5, hp 6]
 rcases g7 hg with rfl | rfl | rfl | rfl | rfl | rfl | rfl <;> simp
end Go.Proofs.Ytonedijkgddepaa.P
