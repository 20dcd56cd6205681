/- Loads, stores, variables: as steps over what lies in memory. No conditions. -/
import Derived.Test.YtonedijkgddepaaSepA
namespace Go.Proofs.Ytonedijkgddepaa.P
open Go.RowKit Go.Maps Go.Proofs.YtonedijkgddepaaW.PrintWords Go.Proofs.YtonedijkgddepaaW.PrintLast Go.Proofs.YtonedijkgddepaaW.PrintMore
set_option linter.unusedVariables false
set_option linter.unusedSimpArgs false

/-- The post behind a name. -/
theorem calls_hide {P : Program} {f : FuncId} {args : Array Value} {w : World} {Post : Ending → World → Prop} (h : ∀ R : Ending → World → Prop, Aside0 (∀ e w', Post e w' → R e w') → Calls P f args w R) : Calls P f args w Post := h _ ⟨fun _ _ h => h⟩
/-- A loop, from the start of a round. -/
def wpRound (P : Program) (c : Code) (Q : Exit → Act → World → Prop) (a : Act) (w : World) : Prop :=
 ∀ (b : Frame) (k : List Item) (cs : List Frame), ∃ e a' w', Q e a' w' ∧ Arrives P (lone (b.at a (.code c :: .inLoop c :: k)) cs w) b k cs e a' w'
theorem wp_loop_round {P : Program} {c : Code} {Q : Exit → Act → World → Prop} {a : Act} {w : World} (h : wpRound P c Q a w) : (Code.loop c).wp P Q a w :=
 fun b k cs => let ⟨e, a', w', q, r⟩ := h b k cs; ⟨e, a', w', q, .of_steps (.one step_loop) r⟩
/-- One round is walked; what follows is the loop again. -/
theorem round_unroll {P : Program} {c : Code} {Q : Exit → Act → World → Prop} {a : Act} {w : World} (h : c.wp P (Exit.then (wpRound P c Q) Q) a w) : wpRound P c Q a w := by
 intro b k cs
 obtain ⟨e, a₁, w₁, hq, harr⟩ := h b (.inLoop c :: k) cs
 cases e with
 | normal =>
  obtain ⟨e₂, a₂, w₂, hq₂, harr₂⟩ := hq b k cs
  exact ⟨e₂, a₂, w₂, hq₂, .of_steps (Steps.trans harr (.one step_inLoop)) harr₂⟩
 | exit id => exact ⟨_, a₁, w₁, hq, .pass (x := .inLoop c) rfl (fun _ _ => .inl (by simp)) harr⟩
 | goto l => exact ⟨_, a₁, w₁, hq, .pass (x := .inLoop c) rfl (fun _ _ => .inl (by simp)) harr⟩
 | ret => exact ⟨_, a₁, w₁, hq, .pass (x := .inLoop c) rfl (fun _ _ => .inl (by simp)) harr⟩
 | panic ch => exact ⟨_, a₁, w₁, hq, .pass (x := .inLoop c) rfl (fun _ _ => .inl (by simp)) harr⟩
 | outgrown => exact ⟨_, a₁, w₁, hq, .pass (x := .inLoop c) rfl (fun _ _ => .inl (by simp)) harr⟩
/-- What has come up, as a number. -/
def bits (n m : Nat) : Array Bool := ((List.range n).map (fun i => m.testBit i)).toArray
section
variable {P : Program} {ops : Array Oper} {rest : List Oper} {o : Oper} {a : Act} {Q : Exit → Act → World → Prop} {W w0 : World} {L : List Thing}
theorem St.setCells {w : World} (h : St w0 w L) (n : Nat) {g off : Nat} {cs : Array Value} {T : TypeId} (hn : L[n]? = some (Blk g cs T)) (seg : List Value) (hs : off + seg.length ≤ cs.size) :
  St w0 (w.setCells g off seg) (L.set n (Blk g (cs.toList.take off ++ seg ++ cs.toList.drop (off + seg.length)).toArray T)) :=
 h.upd n hn (setCells_heap g T seg off w cs (h.blk n hn) hs) (setCells_upd g seg off w)
theorem st_store (hgd : o.guard = none) (hN : o.dst = none) (t : TypeId) (p x : Operand) (ho : o.op = .store t p x) {g off : Nat} {u : Value} {seg : List Value} (hp : a.eval p = .pointer (some ⟨g, off, none⟩)) (hx : a.eval x = u) (hu : u.cells.toList = seg)
  (hi : (P.info? t).map (·.size) = some seg.length) (h1 : seg.all (·.oneCell') = true) (h : St w0 W L) (n : Nat) {cs : Array Value} {T : TypeId} (hn : L[n]? = some (Blk g cs T)) (hs : off + seg.length ≤ cs.size)
  (k : ∀ w1, St w0 w1 (L.set n (Blk g (cs.toList.take off ++ seg ++ cs.toList.drop (off + seg.length)).toArray T)) → wpList P ops Q rest a w1) : wpList P ops Q (o :: rest) a W := by
 refine wpList_plain hgd fun K hK => ?_
 have hrun := run_store_run t u seg (h.blk n hn) hu hi hs (fun v hv => List.all_eq_true.1 h1 v hv)
 have hr2 : (execOp a.eval o).run P W = .ok .skip (W.setCells g off seg) := by
  unfold execOp
  rw [ho]
  simp [hp, hx, hrun]
 unfold Oper.wp
 rw [hr2]
 show K (a.put o.dst undef) _
 rw [hN]
 exact hK _ _ (k _ (h.setCells n hn seg hs))
theorem st_store_step {Kc : Act → World → Prop} (hw : Region.wanted o (yielded ops a.tmps) = true) (hN : o.dst = none) (t : TypeId) (p x : Operand) (ho : o.op = .store t p x) {g off : Nat} {u : Value} {seg : List Value} (hp : a.eval p = .pointer (some ⟨g, off, none⟩)) (hx : a.eval x = u) (hu : u.cells.toList = seg)
  (hi : (P.info? t).map (·.size) = some seg.length) (h1 : seg.all (·.oneCell') = true) (h : St w0 W L) (n : Nat) {cs : Array Value} {T : TypeId} (hn : L[n]? = some (Blk g cs T)) (hs : off + seg.length ≤ cs.size)
  (k : ∀ w1, St w0 w1 (L.set n (Blk g (cs.toList.take off ++ seg ++ cs.toList.drop (off + seg.length)).toArray T)) → Upd W w1 (fun k => k = g) → Kc a w1) : if Region.wanted o (yielded ops a.tmps) = true then Oper.wp P o a W Kc Q else Kc (a.put none undef) W := by
 rw [if_pos hw]
 have hrun := run_store_run t u seg (h.blk n hn) hu hi hs (fun v hv => List.all_eq_true.1 h1 v hv)
 have hr2 : (execOp a.eval o).run P W = .ok .skip (W.setCells g off seg) := by
  unfold execOp
  rw [ho]
  simp [hp, hx, hrun]
 unfold Oper.wp
 rw [hr2]
 show Kc (a.put o.dst undef) _
 rw [hN]
 exact k _ (h.setCells n hn seg hs) (setCells_upd g seg off W)
theorem st_load (hgd : o.guard = none) (t : TypeId) (x : Operand) (ho : o.op = .load t x) {g off : Nat} (hx : a.eval x = .pointer (some ⟨g, off, none⟩)) (h : St w0 W L) (n : Nat) {cur : Array Value} {T : TypeId} (hn : L[n]? = some (Blk g cur T)) (cs : List Value) (hseg : (cur.toList.drop off).take cs.length = cs)
  {d : TypeDesc} (hu : P.underlying t = some d) (hd : d.isRow = true) (hi : (P.info? t).map (·.size) = some cs.length) (k : wpList P ops Q rest (a.put o.dst (.agg cs.toArray)) W) : wpList P ops Q (o :: rest) a W :=
 load_blk hgd t x ho g off hx (h.blk n hn) cs hseg hu hd hi k
theorem st_box (hgd : o.guard = none) {N : Tmp} (hd : o.dst = some N) (cs : Array Value) (t : TypeId)
  (hrun : (execOp a.eval o).run P W = .ok (.value (.pointer (some ⟨W.heap.size, 0, none⟩))) (W.alloc (.cells cs t (0, 0)))) (h : St w0 W L)
  (k : ∀ g w1, W.heap.size ≤ g → St w0 w1 (Blk g cs t :: L) → Below W.heap.size W w1 → wpList P ops Q rest (a.put o.dst (.pointer (some ⟨g, 0, none⟩))) w1) : wpList P ops Q (o :: rest) a W :=
 box_event hgd hd hrun (fun g hg w1 h1 h2 => k g w1 (Nat.le_of_eq hg.symm) (h.new h2 (Nat.le_of_eq hg.symm) h1) h2)
theorem st_lit (hgd : o.guard = none) {N : Tmp} (hd : o.dst = some N) (cs : Array Value) (t : TypeId) (n : Nat)
  (hrun : (execOp a.eval o).run P W = .ok (.value (.slice (some ⟨W.heap.size, 0, none⟩) n n)) (W.alloc (.cells cs t (0, 0)))) (h : St w0 W L)
  (k : ∀ g w1, W.heap.size ≤ g → St w0 w1 (Blk g cs t :: L) → Below W.heap.size W w1 → wpList P ops Q rest (a.put o.dst (.slice (some ⟨g, 0, none⟩) n n)) w1) : wpList P ops Q (o :: rest) a W :=
 Kd.event_run hgd hrun (k _ _ (Nat.le_refl _) (h.alloc cs t) (below_alloc (Below.refl _ _) _))
theorem st_box_step {Kc : Act → World → Prop} (hw : Region.wanted o (yielded ops a.tmps) = true) {N : Tmp} (hd : o.dst = some N) (cs : Array Value) (t : TypeId)
  (hrun : (execOp a.eval o).run P W = .ok (.value (.pointer (some ⟨W.heap.size, 0, none⟩))) (W.alloc (.cells cs t (0, 0)))) (h : St w0 W L)
  (k : ∀ g w1, W.heap.size ≤ g → St w0 w1 (Blk g cs t :: L) → Below W.heap.size W w1 → Kc (a.put o.dst (.pointer (some ⟨g, 0, none⟩))) w1) : if Region.wanted o (yielded ops a.tmps) = true then Oper.wp P o a W Kc Q else Kc (a.put o.dst undef) W :=
 box_step hw hd hrun (fun g hg w1 h1 h2 => k g w1 (Nat.le_of_eq hg.symm) (h.new h2 (Nat.le_of_eq hg.symm) h1) h2)
theorem appended_st {w w1 : World} {α : Type} {d : Kd α} {e : Nat} {v v1 : Value} {xs ys : List α} {A L : List Thing} {S1 SA SL S2 : Nat → Prop} (h1 : (Row d e v xs).at_ w S1) (hA : Sts w A SA) (hL : Sts w L SL) (hd : ∀ k, S1 k → S2 k → False) (h2 : ∀ k, SA k → SL k → False) (h3 : ∀ k, S2 k ↔ SA k ∨ SL k)
  (hR : d.R e w1 0 (fun k => S1 k ∨ SA k ∨ w.heap.size ≤ k) v1 ys) (hg : w.grownBy w1 v.ownBlock) : Sts w1 (Row d e v1 ys :: L) (fun k => ((S1 k ∨ SA k ∨ w.heap.size ≤ k) ∧ k < w1.heap.size) ∨ SL k) := by
 refine ⟨fun k => (S1 k ∨ SA k ∨ w.heap.size ≤ k) ∧ k < w1.heap.size, SL, ⟨Kd.R_mono (Kd.R_bound hR) (fun k hk => ⟨hk.1, hk.2.2.1⟩), fun k hk => hk.2⟩, hL.keep (fun k hk => hg.block k (hL.lt k hk) (fun e => hd k (h1.1.1 k e.symm) ((h3 k).2 (.inr hk)))), fun k a b => ?_, fun k => Iff.rfl⟩
 rcases a.1 with a | a | a
 ·exact hd k a ((h3 k).2 (.inr b))
 ·exact h2 k a b
 ·have := hL.lt k b
  omega
theorem st_append_step {α : Type} (d : Kd α) {Kc : Act → World → Prop} (hw : Region.wanted o (yielded ops a.tmps) = true) (s x : Operand) (t e : TypeId) (z : Value) (bytes : Nat)
  (ho : o.op = .call { callee := .builtin .append, args := #[s, x], argTypes := #[t, t] })
  (ht : P.underlying t = some (.slice e)) (hinfo : (P.info? e).map (fun i => (i.zero, i.size, i.bytes)) = some (some z, d.sz, bytes)) (hz : z.cells.size = d.sz) (hs0 : 0 < d.sz) (hb0 : 0 < bytes)
  (v : Value) (xs : List α) (p : α) (cs : List Value) (hs : a.eval s = v) (hx : a.eval x = .slice (some ⟨W.heap.size, 0, none⟩) 1 1) {A : List Thing} (h : St w0 W (Row d e v xs :: (A ++ L))) (hA : ∀ S, Sts W A S → d.M W 0 S p cs) (hl : (xs.length + 1) * bytes ≤ 140737488355328)
  (k : ∀ v1 w1, St w0 w1 (Row d e v1 (xs ++ [p]) :: L) → Kc (a.put o.dst v1) w1) :
  if Region.wanted o (yielded ops a.tmps) = true then Oper.wp P o a (W.alloc (.cells cs.toArray e)) Kc Q else Kc (a.put o.dst undef) (W.alloc (.cells cs.toArray e)) := by
 obtain ⟨S, S1, S2, h1, h2, h3, h4⟩ := h.sts
 obtain ⟨SA, SL, g1, g2, g3, g4⟩ := sts_append.1 h2
 refine Kd.R_append_step d (w0 := W) 0 hw s x t e z bytes ho ht hinfo hz hs0 hb0 v xs p cs (fun k => S1 k ∨ SA k ∨ W.heap.size ≤ k) SA hs hx (hA SA g1) (fun k hk => ⟨.inr (.inl hk), fun e => h3 k (h1.1.1 k e.symm) ((g4 k).2 (.inl hk))⟩) (fun k hk => .inr (.inr hk)) (Kd.R_mono h1.1 (fun k hk => .inl hk)) ⟨rfl, rfl, rfl, Nat.le_refl _, fun _ _ => rfl⟩ (Nat.zero_le _) hl ?_
 intro v1 w1 hR _ hg _
 exact k v1 w1 ⟨hg.os.trans h.os, hg.tape.trans h.tape, hg.output.trans h.output, _, appended_st h1 g1 g2 h3 g3 g4 hR hg⟩
theorem st_append {α : Type} (d : Kd α) (hgd : o.guard = none) (s x : Operand) (t e : TypeId) (z : Value) (bytes : Nat)
  (ho : o.op = .call { callee := .builtin .append, args := #[s, x], argTypes := #[t, t] })
  (ht : P.underlying t = some (.slice e)) (hinfo : (P.info? e).map (fun i => (i.zero, i.size, i.bytes)) = some (some z, d.sz, bytes)) (hz : z.cells.size = d.sz) (hs0 : 0 < d.sz) (hb0 : 0 < bytes)
  (v : Value) (xs : List α) (p : α) (cs : List Value) (hs : a.eval s = v) (hx : a.eval x = .slice (some ⟨W.heap.size, 0, none⟩) 1 1) {A : List Thing} (h : St w0 W (Row d e v xs :: (A ++ L))) (hA : ∀ S, Sts W A S → d.M W 0 S p cs) (hl : (xs.length + 1) * bytes ≤ 140737488355328)
  (k : ∀ v1 w1, St w0 w1 (Row d e v1 (xs ++ [p]) :: L) → wpList P ops Q rest (a.put o.dst v1) w1) : wpList P ops Q (o :: rest) a (W.alloc (.cells cs.toArray e)) := by
 obtain ⟨S, S1, S2, h1, h2, h3, h4⟩ := h.sts
 obtain ⟨SA, SL, g1, g2, g3, g4⟩ := sts_append.1 h2
 refine Kd.R_append d (w0 := W) 0 hgd s x t e z bytes ho ht hinfo hz hs0 hb0 v xs p cs (fun k => S1 k ∨ SA k ∨ W.heap.size ≤ k) SA hs hx (hA SA g1) (fun k hk => ⟨.inr (.inl hk), fun e => h3 k (h1.1.1 k e.symm) ((g4 k).2 (.inl hk))⟩) (fun k hk => .inr (.inr hk)) (Kd.R_mono h1.1 (fun k hk => .inl hk)) ⟨rfl, rfl, rfl, Nat.le_refl _, fun _ _ => rfl⟩ (Nat.zero_le _) hl ?_
 intro v1 w1 hR _ hg _
 exact k v1 w1 ⟨hg.os.trans h.os, hg.tape.trans h.tape, hg.output.trans h.output, _, appended_st h1 g1 g2 h3 g3 g4 hR hg⟩
end
end Go.Proofs.Ytonedijkgddepaa.P
