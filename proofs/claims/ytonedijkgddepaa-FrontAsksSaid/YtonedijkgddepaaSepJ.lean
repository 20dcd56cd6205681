/- Rows appended to rows; packets as_ they come in. No conditions. -/
import Derived.Test.YtonedijkgddepaaRG
namespace Go.Proofs.Ytonedijkgddepaa.P
open Go.RowKit Go.Maps Go.Proofs.YtonedijkgddepaaW.PrintWords Go.Proofs.YtonedijkgddepaaW.PrintLast Go.Proofs.YtonedijkgddepaaW.PrintMore
set_option linter.unusedVariables false
set_option linter.unusedSimpArgs false
def pkB (p : S47) (v10 v11 v30 v34 v35 v36 v38 v39 : Value) : Array Value := #[(.int .i64 p.f0), (.int .i64 p.f1), (.int .i64 p.f2), (.int .i64 p.f3), (.int .i64 p.f4.f0), (.int .i64 p.f4.f1), (.int .i64 p.f4.f2), (.int .i64 p.f4.f3), (.int .i64 p.f4.f4), (.int .i64 p.f4.f5), v10, v11, (.int .i64 p.f5.f0), (.int .i64 p.f5.f1), (.int .i64 p.f5.f2), (.int .i64 p.f5.f3), (.int .i64 p.f5.f4), (.string p.f5.f5), (.string p.f5.f6), (.string p.f5.f7), (.string p.f5.f8), (.int .i64 p.f5.f9), (.int .i64 p.f5.f10), (.int .i64 p.f5.f11.f0), (.string p.f5.f11.f1), (.int .i64 p.f5.f11.f2), (.int .i64 p.f5.f11.f3), (.int .i64 p.f5.f12.f0), (.int .i64 p.f5.f12.f1), (.int .i64 p.f5.f13), v30, (.int .i64 p.f6.f0), (.int .i64 p.f6.f1), (.int .i64 p.f6.f2), v34, v35, v36, (.int .i64 p.f7.f0), v38, v39]
def fewV (p : S47) : S47 := { p with f4 := z31, f5 := { p.f5 with f14 := [] }, f6 := { p.f6 with f3 := p.f6.f3.take 12, f4 := [], f5 := p.f6.f5.take 12 }, f7 := { p.f7 with f1 := p.f7.f1.take 20 } }
theorem C_takeN {α : Type} {d : Kd α} {w : World} {A : Option Addr} {xs : List α} (h : d.C w A xs.length xs) (n : Nat) : d.C w A (xs.take n).length (xs.take n) := by
  rcases Nat.le_total n xs.length with h1 | h1
  · exact Kd.C_take h h1
  · rw [List.take_of_length_le h1]
    exact h
theorem blkRow0 {α : Type} {d : Kd α} {e g : Nat} {w : World} {S : Nat → Prop} (h : (Blk g #[] e).at_ w S) : (Row d e (.slice (some ⟨g, 0, none⟩) 0 0) []).at_ w S :=
  ⟨⟨fun k hk => (h.2 k).2 (by have : g = k := by simpa [Value.ownBlock] using hk
                              exact this.symm), [], ⟨by simp, .inr ⟨g, 0, #[], rfl, Nat.zero_le _, h.1, Nat.le_refl _, Nat.zero_le _, by simp, by simp⟩⟩, ⟨by simp, fun j p hj => by simp at hj⟩⟩, fun k hk => (h.2 k).1 hk ▸ blk_lt h.1⟩
section
variable {P : Program} {ops : Array Oper} {rest : List Oper} {o : Oper} {a : Act} {Q : Exit → Act → World → Prop} {W w0 : World} {L : List Thing}
theorem st_append_rows {α : Type} (d : Kd α) (hgd : o.guard = none) (s x : Operand) (t e : TypeId) (z : Value) (bytes : Nat)
    (ho : o.op = .call { callee := .builtin .append, args := #[s, x], argTypes := #[t, t] })
    (ht : P.underlying t = some (.slice e)) (hinfo : (P.info? e).map (fun i => (i.zero, i.size, i.bytes)) = some (some z, d.sz, bytes)) (hz : z.cells.size = d.sz) (hs0 : 0 < d.sz) (hb0 : 0 < bytes)
    (v : Value) (xs ys : List α) (A : Option Addr) (m c : Nat) (hs : a.eval s = v) (hx : a.eval x = .slice A m c) (h : St w0 W (Row d e v xs :: L)) (hR : d.C W A m ys) (hKM : ∀ x cs, d.K W x cs → d.M W 0 (fun _ => False) x cs) (hl : (xs.length + m) * bytes ≤ 140737488355328)
    (k : ∀ v1 w1, St w0 w1 (Row d e v1 (xs ++ ys) :: L) → wpList P ops Q rest (a.put o.dst v1) w1) : wpList P ops Q (o :: rest) a W := by
  obtain ⟨S, S1, SL, h1, h2, h3, h4⟩ := h.sts
  refine Kd.R_append_rows d (w0 := W) 0 hgd s x t e z bytes ho ht hinfo hz hs0 hb0 v xs ys A m c (fun k => S1 k ∨ False ∨ W.heap.size ≤ k) (fun _ => False) hs hx (Kd.R_mono h1.1 (fun k hk => .inl hk)) hR hKM (fun k hk => hk.elim) (fun k hk => .inr (.inr hk)) ⟨rfl, rfl, rfl, Nat.le_refl _, fun _ _ => rfl⟩ (Nat.zero_le _) hl ?_
  intro v1 w1 hR1 _ hg _
  exact k v1 w1 ⟨hg.os.trans h.os, hg.tape.trans h.tape, hg.output.trans h.output, _, appended_st (A := []) (SA := fun _ => False) (S2 := SL) h1 (fun _ h => h) h2 h3 (fun _ h _ => h) (fun k => ⟨.inr, fun h => h.elim (fun h => h.elim) id⟩) hR1 hg⟩
end
end Go.Proofs.Ytonedijkgddepaa.P
