/- front's things, more: a row beside the asker; what New makes; a block that is a row of one. No conditions. -/
import Derived.Test.YtonedijkgddepaaGS
namespace Go.Proofs.Ytonedijkgddepaa.P
open Go.RowKit Go.Maps Go.Proofs.YtonedijkgddepaaW.PrintWords Go.Proofs.YtonedijkgddepaaW.PrintLast Go.Proofs.YtonedijkgddepaaW.PrintMore
set_option linter.unusedVariables false
set_option linter.unusedSimpArgs false

theorem ask_out1 {α : Type} {d1 : Kd α} {e1 : Nat} {ok1 : Nat → Prop} {v1 : Value} {xs : List α} {w0 w w' : World} {B bl q q' : Nat} {s s' : As} {L : List Thing} (h : St w0 w (askT B bl q s ++ L)) (ha : AskAt w' B bl q' s') (hu : Upd w w' (SA B bl)) (h1 : d1.R e1 w' w.heap.size ok1 v1 xs) :
  St w0 w' (askT B bl q' s' ++ Row d1 e1 v1 xs :: L) := by
 have hlt := (ask_in h).lt
 refine St.byUpd (A := askT B bl q s) (A' := askT B bl q' s' ++ [Row d1 e1 v1 xs]) h hu ?_
 rintro S ⟨S1, S2, g1, ⟨S3, S4, g2, g3, g4, g5⟩, g6, g7⟩
 have b1 := Kd.R_bound h1
 refine ⟨fun k hk => ?_, _, sts_append.2 ⟨S, _, ⟨S1, S2, ⟨ha.blk, g1.2⟩, ⟨S3, S4, ⟨ha.map, g2.2⟩, g3, g4, g5⟩, g6, g7⟩, ⟨_, fun _ => False, ⟨Kd.R_lower b1 (Nat.zero_le _), fun k hk => hk.2.2.1⟩, fun _ h => h, fun _ _ h => h, fun k => Iff.rfl⟩, ?_, fun k => Iff.rfl⟩, ?_⟩
 ·rcases hk with hk | hk
  ·exact (g7 k).2 (.inl ((g1.2 k).2 hk))
  ·exact (g7 k).2 (.inr ((g5 k).2 (.inl ((g2.2 k).2 hk))))
 ·intro k hk hr
  have hb : k < w.heap.size := by
   rcases (g7 k).1 hk with e | e
   ·rw [(g1.2 k).1 e]; exact hlt.1
   ·rcases (g5 k).1 e with e | e
    ·rw [(g2.2 k).1 e]; exact hlt.2.1
    ·exact (g3 k e).elim
  rcases hr with hr | hf
  ·exact absurd hr.2.1 (by omega)
  ·exact hf
 ·rintro k (hk | hr | hf)
  ·exact .inl hk
  ·exact .inr hr.2.1
  ·exact hf.elim
theorem askTickT (w0 w : World) (L : List Thing) (B bl q : Nat) (s : As) (h : St w0 w (askT B bl q s ++ L)) (hk : s.ok q) :
  Calls Try.prog 22 #[.pointer (some ⟨B, 0, none⟩)] w fun e' w' => ∃ v, e' = .returned v ∧ St w0 w' (askT B bl (q + 1) (tickV s).1 ++ Row k47 47 v (tickV s).2 :: L) :=
 (askTick w B bl q s (ask_in h) hk).mono (fun e' w' hp => by obtain ⟨v, rfl, hR, ha, hu⟩ := hp; exact ⟨v, rfl, ask_out1 h ha hu hR⟩)
/-- A block is a row of one. -/
theorem blkRow {α : Type} {d : Kd α} {e g : Nat} {cs : Array Value} {x : α} {w : World} {S : Nat → Prop} (h : (Blk g cs e).at_ w S) (hM : d.M w 0 (fun _ => False) x cs.toList) (hs : cs.size = d.sz) : (Row d e (.slice (some ⟨g, 0, none⟩) 1 1) [x]).at_ w S := by
 have hl : cs.toList.length = d.sz := by simpa using hs
 refine ⟨⟨fun k hk => ?_, cs.toList, ⟨by simpa using hl, .inr ⟨g, 1, cs, rfl, Nat.zero_le _, h.1, Nat.le_refl _, by unfold maxLen; omega, by simpa using hs, List.take_of_length_le (by simp [hl])⟩⟩, by simpa using hl, fun j p hj => ?_⟩, fun k hk => (h.2 k).1 hk ▸ blk_lt h.1⟩
 ·have : g = k := by simpa [Value.ownBlock] using hk
  exact (h.2 k).2 this.symm
 ·rcases j with _ | j
  ·have hp : x = p := by simpa using hj
   subst hp
   rw [Nat.zero_mul, List.drop_zero, List.take_of_length_le (by omega)]
   exact d.M_mono (fun k hk => hk.elim) hM
  ·simp at hj
/-- What is new since w. -/
theorem St.fresh {w0 w w' : World} {A L : List Thing} (h : St w0 w L) (hb : Below w.heap.size w w') {S : Nat → Prop} (hA : Sts w' A S) (hS : ∀ k, S k → w.heap.size ≤ k) : St w0 w' (A ++ L) :=
 St.step (A := []) (A' := A) h hb.os hb.tape hb.output (fun _ _ => ⟨S, hA, fun k hk => .inr (hS k hk), fun k hk _ => hb.block k hk⟩)
theorem row_nil {α : Type} (d : Kd α) (e : Nat) (w : World) : (Row d e (.slice none 0 0) []).at_ w (fun _ => False) := ⟨Kd.R_nil d e w 0 _, fun _ h => h.elim⟩
theorem newClientT (w0 w : World) (L : List Thing) (h : St w0 w L) (id nodes retry : Int) :
  Calls Try.prog 7 #[.int .i64 id, .int .i64 nodes, .int .i64 retry] w fun e' w' => (confOk id nodes retry ∧ ∃ BC BA bl, e' = .returned (.tuple #[.pointer (some ⟨BC, 0, none⟩), .int .i64 0]) ∧ St w0 w' (cliT BC BA bl 0 (newAs id nodes retry) newCl (.slice none 0 0) (.slice none 0 0) (.slice none 0 0) (.slice none 0 0) ++ L)) ∨ (¬ confOk id nodes retry ∧ e' = .returned (.tuple #[.pointer none, .int .i64 2]) ∧ w' = w) := by
 refine (newClient w id nodes retry).mono (fun e' w' hp => ?_)
 rcases hp with ⟨hc, BC, BA, bl, rfl, h1, h2, h3, hC, hb⟩ | hp
 ·refine .inl ⟨hc, BC, BA, bl, rfl, h.fresh hb (S := fun k => k = BC ∨ k = BA ∨ k = bl) ?_ ?_⟩
  ·have hn := hC.ne
   have hn2 := hC.ask.lt.2.2
   refine ⟨fun k => k = BC, fun k => k = BA ∨ k = bl, ⟨hC.blk, fun _ => Iff.rfl⟩, ⟨fun k => k = BA, fun k => k = bl, ⟨hC.ask.blk, fun _ => Iff.rfl⟩, ⟨fun k => k = bl, fun _ => False, ⟨hC.ask.map, fun _ => Iff.rfl⟩, ⟨fun _ => False, fun _ => False, row_nil _ _ _, ⟨fun _ => False, fun _ => False, row_nil _ _ _, ⟨fun _ => False, fun _ => False, row_nil _ _ _, ⟨fun _ => False, fun _ => False, row_nil _ _ _, fun _ h => h, fun _ h _ => h, fun k => by simp⟩, fun _ h _ => h, fun k => by simp⟩, fun _ h _ => h, fun k => by simp⟩, fun _ h _ => h, fun k => by simp⟩, fun _ _ h => h, fun k => by simp⟩, ?_, fun _ => Iff.rfl⟩, ?_, fun _ => Iff.rfl⟩
   ·rintro k rfl e; exact hn2 e
   ·rintro k rfl (e | e); exact hn.1 e; exact hn.2.1 e
  ·rintro k (rfl | rfl | rfl) <;> assumption
 ·exact .inr hp
end Go.Proofs.Ytonedijkgddepaa.P
