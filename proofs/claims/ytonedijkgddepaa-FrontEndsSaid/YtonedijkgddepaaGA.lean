/- front.Client, by hand: its state; nobody, Busy, New. No conditions. -/
import Derived.Test.YtonedijkgddepaaFF
import Derived.Test.YtonedijkgddepaaP5
namespace Go.Proofs.Ytonedijkgddepaa.P
open Go.RowKit Go.Maps Go.Proofs.YtonedijkgddepaaW.PrintWords Go.Proofs.YtonedijkgddepaaW.PrintLast Go.Proofs.YtonedijkgddepaaW.PrintMore
set_option linter.unusedVariables false
set_option linter.unusedSimpArgs false
structure Ca where
 kind : Int
 queue : Int
 max : Int
 secs : Int
 attempt : ByteArray
 entries : List S106
/-- A client, beside its asker. -/
structure Cl where
 call : Ca
 works : Bool
 started : Bool
 wants : Bool
 at_ : Int
 epoch : Int
 pieces : List S108
 step : Int
 sweep : List Int
 out : List S42
def cliA (BA : Nat) (c : Cl) (v1 v2 v3 v4 : Value) : Array Value := #[(.pointer (some ⟨BA, 0, none⟩)), (.int .i64 c.call.kind), (.int .i64 c.call.queue), (.int .i64 c.call.max), (.int .i64 c.call.secs), (.string c.call.attempt), v1, (.bool c.works), (.bool c.started), (.bool c.wants), (.int .i64 c.at_), (.int .i64 c.epoch), v2, (.int .i64 c.step), v3, v4]
structure CliAt (w : World) (base BC BA bl q : Nat) (a : As) (c : Cl) (v1 v2 v3 v4 : Value) : Prop where
 blk : w.heap[BC]? = some (.cells (cliA BA c v1 v2 v3 v4) 91 (0, 0))
 ask : AskAt w BA bl q a
 r1 : k106.R 106 w base (fun _ => True) v1 c.call.entries
 r2 : k108.R 108 w base (fun _ => True) v2 c.pieces
 r3 : (Kd.int .i64).R 3 w base (fun _ => True) v3 c.sweep
 r4 : k42.R 42 w base (fun _ => True) v4 c.out
 low : base ≤ w.heap.size
theorem R_types2 {α : Type} {d : Kd α} {e base : Nat} {ok : Nat → Prop} {v : Value} {xs : List α} {w w' : World} {S : Nat → Prop} (h : d.R e w base ok v xs) (hu : Upd w w' S) (hS : ∀ k cells q, S k → w.heap[k]? = some (.cells cells q (0, 0)) → q ∈ e :: d.E → False) : d.R e w' base ok v xs :=
 Kd.R_mono (Kd.R_step (Kd.R_bound h) (fun k hk hl => hu.kept.2 k hl (fun hs => by obtain ⟨_, _, _, q, hq, cells, hc⟩ := hk; exact hS k cells q hs hc hq))) (fun _ hk => hk.1)
theorem SA_types {w : World} {B bl q : Nat} {s : As} (h : AskAt w B bl q s) : ∀ k cells t, SA B bl k → w.heap[k]? = some (.cells cells t (0, 0)) → t = 97 := by
 rintro k cells t (rfl | rfl) hk
 ·rw [h.blk] at hk
  injection hk with hk
  injection hk with _ hk
  exact hk.symm
 ·obtain ⟨D, ⟨es, clock, h3, _⟩, _⟩ := h.map
  rw [h3] at hk
  cases hk
theorem CliAt.ne {w : World} {base BC BA bl q : Nat} {a : As} {c : Cl} {v1 v2 v3 v4 : Value} (h : CliAt w base BC BA bl q a c v1 v2 v3 v4) : BC ≠ BA ∧ BC ≠ bl ∧ BC < w.heap.size := by
 refine ⟨blk_ne h.blk h.ask.blk (by decide), fun e => ?_, blk_lt h.blk⟩
 obtain ⟨D, ⟨es, clock, h3, _⟩, _⟩ := h.ask.map
 rw [← e, h.blk] at h3
 cases h3
/-- The asker has done something. -/
theorem CliAt.asked {w w' : World} {base BC BA bl q q' : Nat} {a a' : As} {c : Cl} {v1 v2 v3 v4 : Value} (h : CliAt w base BC BA bl q a c v1 v2 v3 v4) (hu : Upd w w' (SA BA bl)) (ha : AskAt w' BA bl q' a') : CliAt w' base BC BA bl q' a' c v1 v2 v3 v4 := by
 have hn := h.ne
 refine ⟨hu.block h.blk (fun e => by rcases e with e | e; exact hn.1 e; exact hn.2.1 e), ha, R_types2 h.r1 hu ?_, R_types2 h.r2 hu ?_, R_types2 h.r3 hu ?_, R_types2 h.r4 hu ?_, Nat.le_trans h.low hu.kept.1⟩ <;>
 ·intro k cells t hk hc ht
  have := SA_types h.ask k cells t hk hc
  subst this
  revert ht
  decide
theorem CliAt.below {w w' : World} {base BC BA bl q : Nat} {a : As} {c : Cl} {v1 v2 v3 v4 : Value} (h : CliAt w base BC BA bl q a c v1 v2 v3 v4) (hb : Below w.heap.size w w') : CliAt w' base BC BA bl q a c v1 v2 v3 v4 :=
 ⟨blk_below h.blk hb, h.ask.below hb, Kd.R_below h.r1 hb, Kd.R_below h.r2 hb, Kd.R_below h.r3 hb, Kd.R_below h.r4 hb, Nat.le_trans h.low hb.size⟩
/-- A cell of the client's own is written (none of its rows). -/
theorem CliAt.set {w : World} {base BC BA bl q : Nat} {a : As} {c c' : Cl} {v1 v2 v3 v4 : Value} (h : CliAt w base BC BA bl q a c v1 v2 v3 v4) (i : Nat) (u : Value) (he : (cliA BA c v1 v2 v3 v4).setIfInBounds i u = cliA BA c' v1 v2 v3 v4)
  (e1 : c'.call.entries = c.call.entries := by rfl) (e2 : c'.pieces = c.pieces := by rfl) (e3 : c'.sweep = c.sweep := by rfl) (e4 : c'.out = c.out := by rfl) : CliAt (w.setCell ⟨BC, i, none⟩ u) base BC BA bl q a c' v1 v2 v3 v4 := by
 have hn := h.ne
 refine ⟨by rw [← he]; exact blk_set h.blk i u, h.ask.keep (Below.heap_setCell _ ⟨BC, i, none⟩ _ _ hn.1.symm) (Below.heap_setCell _ ⟨BC, i, none⟩ _ _ hn.2.1.symm), ?_, ?_, ?_, ?_, by simpa using h.low⟩
 ·rw [e1]; exact Kd.R_set h.r1 h.blk (by decide) i u
 ·rw [e2]; exact Kd.R_set h.r2 h.blk (by decide) i u
 ·rw [e3]; exact Kd.R_set h.r3 h.blk (by decide) i u
 ·rw [e4]; exact Kd.R_set h.r4 h.blk (by decide) i u
/-- A block of another type is written. -/
theorem CliAt.far {w w' : World} {base BC BA bl q : Nat} {a : As} {c : Cl} {v1 v2 v3 v4 : Value} (h : CliAt w base BC BA bl q a c v1 v2 v3 v4) {g : Nat} (hu : Upd w w' (fun k => k = g)) {cs : Array Value} {T : Nat} (hg : w.heap[g]? = some (.cells cs T (0, 0))) (hT : T ∉ [91, 97, 106, 108, 3, 42, 115, 9, 35]) : CliAt w' base BC BA bl q a c v1 v2 v3 v4 := by
 have n1 : BC ≠ g := blk_ne h.blk hg (fun e => hT (by rw [← e]; decide))
 have n2 : BA ≠ g := blk_ne h.ask.blk hg (fun e => hT (by rw [← e]; decide))
 have n3 : bl ≠ g := fun e => by
  obtain ⟨D, ⟨es, clock, h3, _⟩, _⟩ := h.ask.map
  rw [e, hg] at h3
  cases h3
 have ht : ∀ (L : List Nat), (∀ x ∈ L, x ∈ [91, 97, 106, 108, 3, 42, 115, 9, 35]) → ∀ k cells q, k = g → w.heap[k]? = some (.cells cells q (0, 0)) → q ∈ L → False := by
  intro L hL k cells q hk hc hq
  subst hk
  rw [hg] at hc
  injection hc with hc
  injection hc with _ hc
  subst hc
  exact hT (hL _ hq)
 exact ⟨hu.block h.blk n1, h.ask.keep (hu.kept.2 _ h.ask.lt.1 n2) (hu.kept.2 _ h.ask.lt.2.1 n3), R_types2 h.r1 hu (ht _ (by decide)), R_types2 h.r2 hu (ht _ (by decide)), R_types2 h.r3 hu (ht _ (by decide)), R_types2 h.r4 hu (ht _ (by decide)), Nat.le_trans h.low hu.kept.1⟩
theorem CliAt.mono {w : World} {base BC BA bl q q' : Nat} {a : As} {c : Cl} {v1 v2 v3 v4 : Value} (h : CliAt w base BC BA bl q a c v1 v2 v3 v4) (hq : q ≤ q') : CliAt w base BC BA bl q' a c v1 v2 v3 v4 := ⟨h.blk, h.ask.mono hq, h.r1, h.r2, h.r3, h.r4, h.low⟩
/-- The client's blocks. -/
def SC (BC BA bl : Nat) : Nat → Prop := fun k => k = BC ∨ SA BA bl k
set_option maxHeartbeats 4000000 in
set_option maxRecDepth 100000 in
theorem cliNobody (w : World) (base BC BA bl q : Nat) (a : As) (c : Cl) (v1 v2 v3 v4 : Value) (h : CliAt w base BC BA bl q a c v1 v2 v3 v4) (hi : a.id ≠ 0) :
  Calls Try.prog 35 #[.pointer (some ⟨BC, 0, none⟩)] w fun e' w' => e' = .returned (.bool false) ∧ w' = w := by
 have H := Aside0.mk h
 have HI := Aside0.mk hi
 have HB := Aside0.mk h.blk
 clear h hi
 have a0 : w.cell? ⟨BC, 0, none⟩ = some (.pointer (some ⟨BA, 0, none⟩)) := (blk_cell HB.out 0).trans rfl
 go_enter Try.func35, Try.ntmps35
 go_wp2_with (go_at_call 50; (with_reducible refine (askNoneOk _ BA bl q a H.out.ask HI.out).mono ?_); rintro e1 w1 ⟨rfl, rfl⟩)
 go_ret
 exact ⟨rfl, rfl⟩
set_option maxHeartbeats 4000000 in
set_option maxRecDepth 100000 in
theorem cliBusy (w : World) (base BC BA bl q : Nat) (a : As) (c : Cl) (v1 v2 v3 v4 : Value) (h : CliAt w base BC BA bl q a c v1 v2 v3 v4) (hi : a.id ≠ 0) :
  Calls Try.prog 16 #[.pointer (some ⟨BC, 0, none⟩)] w fun e' w' => e' = .returned (.bool c.works) ∧ w' = w := by
 have H := Aside0.mk h
 have HI := Aside0.mk hi
 have HB := Aside0.mk h.blk
 clear h hi
 have a7 : w.cell? ⟨BC, 7, none⟩ = some (.bool c.works) := (blk_cell HB.out 7).trans rfl
 go_enter Try.func16, Try.ntmps16
 go_wp2_with (go_at_call 35; (with_reducible refine (cliNobody _ base BC BA bl q a c v1 v2 v3 v4 H.out HI.out).mono ?_); rintro e1 w1 ⟨rfl, rfl⟩)
 go_ret
 exact ⟨rfl, rfl⟩
def newCl : Cl := ⟨⟨0, 0, 0, 0, ⟨#[]⟩, []⟩, false, false, false, 0, 0, [], 0, [], []⟩
set_option maxHeartbeats 4000000 in
set_option maxRecDepth 100000 in
theorem newClient (w : World) (id nodes retry : Int) :
  Calls Try.prog 7 #[.int .i64 id, .int .i64 nodes, .int .i64 retry] w fun e' w' => (confOk id nodes retry ∧ ∃ BC BA bl, e' = .returned (.tuple #[.pointer (some ⟨BC, 0, none⟩), .int .i64 0]) ∧ w.heap.size ≤ BC ∧ w.heap.size ≤ BA ∧ w.heap.size ≤ bl ∧ CliAt w' w.heap.size BC BA bl 0 (newAs id nodes retry) newCl (.slice none 0 0) (.slice none 0 0) (.slice none 0 0) (.slice none 0 0) ∧ Below w.heap.size w w') ∨ (¬ confOk id nodes retry ∧ e' = .returned (.tuple #[.pointer none, .int .i64 2]) ∧ w' = w) := by
 by_cases hc : confOk id nodes retry
 ·have HC := Aside0.mk hc
  clear hc
  go_enter Try.func7, Try.ntmps7
  go_wp2_with (go_at_call 18; (with_reducible refine (newAskerC _ id nodes retry).mono ?_); rintro e1 w1 (⟨_, BA, bl, rfl, h1, h2, h3, h4⟩ | ⟨hn, _⟩); rotate_left; exact (hn HC.out).elim; have H3 := Aside0.mk h3; have H4 := Aside0.mk h4; have H12 := Aside0.mk (And.intro h1 h2); clear h1 h2 h3 h4)
  go_ret2
  have hs := H4.out.size
  refine Or.inl ⟨HC.out, w1.heap.size, BA, bl, rfl, hs, H12.out.1, H12.out.2, ⟨heap_alloc_new w1 (.cells (cliA BA newCl (.slice none 0 0) (.slice none 0 0) (.slice none 0 0) (.slice none 0 0)) 91), H3.out.below (below_alloc (Below.refl _ _) _), Kd.R_nil _ _ _ _ _, Kd.R_nil _ _ _ _ _, Kd.R_nil _ _ _ _ _, Kd.R_nil _ _ _ _ _, Nat.le_trans hs (by simp)⟩, below_alloc H4.out _⟩
 ·have HC := Aside0.mk hc
  clear hc
  go_enter Try.func7, Try.ntmps7
  go_wp2_with (go_at_call 18; (with_reducible refine (newAskerC _ id nodes retry).mono ?_); rintro e1 w1 (⟨hn, _⟩ | ⟨_, rfl, rfl⟩); exact (HC.out hn).elim)
  go_ret2
  exact Or.inr ⟨HC.out, rfl, rfl⟩
end Go.Proofs.Ytonedijkgddepaa.P
