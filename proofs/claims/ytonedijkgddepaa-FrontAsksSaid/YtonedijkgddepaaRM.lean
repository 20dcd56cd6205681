/- The asker's calls and the comparisons, as_ the law FrontAsks meets them, by hand. No conditions. -/
import Derived.Test.YtonedijkgddepaaRL
import Derived.Test.YtonedijkgddepaaSepG
import Derived.Test.YtonedijkgddepaaRF
import Derived.Test.YtonedijkgddepaaRG
namespace Go.Proofs.Ytonedijkgddepaa.P
open Go.RowKit Go.Maps Go.Proofs.YtonedijkgddepaaW.PrintWords Go.Proofs.YtonedijkgddepaaW.PrintLast Go.Proofs.YtonedijkgddepaaW.PrintMore
set_option linter.unusedVariables false
set_option linter.unusedSimpArgs false
theorem askAskT (w0 w : World) (L : List Thing) (B bl q : Nat) (s : As) (h : St w0 w (askT B bl q s ++ L)) (hk : s.ok q) (g : Int) (c : S38) (hc : c.f14 = []) :
  Calls Try.prog 27 #[.pointer (some ⟨B, 0, none⟩), .int .i64 g, .agg #[(.int .i64 c.f0), (.int .i64 c.f1), (.int .i64 c.f2), (.int .i64 c.f3), (.int .i64 c.f4), (.string c.f5), (.string c.f6), (.string c.f7), (.string c.f8), (.int .i64 c.f9), (.int .i64 c.f10), (.int .i64 c.f11.f0), (.string c.f11.f1), (.int .i64 c.f11.f2), (.int .i64 c.f11.f3), (.int .i64 c.f12.f0), (.int .i64 c.f12.f1), (.int .i64 c.f13), (.slice none 0 0)]] w fun e' w' => e' = .returned (.int .i64 (askV s g c).1) ∧ St w0 w' (askT B bl (q + 1) (askV s g c).2 ++ L) :=
 (askAsk w B bl q s (ask_in h) hk g c hc).mono (fun e' w' hp => ⟨hp.1, ask_out h hp.2.1 (hp.2.2.mono (fun k hk => Or.inl hk))⟩)
theorem askBusyT (w0 w : World) (L : List Thing) (B bl q : Nat) (s : As) (h : St w0 w (askT B bl q s ++ L)) (hk : s.ok q) :
  Calls Try.prog 31 #[.pointer (some ⟨B, 0, none⟩)] w fun e' w' => e' = .returned (.bool s.busy) ∧ St w0 w' (askT B bl q s ++ L) :=
 (askBusyOk w B bl q s (ask_in h) (by have := hk.id1; omega)).mono (fun e' w' hp => ⟨hp.1, h.same hp.2⟩)
theorem askNumT (w0 w : World) (L : List Thing) (B bl q : Nat) (s : As) (h : St w0 w (askT B bl q s ++ L)) (hk : s.ok q) :
  Calls Try.prog 32 #[.pointer (some ⟨B, 0, none⟩)] w fun e' w' => e' = .returned (.int .i64 s.num) ∧ St w0 w' (askT B bl q s ++ L) :=
 (askNumOk w B bl q s (ask_in h) (by have := hk.id1; omega)).mono (fun e' w' hp => ⟨hp.1, h.same hp.2⟩)
theorem newAskerT (w0 w : World) (L : List Thing) (h : St w0 w L) (id nodes retry : Int) :
  Calls Try.prog 18 #[.int .i64 id, .int .i64 nodes, .int .i64 retry] w fun e' w' => (confOk id nodes retry ∧ ∃ B bl, e' = .returned (.tuple #[.pointer (some ⟨B, 0, none⟩), .int .i64 0]) ∧ St w0 w' (askT B bl 0 (newAs id nodes retry) ++ L)) ∨ (¬ confOk id nodes retry ∧ e' = .returned (.tuple #[.pointer none, .int .i64 2]) ∧ St w0 w' L) := by
 refine (newAskerC w id nodes retry).mono (fun e' w' hp => ?_)
 rcases hp with ⟨hc, B, bl, rfl, h1, h2, hA, hb⟩ | hp
 ·refine .inl ⟨hc, B, bl, rfl, h.fresh hb (S := fun k => k = B ∨ k = bl) ?_ ?_⟩
  ·have hn := hA.lt.2.2
   exact ⟨fun k => k = B, fun k => k = bl, ⟨hA.blk, fun _ => Iff.rfl⟩, ⟨fun k => k = bl, fun _ => False, ⟨hA.map, fun _ => Iff.rfl⟩, fun _ h => h, fun _ _ h => h, fun k => by simp⟩, by rintro k rfl e; exact hn e, fun _ => Iff.rfl⟩
  ·rintro k (rfl | rfl)
   ·exact h1
   ·exact h2
 ·exact .inr ⟨hp.1, hp.2.1, h.same hp.2.2⟩
theorem tick_shape (s : As) (q : Nat) (hk : s.ok q) : (tickV s).2 = [] ∨ ∃ x1 x2 x3, (tickV s).2 = [cmdPk 2 x1 x2 x3 s.cmd] := by
 unfold tickV
 split
 ·split
  ·split
   ·exact .inl rfl
   ·exact .inr ⟨_, _, _, rfl⟩
  ·exact .inr ⟨_, _, _, rfl⟩
 ·exact .inl rfl
theorem samePkT (w0 w : World) (L : List Thing) (v : Value) (A : Option Addr) (n : Nat) (s : As) (q : Nat) (hk : s.ok q) (h : St w0 w (Row k47 47 v (tickV s).2 :: Row k47 47 (.slice A (tickV s).2.length n) (tickV s).2 :: L)) :
  Calls Try.prog 21 #[v, .slice A (tickV s).2.length n] w fun e' w' => e' = .returned (.bool true) ∧ St w0 w' L := by
 obtain ⟨A1, c1, rfl, _, _⟩ := h.row 0 rfl
 rcases tick_shape s q hk with hx | ⟨x1, x2, x3, hx⟩
 ·rw [hx] at h ⊢
  exact samePk0 w0 w L A1 A c1 n h.drop.drop
 ·rw [hx] at h ⊢
  obtain ⟨g1, rfl⟩ := h.head 0 rfl (Nat.zero_lt_one)
  obtain ⟨g2, rfl⟩ := h.head 1 rfl (Nat.zero_lt_one)
  exact samePk1 w0 w L g1 g2 _ _ c1 n 2 x1 x2 x3 s.cmd hk.data0 h
theorem recv_f4 (s : As) (p : S47) (h : p.f6.f4 = []) : (recvV s p).2.1.f4 = [] := by
 unfold recvV
 split
 ·split
  ·rfl
  ·exact h
 ·rfl
theorem recv_len (s : As) (p : S47) (h3 : p.f6.f3.length ≤ 12) (h5 : p.f6.f5.length ≤ 12) : (recvV s p).2.1.f3.length ≤ 12 ∧ (recvV s p).2.1.f5.length ≤ 12 := by
 unfold recvV
 split
 ·split
  ·exact ⟨Nat.zero_le 12, Nat.zero_le 12⟩
  ·exact ⟨h3, h5⟩
 ·exact ⟨Nat.zero_le 12, Nat.zero_le 12⟩
theorem replyT (w0 w : World) (L : List Thing) (r : S42) (v3 v5 : Value) (A3 A5 : Option Addr) (c3 c5 : Nat) (h4 : r.f4 = []) (h3 : r.f3.length ≤ 12) (h5 : r.f5.length ≤ 12) (h : St w0 w (Row k115 115 v3 r.f3 :: Row k35 35 v5 r.f5 :: L))
  (hr : ∀ W, Mem W L → (Kd.C k115 W A3 r.f3.length r.f3 ∧ r.f3.length ≤ c3) ∧ Kd.C k35 W A5 r.f5.length r.f5 ∧ r.f5.length ≤ c5) :
  Calls Try.prog 26 #[.agg #[.int .i64 r.f0, .int .i64 r.f1, .int .i64 r.f2, v3, .slice none 0 0, v5], .agg #[.int .i64 r.f0, .int .i64 r.f1, .int .i64 r.f2, .slice A3 r.f3.length c3, .slice none 0 0, .slice A5 r.f5.length c5]] w fun e' w' => e' = .returned (.bool true) ∧ St w0 w' L := by
 obtain ⟨a3, d3, rfl, l3, g3⟩ := h.row 0 rfl
 obtain ⟨a5, d5, rfl, l5, g5⟩ := h.row 1 rfl
 obtain ⟨⟨r1, r2⟩, r3, r4⟩ := hr w h.drop.drop.mem
 obtain ⟨k, hk⟩ := (reply_self r.f0 r.f1 r.f2 r.f3 [] r.f5 (by omega) (by decide) (by omega)).rounds
 exact (racewayref05_SameReply.calls k r.f0 r.f1 r.f2 a3 d3 r.f3 none 0 [] a5 d5 r.f5 r.f0 r.f1 r.f2 A3 c3 r.f3 none 0 [] A5 c5 r.f5 true w g3 l3 (C_zero _ _ _) (Nat.zero_le _) g5 l5 r1 r2 (C_zero _ _ _) (Nat.zero_le _) r3 r4 hk).mono (fun e' w' hp => ⟨hp.1, h.drop.drop.below hp.2⟩)
/-- What the reference's reply is read from: the packet's own rows, or none. -/
theorem reply_reads {L : List Thing} {x : S42} {p : S47} {A3 A5 B3 B5 : Option Addr} {c3 c5 d3 d5 : Nat} (hd : (x = p.f6 ∧ B3 = A3 ∧ d3 = c3 ∧ B5 = A5 ∧ d5 = c5) ∨ (x = z42 ∧ B3 = none ∧ d3 = 0 ∧ B5 = none ∧ d5 = 0))
  (hr : ∀ W, Mem W L → (Kd.C k115 W A3 p.f6.f3.length p.f6.f3 ∧ p.f6.f3.length ≤ c3) ∧ Kd.C k35 W A5 p.f6.f5.length p.f6.f5 ∧ p.f6.f5.length ≤ c5) :
  ∀ W, Mem W L → (Kd.C k115 W B3 x.f3.length x.f3 ∧ x.f3.length ≤ d3) ∧ Kd.C k35 W B5 x.f5.length x.f5 ∧ x.f5.length ≤ d5 := by
 intro W hW
 rcases hd with ⟨rfl, rfl, rfl, rfl, rfl⟩ | ⟨rfl, rfl, rfl, rfl, rfl⟩
 ·exact hr W hW
 ·exact ⟨⟨C_zero _ _ _, Nat.zero_le _⟩, C_zero _ _ _, Nat.zero_le _⟩
theorem few_len (p : S47) : (fewV p).f6.f3.length ≤ 12 ∧ (fewV p).f6.f5.length ≤ 12 := by
 unfold fewV
 simp only [List.length_take]
 omega
theorem own_f6 (s : As) (p : S47) : (ownV s p).f6 = p.f6 ∧ (ownV s p).f7 = p.f7 ∧ (ownV s p).f8 = p.f8 ∧ (ownV s p).f5.f14 = p.f5.f14 := by
 unfold ownV
 split <;> exact ⟨rfl, rfl, rfl, rfl⟩
end Go.Proofs.Ytonedijkgddepaa.P
