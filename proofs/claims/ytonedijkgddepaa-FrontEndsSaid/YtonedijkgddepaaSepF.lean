/- front's asker and client, as_ things in memory. No conditions. -/
import Derived.Test.YtonedijkgddepaaSepB
import Derived.Test.YtonedijkgddepaaGF
import Derived.Test.YtonedijkgddepaaGA
import Derived.BigQuiet
import Derived.Deep.QuietTactic
namespace Go.Proofs.Ytonedijkgddepaa.P
open Go.RowKit Go.Maps Go.Proofs.YtonedijkgddepaaW.PrintWords Go.Proofs.YtonedijkgddepaaW.PrintLast Go.Proofs.YtonedijkgddepaaW.PrintMore
set_option linter.unusedVariables false
set_option linter.unusedSimpArgs false

def MapT (bl q : Nat) (M : List (Int × Int)) : Thing where
 at_ w S := MapAt NumP (.int .i64 0) w bl q M ∧ ∀ k, S k ↔ k = bl
 keep := fun ⟨h1, h2⟩ hk => ⟨h1.keep (hk bl ((h2 bl).2 rfl)) (fun _ _ h => h), h2⟩
 lt := fun ⟨h1, h2⟩ k hk => (h2 k).1 hk ▸ h1.lt
abbrev askT (B bl q : Nat) (s : As) : List Thing := [Blk B (askA s bl) 97, MapT bl q s.lead]
abbrev cliT (BC BA bl q : Nat) (a : As) (c : Cl) (v1 v2 v3 v4 : Value) : List Thing := [Blk BC (cliA BA c v1 v2 v3 v4) 91, Blk BA (askA a bl) 97, MapT bl q a.lead, Row k106 106 v1 c.call.entries, Row k108 108 v2 c.pieces, Row (Kd.int .i64) 3 v3 c.sweep, Row k42 42 v4 c.out]
theorem ask_in {w0 w : World} {B bl q : Nat} {s : As} {L : List Thing} (h : St w0 w (askT B bl q s ++ L)) : AskAt w B bl q s := by
 obtain ⟨_, _, _, h1, ⟨_, _, h2, _⟩, _⟩ := h.sts
 exact ⟨h1.1, h2.1⟩
theorem ask_out {w0 w w' : World} {B bl q q' : Nat} {s s' : As} {L : List Thing} (h : St w0 w (askT B bl q s ++ L)) (ha : AskAt w' B bl q' s') (hu : Upd w w' (SA B bl)) : St w0 w' (askT B bl q' s' ++ L) := by
 refine h.byUpd hu ?_
 rintro S ⟨S1, S2, h1, ⟨S3, S4, h2, h3, h4, h5⟩, h6, h7⟩
 refine ⟨fun k hk => ?_, S, ⟨S1, S2, ⟨ha.blk, h1.2⟩, ⟨S3, S4, ⟨ha.map, h2.2⟩, h3, h4, h5⟩, h6, h7⟩, fun k hk => .inl hk⟩
 rcases hk with hk | hk
 ·exact (h7 k).2 (.inl ((h1.2 k).2 hk))
 ·exact (h7 k).2 (.inr ((h5 k).2 (.inl ((h2.2 k).2 hk))))
theorem R_any {α : Type} {d : Kd α} {e : Nat} {w : World} {S : Nat → Prop} {v : Value} {xs : List α} (h : d.R e w 0 S v xs) : d.R e w 0 (fun _ => True) v xs := Kd.R_mono h (fun _ _ => trivial)
theorem cli_in {w0 w : World} {BC BA bl q : Nat} {a : As} {c : Cl} {v1 v2 v3 v4 : Value} {L : List Thing} (h : St w0 w (cliT BC BA bl q a c v1 v2 v3 v4 ++ L)) : CliAt w 0 BC BA bl q a c v1 v2 v3 v4 := by
 obtain ⟨_, _, _, h1, ⟨_, _, h2, ⟨_, _, h3, ⟨_, _, h4, ⟨_, _, h5, ⟨_, _, h6, ⟨_, _, h7, _⟩, _⟩, _⟩, _⟩, _⟩, _⟩, _⟩ := h.sts
 exact ⟨h1.1, ⟨h2.1, h3.1⟩, R_any h4.1, R_any h5.1, R_any h6.1, R_any h7.1, Nat.zero_le _⟩
theorem askTurnT (w0 w : World) (L : List Thing) (B bl q : Nat) (s : As) (h : St w0 w (askT B bl q s ++ L)) (hk : s.ok q) (g : Int) :
  Calls Try.prog 29 #[.pointer (some ⟨B, 0, none⟩), .int .i64 g] w fun e' w' => e' = .returned (.int .i64 (turnV s g).1) ∧ St w0 w' (askT B bl q (turnV s g).2 ++ L) :=
 (askTurn w B bl q s (ask_in h) hk g).mono (fun e' w' hp => ⟨hp.1, ask_out h hp.2.1 (hp.2.2.mono (fun k hk => Or.inl hk))⟩)
theorem ask_out2 {α β : Type} {d1 : Kd α} {d2 : Kd β} {e1 e2 : Nat} {ok1 ok2 : Nat → Prop} {v1 v2 : Value} {xs : List α} {ys : List β} {w0 w w' : World} {B bl q q' : Nat} {s s' : As} {L : List Thing} (h : St w0 w (askT B bl q s ++ L)) (ha : AskAt w' B bl q' s') (hu : Upd w w' (SA B bl)) (h1 : d1.R e1 w' w.heap.size ok1 v1 xs) (h2 : d2.R e2 w' w.heap.size ok2 v2 ys) (hne : ∀ t, t ∈ e1 :: d1.E → t ∈ e2 :: d2.E → False) :
  St w0 w' (askT B bl q' s' ++ Row d1 e1 v1 xs :: Row d2 e2 v2 ys :: L) := by
 have hlt := (ask_in h).lt
 refine St.byUpd (A := askT B bl q s) (A' := askT B bl q' s' ++ [Row d1 e1 v1 xs, Row d2 e2 v2 ys]) h hu ?_
 rintro S ⟨S1, S2, g1, ⟨S3, S4, g2, g3, g4, g5⟩, g6, g7⟩
 have b1 := Kd.R_bound h1
 have b2 := Kd.R_bound h2
 refine ⟨fun k hk => ?_, _, sts_append.2 ⟨S, _, ⟨S1, S2, ⟨ha.blk, g1.2⟩, ⟨S3, S4, ⟨ha.map, g2.2⟩, g3, g4, g5⟩, g6, g7⟩, ⟨_, _, ⟨Kd.R_lower b1 (Nat.zero_le _), fun k hk => hk.2.2.1⟩, ⟨_, fun _ => False, ⟨Kd.R_lower b2 (Nat.zero_le _), fun k hk => hk.2.2.1⟩, fun _ h => h, fun _ _ h => h, fun k => Iff.rfl⟩, ?_, fun k => Iff.rfl⟩, ?_, fun k => Iff.rfl⟩, ?_⟩
 ·rcases hk with hk | hk
  ·exact (g7 k).2 (.inl ((g1.2 k).2 hk))
  ·exact (g7 k).2 (.inr ((g5 k).2 (.inl ((g2.2 k).2 hk))))
 ·rintro k ⟨_, _, _, t, ht, cs, hc⟩ (⟨_, _, _, t2, ht2, cs2, hc2⟩ | hf)
  ·rw [hc] at hc2
   injection hc2 with hc2
   injection hc2 with _ hc2
   subst hc2
   exact hne _ ht ht2
  ·exact hf
 ·intro k hk hr
  have hb : k < w.heap.size := by
   rcases (g7 k).1 hk with e | e
   ·rw [(g1.2 k).1 e]; exact hlt.1
   ·rcases (g5 k).1 e with e | e
    ·rw [(g2.2 k).1 e]; exact hlt.2.1
    ·exact (g3 k e).elim
  rcases hr with hr | hr | hf
  ·exact absurd hr.2.1 (by omega)
  ·exact absurd hr.2.1 (by omega)
  ·exact hf
 ·rintro k (hk | hr | hr | hf)
  ·exact .inl hk
  ·exact .inr hr.2.1
  ·exact .inr hr.2.1
  ·exact hf.elim
theorem askRecvT (w0 w : World) (L : List Thing) (B bl q : Nat) (s : As) (h : St w0 w (askT B bl q s ++ L)) (hk : s.ok q) (p : S47) (vm vv vd vpc vpd : Value) (A3 A5 : Option Addr) (c3 c5 : Nat) (h3 : p.f6.f3.length ≤ c3) (h5 : p.f6.f5.length ≤ c5) (hr : ∀ W, Mem W L → Kd.C k115 W A3 p.f6.f3.length p.f6.f3 ∧ Kd.C k35 W A5 p.f6.f5.length p.f6.f5) (hl3 : p.f6.f3.length ≤ 1000) (hl5 : p.f6.f5.length ≤ 1000) :
  Calls Try.prog 24 #[.pointer (some ⟨B, 0, none⟩), .agg #[(.int .i64 p.f0), (.int .i64 p.f1), (.int .i64 p.f2), (.int .i64 p.f3), (.int .i64 p.f4.f0), (.int .i64 p.f4.f1), (.int .i64 p.f4.f2), (.int .i64 p.f4.f3), (.int .i64 p.f4.f4), (.int .i64 p.f4.f5), vm, vv, (.int .i64 p.f5.f0), (.int .i64 p.f5.f1), (.int .i64 p.f5.f2), (.int .i64 p.f5.f3), (.int .i64 p.f5.f4), (.string p.f5.f5), (.string p.f5.f6), (.string p.f5.f7), (.string p.f5.f8), (.int .i64 p.f5.f9), (.int .i64 p.f5.f10), (.int .i64 p.f5.f11.f0), (.string p.f5.f11.f1), (.int .i64 p.f5.f11.f2), (.int .i64 p.f5.f11.f3), (.int .i64 p.f5.f12.f0), (.int .i64 p.f5.f12.f1), (.int .i64 p.f5.f13), vd, (.int .i64 p.f6.f0), (.int .i64 p.f6.f1), (.int .i64 p.f6.f2), (.slice A3 p.f6.f3.length c3), (.slice none 0 0), (.slice A5 p.f6.f5.length c5), (.int .i64 p.f7.f0), vpc, vpd]] w fun e' w' => ∃ v3 v5, e' = .returned (.tuple #[.agg #[.int .i64 (recvV s p).2.1.f0, .int .i64 (recvV s p).2.1.f1, .int .i64 (recvV s p).2.1.f2, v3, .slice none 0 0, v5], .bool (recvV s p).2.2]) ∧ St w0 w' (askT B bl (q + 1) (recvV s p).1 ++ Row k115 115 v3 (recvV s p).2.1.f3 :: Row k35 35 v5 (recvV s p).2.1.f5 :: L) := by
 refine (askRecv w B bl q s (ask_in h) hk p vm vv vd vpc vpd A3 A5 c3 c5 h3 h5 (fun W hW => hr W ?_) hl3 hl5).mono (fun e' w' hp => ?_)
 ·obtain ⟨S, S1, S2, g1, ⟨S3, S4, g2, g3, g4, g5⟩, g6, g7⟩ := h.sts
  refine ⟨S4, g3.keep (fun k hk => hW.2 k (g3.lt k hk) ?_)⟩
  rintro (e | e)
  ·exact g6 k ((g1.2 k).2 e) ((g5 k).2 (.inr hk))
  ·exact g4 k ((g2.2 k).2 e) hk
 ·obtain ⟨v3, v5, rfl, r3, r5, ha, hu⟩ := hp
  exact ⟨v3, v5, rfl, ask_out2 h ha hu r3 r5 (by decide)⟩
end Go.Proofs.Ytonedijkgddepaa.P
