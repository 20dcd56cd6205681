/- front.Client, by hand: Result. No conditions. -/
import Derived.Test.YtonedijkgddepaaSq
import Derived.Test.YtonedijkgddepaaGQ
namespace Go.Proofs.Ytonedijkgddepaa.P
open Go.Sq
open Go.RowKit Go.Maps Go.Proofs.YtonedijkgddepaaW.PrintWords Go.Proofs.YtonedijkgddepaaW.PrintLast Go.Proofs.YtonedijkgddepaaW.PrintMore
set_option linter.unusedVariables false
set_option linter.unusedSimpArgs false

/-- A reply's own cells; the rows that it names are another's. -/
def kRepK (x : S42) (cs : List Value) : Prop := ∃ A3 c3 A4 c4 A5 c5, cs = [.int .i64 x.f0, .int .i64 x.f1, .int .i64 x.f2, .slice A3 x.f3.length c3, .slice A4 x.f4.length c4, .slice A5 x.f5.length c5]
def kRep : Kd S42 where
 sz := 6
 E := []
 K := fun _ x cs => kRepK x cs
 M := fun _ _ _ x cs => kRepK x cs
 K_len := by rintro w x cs ⟨_, _, _, _, _, _, rfl⟩; rfl
 K_one := by rintro w x cs ⟨_, _, _, _, _, _, rfl⟩ u hu; simp at hu; rcases hu with rfl | rfl | rfl | rfl | rfl | rfl <;> rfl
 K_below := fun _ h => h
 K_of_M := fun h => h
 M_mono := fun _ h => h
 M_bound := fun h => h
 M_move := fun _ h => h
 M_lower := fun _ h => h
theorem kRep_of {w : World} {A : Option Addr} {n : Nat} {xs : List S42} (h : Kd.C k42 w A n xs) : Kd.C kRep w A n xs := by
 refine ⟨h.1, h.2.1, fun hn => ?_⟩
 obtain ⟨ad, e, hc⟩ := h.2.2 hn
 refine ⟨ad, e, fun j x hx => ?_⟩
 obtain ⟨c, h1, h2, h3⟩ := hc j x hx
 refine ⟨c, h1, ?_, h3⟩
 obtain ⟨A3, c3, A4, c4, A5, c5, rfl, _⟩ := k42_open h2
 exact ⟨A3, c3, A4, c4, A5, c5, rfl⟩
def cloneReply.f (l0 : List S42) : Option (List S42) := if l0.length * 96 ≤ 140737488355328 then some l0 else none
set_option maxHeartbeats 2000000 in
theorem cloneReply.calls (A0 : Option Addr) (c0 : Nat) (l0 : List S42) (r : List S42) (w : World) (hr0 : Kd.C kRep w A0 l0.length l0) (hc0 : l0.length ≤ c0) (h : cloneReply.f l0 = some r) :
  Calls Try.prog 42 #[.slice A0 l0.length c0] w fun e w' => ∃ v0_ : Value, e = .returned v0_ ∧ Kd.R kRep 42 w' w.heap.size (fun _ => True) v0_ r ∧ Below w.heap.size w w' := by
 unfold cloneReply.f at h
 by_cases hl : l0.length * 96 ≤ 140737488355328
 ·rw [if_pos hl] at h
  obtain rfl := Option.some.inj h
  clear h
  have q : ∀ (w : World) (a : Option Addr) (n c n' c' : Nat), (binOp .eql 66 (.slice a n c) (.slice none n' c')).run Try.prog w = .ok (.bool a.isNone) w := fun w a n c n' c' => Lib.run_eql_slice_nil w _ _ a n c n' c' Try.underlying66
  cases A0 with
  | none =>
   have h0 : l0 = [] := by
    cases l0 with
    | nil => rfl
    | cons x l => obtain ⟨ad, he, _⟩ := hr0.2.2 (by simp); cases he
   subst h0
   go_enter Try.func42, Try.ntmps42
   go_wp2
   go_ret
   exact ⟨_, rfl, Kd.R_nil _ _ _ _ _, Below.refl _ _⟩
  | some ad =>
   have HR := Aside0.mk hr0
   clear hr0
   go_enter Try.func42, Try.ntmps42
   go_wp2_with (at_builtin; refine Kd.R_append_rows kRep (w0 := w) w.heap.size rfl _ _ 66 42 (.agg #[(.int .i64 0), (.int .i64 0), (.int .i64 0), (.slice none 0 0), (.slice none 0 0), (.slice none 0 0)]) 96 rfl Try.underlying66 info42 rfl (by decide) (by omega) (.slice (some ⟨w.heap.size, 0, none⟩) 0 0) [] l0 (some ad) l0.length c0 (fun _ => True) (fun _ => False) rfl rfl ⟨fun _ _ => trivial, [], ⟨by simp, .inr ⟨w.heap.size, 0, #[], rfl, Nat.le_refl _, heap_alloc_new w _, Nat.le_refl _, Nat.zero_le _, by simp, by simp⟩⟩, ⟨by simp, fun j p hj => by simp at hj⟩⟩ (Kd.C_alloc HR.out _) (fun _ _ h => h) (fun _ h => h.elim) (fun _ _ => trivial) (below_alloc (Below.refl _ _) _) (by simp) (by simp; omega) ?_; intro v5 w5 hO5 hX5 hg5 hat5)
   go_ret
   exact ⟨v5, rfl, hO5, hX5⟩
 ·rw [if_neg hl] at h; cases h

set_option maxHeartbeats 4000000 in
set_option maxRecDepth 100000 in
theorem cliResultT (w0 w : World) (L : List Thing) (BC BA bl q : Nat) (a : As) (c : Cl) (v1 v2 v3 v4 : Value) (h : St w0 w (cliT BC BA bl q a c v1 v2 v3 v4 ++ L)) (hi : a.id ≠ 0) (hl : c.out.length ≤ 10000) :
  Calls Try.prog 17 #[.pointer (some ⟨BC, 0, none⟩)] w fun e' w' => ∃ A c', e' = .returned (.tuple #[.slice A c.out.length c', .bool (c.started && !c.works)]) ∧ St w0 w' (Row kRep 42 (.slice A c.out.length c') c.out :: cliT BC BA bl q a c v1 v2 v3 v4 ++ L) := by
 have H := Aside0.mk h
 have HI := Aside0.mk hi
 have HL := Aside0.mk hl
 clear h hi hl
 obtain ⟨A4, c4, rfl, _, _⟩ := H.out.row 6 rfl
 refine calls_hide fun R HPOST => ?_
 go_enter Try.func17, Try.ntmps17
 go_upto_region 0 with (fail)
 go_upto_region 1 with (fail)
 rcases Bool.eq_false_or_eq_true c.started with q3 | q3
 ·have Xq3 := Aside0.mk q3
  go_upto_region 3 with (first | (go_at_call 35; (with_reducible refine (cliNobody _ 0 BC BA bl q a c v1 v2 v3 (.slice A4 c.out.length c4) (cli_in (L := L) (H.out)) HI.out).mono ?_); rintro e1 w2 ⟨rfl, hw_⟩; have S1 := Aside0.mk (H.out.same hw_); clear hw_))
  have S5 := Aside0.mk S1.out.drew
  refine start_ (n := 18) (S := fun w' => St w0 w' (Blk BC (cliA BA c v1 v2 v3 (.slice A4 c.out.length c4)) 91 :: Blk BA (askA a bl) 97 :: MapT bl q a.lead :: Row k106 106 v1 c.call.entries :: Row k108 108 v2 c.pieces :: Row (Kd.int .i64) 3 v3 c.sweep :: Row k42 42 (.slice A4 c.out.length c4) c.out :: L)) (ds := []) (bits 18 0) (by kernel_rfl) rfl rfl (S1.out).drew (fun hHeld => ?_)
  generalize w2.drew = w4 at S5 hHeld ⊢
  refine pu 0 6 (bits 18 1) ?_ rfl rfl (by kernel_rfl) (fun _ _ _ h => h) (by rfl) ?_ ?_ ?_ ?_
  rotate_left
  ·intro w'; go_simp; with_reducible rfl
  rotate_left
  ·simp only [Act.put, sqA, sqB, sqC, i64_w, i32_w]; rfl
  refine pu 1 7 (bits 18 3) ?_ rfl rfl (by kernel_rfl) (fun _ _ _ h => h) (by rfl) ?_ ?_ ?_ ?_
  rotate_left
  ·intro w'; go_simp; with_reducible rfl
  rotate_left
  ·simp only [Act.put, sqA, sqB, sqC, i64_w, i32_w]; rfl
  refine pu 2 8 (bits 18 7) ?_ rfl rfl (by kernel_rfl) (fun _ _ _ h => h) (by rfl) ?_ ?_ ?_ ?_
  rotate_left
  ·intro w'; go_simp; with_reducible rfl
  rotate_left
  ·simp only [Act.put, sqA, sqB, sqC, i64_w, i32_w]; rfl
  refine pu 5 11 (bits 18 39) ?_ rfl rfl (by kernel_rfl) (fun _ _ _ h => h) (by rfl) ?_ ?_ ?_ ?_
  rotate_left
  ·intro w'; go_simp; with_reducible rfl
  rotate_left
  ·simp only [Act.put, sqA, sqB, sqC, i64_w, i32_w]; rfl
  refine pu 6 12 (bits 18 103) ?_ rfl rfl (by kernel_rfl) (fun _ _ _ h => h) (by rfl) ?_ ?_ ?_ ?_
  rotate_left
  ·intro w'; go_simp; with_reducible rfl
  rotate_left
  ·simp only [Act.put, sqA, sqB, sqC, i64_w, i32_w]; rfl
  refine pu 7 13 (bits 18 231) ?_ rfl rfl (by kernel_rfl) (fun _ _ _ h => h) (by rfl) ?_ ?_ ?_ ?_
  rotate_left
  ·intro w'; go_simp; with_reducible rfl
  rotate_left
  ·simp only [Act.put, sqA, sqB, sqC, i64_w, i32_w]; rfl
  refine tk 3 9 (bits 18 239) ?_ rfl rfl (by kernel_rfl) (fun _ _ _ h => h) (by rfl) ?_ hHeld ?_ ?_ ?_
  rotate_left
  ·intro w' hw'; have s0 : w'.cell? ⟨BC, 15, none⟩ = some (.slice A4 c.out.length c4) := hw'.cell 0 15 rfl rfl; go_simp; with_reducible rfl
  rotate_left
  ·simp only [Act.put, sqA, sqB, sqC, i64_w, i32_w]; rfl
  refine tk 8 14 (bits 18 495) ?_ rfl rfl (by kernel_rfl) (fun _ _ _ h => h) (by rfl) ?_ hHeld ?_ ?_ ?_
  rotate_left
  ·intro w' hw'; have s0 : w'.cell? ⟨BC, 8, none⟩ = some (.bool true) := (show w'.cell? ⟨BC, 8, none⟩ = some (.bool c.started) from hw'.cell 0 8 rfl rfl).trans (by rw [q3]); go_simp; with_reducible rfl
  rotate_left
  ·simp only [Act.put, sqA, sqB, sqC, i64_w, i32_w]; rfl
  refine one_ (i := 4) (N := some 10) (bits 18 511) rfl rfl (by kernel_rfl) (by decide) (fun K hK => ?_)
  refine goes_ Try.func42 (by kernel_rfl) rfl #[(.slice A4 c.out.length c4)] (by rfl) rfl rfl (by (try simp only [List.map_toArray, List.map_cons, List.map_nil]); first | done | rfl) ?_
  with_reducible refine (cloneReply.calls A4 c4 c.out c.out _ (kRep_of (S5.out.reads 6 rfl).1) (S5.out.reads 6 rfl).2 (by unfold cloneReply.f; rw [if_pos (by have := HL.out; omega)])).mono ?_
  rintro e1 w7 ⟨vo, rfl, hR_, hb_⟩
  obtain ⟨Ao, co, rfl⟩ := Kd.R_slice hR_
  have S6 := Aside0.mk (S5.out.newRow hb_ hR_)
  clear hb_ hR_
  refine ⟨_, rfl, ?_⟩
  refine hK.out _ _ (((S6.out).erase 0)) ?_
  clear hHeld
  intro hHeld
  clear hK K
  refine norm_ (a' := ?_) ?_ ?_
  rotate_left
  ·show Act.put _ (some 10) _ = _; simp only [Act.put, sqA, sqB, sqC, i64_w, i32_w]; rfl
  refine pu 9 15 (bits 18 1023) ?_ rfl rfl (by kernel_rfl) (fun _ _ _ h => h) (by rfl) ?_ ?_ ?_ ?_
  rotate_left
  ·intro w'; go_simp; with_reducible rfl
  rotate_left
  ·simp only [Act.put, sqA, sqB, sqC, i64_w, i32_w]; rfl
  refine pu 10 16 (bits 18 2047) ?_ rfl rfl (by kernel_rfl) (fun _ _ _ h => h) (by rfl) ?_ ?_ ?_ ?_
  rotate_left
  ·intro w'; go_simp; with_reducible rfl
  rotate_left
  ·simp only [Act.put, sqA, sqB, sqC, i64_w, i32_w]; rfl
  refine pu 11 17 (bits 18 4095) ?_ rfl rfl (by kernel_rfl) (fun _ _ _ h => h) (by rfl) ?_ ?_ ?_ ?_
  rotate_left
  ·intro w'; go_simp; with_reducible rfl
  rotate_left
  ·simp only [Act.put, sqA, sqB, sqC, i64_w, i32_w]; rfl
  refine pu 12 18 (bits 18 8191) ?_ rfl rfl (by kernel_rfl) (fun _ _ _ h => h) (by rfl) ?_ ?_ ?_ ?_
  rotate_left
  ·intro w'; go_simp; with_reducible rfl
  rotate_left
  ·simp only [Act.put, sqA, sqB, sqC, i64_w, i32_w]; rfl
  refine pu 16 2 (bits 18 73727) ?_ rfl rfl (by kernel_rfl) (fun _ _ _ h => h) (by rfl) ?_ ?_ ?_ ?_
  rotate_left
  ·intro w'; go_simp; with_reducible rfl
  rotate_left
  ·simp only [Act.put, sqA, sqB, sqC, i64_w, i32_w]; rfl
  refine tk 13 19 (bits 18 81919) ?_ rfl rfl (by kernel_rfl) (fun _ _ _ h => h) (by rfl) ?_ hHeld ?_ ?_ ?_
  rotate_left
  ·intro w' hw'; have s0 : w'.cell? ⟨BC, 7, none⟩ = some (.bool c.works) := hw'.cell 0 7 rfl rfl; go_simp; with_reducible rfl
  rotate_left
  ·simp only [Act.put, sqA, sqB, sqC, i64_w, i32_w]; rfl
  refine pu 14 20 (bits 18 98303) ?_ rfl rfl (by kernel_rfl) (fun _ _ _ h => h) (by rfl) ?_ ?_ ?_ ?_
  rotate_left
  ·intro w'; go_simp; with_reducible rfl
  rotate_left
  ·simp only [Act.put, sqA, sqB, sqC, i64_w, i32_w]; rfl
  refine pu 15 21 (bits 18 131071) ?_ rfl rfl (by kernel_rfl) (fun _ _ _ h => h) (by rfl) ?_ ?_ ?_ ?_
  rotate_left
  ·intro w'; go_simp; with_reducible rfl
  rotate_left
  ·simp only [Act.put, sqA, sqB, sqC, i64_w, i32_w]; rfl
  refine pu 17 3 (bits 18 262143) ?_ rfl rfl (by kernel_rfl) (fun _ _ _ h => h) (by rfl) ?_ ?_ ?_ ?_
  rotate_left
  ·intro w'; go_simp; with_reducible rfl
  rotate_left
  ·simp only [Act.put, sqA, sqB, sqC, i64_w, i32_w]; rfl
  refine done_ (by kernel_rfl) ?_
  clear hHeld
  go_wp2_with (fail)
  try go_ret2
  have HV := Aside0.mk (show (c.started && !c.works) = (!c.works) by rw [q3]; rfl)
  refine HPOST.out _ _ ?_
  rw [HV.out]
  exact ⟨_, _, rfl, (S6.out)⟩
 ·have Xq3 := Aside0.mk q3
  go_upto_region 3 with (first | (go_at_call 35; (with_reducible refine (cliNobody _ 0 BC BA bl q a c v1 v2 v3 (.slice A4 c.out.length c4) (cli_in (L := L) (H.out)) HI.out).mono ?_); rintro e1 w2 ⟨rfl, hw_⟩; have S1 := Aside0.mk (H.out.same hw_); clear hw_))
  have S9 := Aside0.mk S1.out.drew
  refine start_ (n := 18) (S := fun w' => St w0 w' (Blk BC (cliA BA c v1 v2 v3 (.slice A4 c.out.length c4)) 91 :: Blk BA (askA a bl) 97 :: MapT bl q a.lead :: Row k106 106 v1 c.call.entries :: Row k108 108 v2 c.pieces :: Row (Kd.int .i64) 3 v3 c.sweep :: Row k42 42 (.slice A4 c.out.length c4) c.out :: L)) (ds := []) (bits 18 0) (by kernel_rfl) rfl rfl (S1.out).drew (fun hHeld => ?_)
  generalize w2.drew = w8 at S9 hHeld ⊢
  refine pu 0 6 (bits 18 1) ?_ rfl rfl (by kernel_rfl) (fun _ _ _ h => h) (by rfl) ?_ ?_ ?_ ?_
  rotate_left
  ·intro w'; go_simp; with_reducible rfl
  rotate_left
  ·simp only [Act.put, sqA, sqB, sqC, i64_w, i32_w]; rfl
  refine pu 1 7 (bits 18 3) ?_ rfl rfl (by kernel_rfl) (fun _ _ _ h => h) (by rfl) ?_ ?_ ?_ ?_
  rotate_left
  ·intro w'; go_simp; with_reducible rfl
  rotate_left
  ·simp only [Act.put, sqA, sqB, sqC, i64_w, i32_w]; rfl
  refine pu 2 8 (bits 18 7) ?_ rfl rfl (by kernel_rfl) (fun _ _ _ h => h) (by rfl) ?_ ?_ ?_ ?_
  rotate_left
  ·intro w'; go_simp; with_reducible rfl
  rotate_left
  ·simp only [Act.put, sqA, sqB, sqC, i64_w, i32_w]; rfl
  refine pu 5 11 (bits 18 39) ?_ rfl rfl (by kernel_rfl) (fun _ _ _ h => h) (by rfl) ?_ ?_ ?_ ?_
  rotate_left
  ·intro w'; go_simp; with_reducible rfl
  rotate_left
  ·simp only [Act.put, sqA, sqB, sqC, i64_w, i32_w]; rfl
  refine pu 6 12 (bits 18 103) ?_ rfl rfl (by kernel_rfl) (fun _ _ _ h => h) (by rfl) ?_ ?_ ?_ ?_
  rotate_left
  ·intro w'; go_simp; with_reducible rfl
  rotate_left
  ·simp only [Act.put, sqA, sqB, sqC, i64_w, i32_w]; rfl
  refine pu 7 13 (bits 18 231) ?_ rfl rfl (by kernel_rfl) (fun _ _ _ h => h) (by rfl) ?_ ?_ ?_ ?_
  rotate_left
  ·intro w'; go_simp; with_reducible rfl
  rotate_left
  ·simp only [Act.put, sqA, sqB, sqC, i64_w, i32_w]; rfl
  refine tk 3 9 (bits 18 239) ?_ rfl rfl (by kernel_rfl) (fun _ _ _ h => h) (by rfl) ?_ hHeld ?_ ?_ ?_
  rotate_left
  ·intro w' hw'; have s0 : w'.cell? ⟨BC, 15, none⟩ = some (.slice A4 c.out.length c4) := hw'.cell 0 15 rfl rfl; go_simp; with_reducible rfl
  rotate_left
  ·simp only [Act.put, sqA, sqB, sqC, i64_w, i32_w]; rfl
  refine tk 8 14 (bits 18 495) ?_ rfl rfl (by kernel_rfl) (fun _ _ _ h => h) (by rfl) ?_ hHeld ?_ ?_ ?_
  rotate_left
  ·intro w' hw'; have s0 : w'.cell? ⟨BC, 8, none⟩ = some (.bool false) := (show w'.cell? ⟨BC, 8, none⟩ = some (.bool c.started) from hw'.cell 0 8 rfl rfl).trans (by rw [q3]); go_simp; with_reducible rfl
  rotate_left
  ·simp only [Act.put, sqA, sqB, sqC, i64_w, i32_w]; rfl
  refine one_ (i := 4) (N := some 10) (bits 18 511) rfl rfl (by kernel_rfl) (by decide) (fun K hK => ?_)
  refine goes_ Try.func42 (by kernel_rfl) rfl #[(.slice A4 c.out.length c4)] (by rfl) rfl rfl (by (try simp only [List.map_toArray, List.map_cons, List.map_nil]); first | done | rfl) ?_
  with_reducible refine (cloneReply.calls A4 c4 c.out c.out _ (kRep_of (S9.out.reads 6 rfl).1) (S9.out.reads 6 rfl).2 (by unfold cloneReply.f; rw [if_pos (by have := HL.out; omega)])).mono ?_
  rintro e1 w11 ⟨vo, rfl, hR_, hb_⟩
  obtain ⟨Ao, co, rfl⟩ := Kd.R_slice hR_
  have S10 := Aside0.mk (S9.out.newRow hb_ hR_)
  clear hb_ hR_
  refine ⟨_, rfl, ?_⟩
  refine hK.out _ _ (((S10.out).erase 0)) ?_
  clear hHeld
  intro hHeld
  clear hK K
  refine norm_ (a' := ?_) ?_ ?_
  rotate_left
  ·show Act.put _ (some 10) _ = _; simp only [Act.put, sqA, sqB, sqC, i64_w, i32_w]; rfl
  refine pu 9 15 (bits 18 1023) ?_ rfl rfl (by kernel_rfl) (fun _ _ _ h => h) (by rfl) ?_ ?_ ?_ ?_
  rotate_left
  ·intro w'; go_simp; with_reducible rfl
  rotate_left
  ·simp only [Act.put, sqA, sqB, sqC, i64_w, i32_w]; rfl
  refine take_ (i := 10) (N := some 16) (v := undef) (a' := ?_) (bits 18 2047) rfl rfl (by kernel_rfl) (fun _ _ _ h => h) (Or.inr ⟨by rfl, rfl⟩) hHeld ?_ ?_
  rotate_left
  ·simp only [Act.put, sqA, sqB, sqC, i64_w, i32_w]; rfl
  refine take_ (i := 11) (N := some 17) (v := undef) (a' := ?_) (bits 18 4095) rfl rfl (by kernel_rfl) (fun _ _ _ h => h) (Or.inr ⟨by rfl, rfl⟩) hHeld ?_ ?_
  rotate_left
  ·simp only [Act.put, sqA, sqB, sqC, i64_w, i32_w]; rfl
  refine take_ (i := 12) (N := some 18) (v := undef) (a' := ?_) (bits 18 8191) rfl rfl (by kernel_rfl) (fun _ _ _ h => h) (Or.inr ⟨by rfl, rfl⟩) hHeld ?_ ?_
  rotate_left
  ·simp only [Act.put, sqA, sqB, sqC, i64_w, i32_w]; rfl
  refine take_ (i := 13) (N := some 19) (v := undef) (a' := ?_) (bits 18 16383) rfl rfl (by kernel_rfl) (fun _ _ _ h => h) (Or.inr ⟨by rfl, rfl⟩) hHeld ?_ ?_
  rotate_left
  ·simp only [Act.put, sqA, sqB, sqC, i64_w, i32_w]; rfl
  refine take_ (i := 14) (N := some 20) (v := undef) (a' := ?_) (bits 18 32767) rfl rfl (by kernel_rfl) (fun _ _ _ h => h) (Or.inr ⟨by rfl, rfl⟩) hHeld ?_ ?_
  rotate_left
  ·simp only [Act.put, sqA, sqB, sqC, i64_w, i32_w]; rfl
  refine pu 15 21 (bits 18 65535) ?_ rfl rfl (by kernel_rfl) (fun _ _ _ h => h) (by rfl) ?_ ?_ ?_ ?_
  rotate_left
  ·intro w'; go_simp; with_reducible rfl
  rotate_left
  ·simp only [Act.put, sqA, sqB, sqC, i64_w, i32_w]; rfl
  refine pu 16 2 (bits 18 131071) ?_ rfl rfl (by kernel_rfl) (fun _ _ _ h => h) (by rfl) ?_ ?_ ?_ ?_
  rotate_left
  ·intro w'; go_simp; with_reducible rfl
  rotate_left
  ·simp only [Act.put, sqA, sqB, sqC, i64_w, i32_w]; rfl
  refine pu 17 3 (bits 18 262143) ?_ rfl rfl (by kernel_rfl) (fun _ _ _ h => h) (by rfl) ?_ ?_ ?_ ?_
  rotate_left
  ·intro w'; go_simp; with_reducible rfl
  rotate_left
  ·simp only [Act.put, sqA, sqB, sqC, i64_w, i32_w]; rfl
  refine done_ (by kernel_rfl) ?_
  clear hHeld
  go_wp2_with (fail)
  try go_ret2
  have HV := Aside0.mk (show (c.started && !c.works) = false by rw [q3]; rfl)
  refine HPOST.out _ _ ?_
  rw [HV.out]
  exact ⟨_, _, rfl, (S10.out)⟩
end Go.Proofs.Ytonedijkgddepaa.P
