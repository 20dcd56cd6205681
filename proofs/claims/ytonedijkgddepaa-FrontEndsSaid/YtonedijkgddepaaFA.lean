/- front.Asker, by hand: its state, and none, Busy, Num, next, Turn, NewAsker. No conditions. -/
import Derived.Test.YtonedijkgddepaaSq
import Derived.Test.YtonedijkgddepaaHMap
import Derived.Test.YtonedijkgddepaaP23
import Derived.StillTailTactics
namespace Go.Proofs.Ytonedijkgddepaa.P
open Go.Sq
open Go.RowKit Go.Maps Go.Proofs.YtonedijkgddepaaW.PrintWords Go.Proofs.YtonedijkgddepaaW.PrintLast Go.Proofs.YtonedijkgddepaaW.PrintMore
set_option linter.unusedVariables false
set_option linter.unusedSimpArgs false
/-- An asker. -/
structure As where
 id : Int
 nodes : Int
 retry : Int
 num : Int
 group : Int
 cmd : S38
 busy : Bool
 sent : Bool
 waited : Int
 lead : List (Int × Int)
def askA (s : As) (bl : Nat) : Array Value := #[(.int .i64 s.id), (.int .i64 s.nodes), (.int .i64 s.retry), (.int .i64 s.num), (.int .i64 s.group), (.int .i64 s.cmd.f0), (.int .i64 s.cmd.f1), (.int .i64 s.cmd.f2), (.int .i64 s.cmd.f3), (.int .i64 s.cmd.f4), (.string s.cmd.f5), (.string s.cmd.f6), (.string s.cmd.f7), (.string s.cmd.f8), (.int .i64 s.cmd.f9), (.int .i64 s.cmd.f10), (.int .i64 s.cmd.f11.f0), (.string s.cmd.f11.f1), (.int .i64 s.cmd.f11.f2), (.int .i64 s.cmd.f11.f3), (.int .i64 s.cmd.f12.f0), (.int .i64 s.cmd.f12.f1), (.int .i64 s.cmd.f13), (.slice none 0 0), (.bool s.busy), (.bool s.sent), (.int .i64 s.waited), (.map (some bl))]
/-- Block B is an asker, bl its map. -/
structure AskAt (w : World) (B bl q : Nat) (s : As) : Prop where
 blk : w.heap[B]? = some (.cells (askA s bl) 97 (0, 0))
 map : MapAt NumP (.int .i64 0) w bl q s.lead
/-- An asker that NewAsker made, some calls on. -/
structure As.ok (s : As) (q : Nat) : Prop where
 id1 : 1 ≤ s.id ∧ s.id ≤ 1099511627776
 nodes1 : 1 ≤ s.nodes ∧ s.nodes ≤ 5
 retry1 : 1 ≤ s.retry ∧ s.retry ≤ 1000
 num1 : 0 ≤ s.num ∧ s.num ≤ q
 group1 : 0 ≤ s.group ∧ s.group ≤ 6
 waited1 : 0 ≤ s.waited ∧ s.waited ≤ 1000
 lead1 : ∀ x ∈ s.lead, 0 ≤ x.2 ∧ x.2 < s.nodes
 q1 : q < 100000
 data0 : s.cmd.f14 = []
theorem AskAt.lt {w : World} {B bl q : Nat} {s : As} (h : AskAt w B bl q s) : B < w.heap.size ∧ bl < w.heap.size ∧ B ≠ bl := by
 refine ⟨blk_lt h.blk, h.map.lt, fun e => ?_⟩
 obtain ⟨D, ⟨es, clock, h3, _⟩, _⟩ := h.map
 rw [← e, h.blk] at h3
 cases h3
theorem AskAt.keep {w w' : World} {B bl q : Nat} {s : As} (h : AskAt w B bl q s) (h1 : w'.heap[B]? = w.heap[B]?) (h2 : w'.heap[bl]? = w.heap[bl]?) : AskAt w' B bl q s := ⟨h1.trans h.blk, h.map.keep h2 (fun _ _ h => h)⟩
theorem AskAt.below {w w' : World} {B bl q : Nat} {s : As} (h : AskAt w B bl q s) (hb : Below w.heap.size w w') : AskAt w' B bl q s := h.keep (hb.block B h.lt.1) (hb.block bl h.lt.2.1)
theorem AskAt.mono {w : World} {B bl q q' : Nat} {s : As} (h : AskAt w B bl q s) (hq : q ≤ q') : AskAt w B bl q' s := ⟨h.blk, h.map.mono hq⟩
theorem As.ok.mono {s : As} {q q' : Nat} (h : s.ok q) (hq : q ≤ q') (h2 : q' < 100000) : s.ok q' := ⟨h.id1, h.nodes1, h.retry1, ⟨h.num1.1, by have := h.num1.2; omega⟩, h.group1, h.waited1, h.lead1, h2, h.data0⟩
/-- What was written: blocks of S, and new ones. -/
structure Upd (w w' : World) (S : Nat → Prop) : Prop where
 os : w'.os = w.os
 tape : w'.tape = w.tape
 output : w'.output = w.output
 kept : Kept w w' S
theorem Upd.refl (w : World) (S : Nat → Prop) : Upd w w S := ⟨rfl, rfl, rfl, Kept.refl _ _⟩
theorem Upd.of_below {w w' : World} (h : Below w.heap.size w w') (S : Nat → Prop) : Upd w w' S := ⟨h.os, h.tape, h.output, Kept.of_below h S⟩
theorem Upd.trans {w w1 w2 : World} {S S2 : Nat → Prop} (h : Upd w w1 S) (k : Upd w1 w2 S2) (hs : ∀ k, S2 k → S k ∨ w.heap.size ≤ k) : Upd w w2 S := ⟨k.os.trans h.os, k.tape.trans h.tape, k.output.trans h.output, h.kept.then_ k.kept hs⟩
theorem Upd.and {w w1 w2 : World} {S : Nat → Prop} (h : Upd w w1 S) (k : Upd w1 w2 S) : Upd w w2 S := h.trans k (fun _ h => .inl h)
theorem Upd.mono {w w1 : World} {S S' : Nat → Prop} (h : Upd w w1 S) (hs : ∀ k, S k → S' k) : Upd w w1 S' := ⟨h.os, h.tape, h.output, h.kept.mono hs⟩
theorem Upd.grown {w w1 : World} {b : Nat} (h : w.grownBy w1 (some b)) : Upd w w1 (fun k => k = b) := ⟨h.os, h.tape, h.output, h.size, fun i hi hn => h.block i hi (fun e => hn (Option.some.inj e))⟩
theorem Upd.set (w : World) (p : Addr) (u : Value) : Upd w (w.setCell p u) (fun k => k = p.block) := ⟨rfl, rfl, rfl, Kept.setCell (S := fun k => k = p.block) (Kept.refl _ _) (.inl rfl) u⟩
theorem Upd.drew (w : World) (n : Nat) (S : Nat → Prop) : Upd w (w.drewN n) S := Upd.of_below (pw_below_drewN (Below.refl _ _) n) S
theorem Upd.toBelow {w0 w w' : World} {S : Nat → Prop} {B : Nat} (h : Below B w0 w) (k : Upd w w' S) (hB : B ≤ w.heap.size) (hs : ∀ k, S k → B ≤ k) : Below B w0 w' :=
 ⟨k.os.trans h.os, k.tape.trans h.tape, k.output.trans h.output, Nat.le_trans h.size k.kept.1, fun i hi => (k.kept.2 i (Nat.lt_of_lt_of_le hi hB) (fun hk => by have := hs i hk; omega)).trans (h.block i hi)⟩
theorem Upd.block {w w' : World} {S : Nat → Prop} (k : Upd w w' S) {g : Nat} {o : Obj} (h : w.heap[g]? = some o) (hn : ¬ S g) : w'.heap[g]? = some o := (k.kept.2 g (blk_lt h) hn).trans h
theorem Upd.row {α : Type} {d : Kd α} {e base : Nat} {ok : Nat → Prop} {v : Value} {xs : List α} {w w' : World} {S : Nat → Prop} (k : Upd w w' S) (h : d.R e w base ok v xs) (hn : ∀ i, ok i → ¬ S i) : d.R e w' base ok v xs := Kd.R_step h (fun i hi hl => k.kept.2 i hl (hn i hi))
/-- An asker's blocks. -/
def SA (B bl : Nat) : Nat → Prop := fun k => k = B ∨ k = bl
theorem askSet {w : World} {B bl : Nat} {s s' : As} (h : w.heap[B]? = some (.cells (askA s bl) 97 (0, 0))) (i : Nat) (u : Value) (he : (askA s bl).setIfInBounds i u = askA s' bl) : (w.setCell ⟨B, i, none⟩ u).heap[B]? = some (.cells (askA s' bl) 97 (0, 0)) := by
 rw [← he]
 exact blk_set h i u
set_option maxHeartbeats 4000000 in
set_option maxRecDepth 100000 in
theorem askNoneOk (w : World) (B bl q : Nat) (s : As) (h : AskAt w B bl q s) (hi : s.id ≠ 0) :
  Calls Try.prog 50 #[.pointer (some ⟨B, 0, none⟩)] w fun e' w' => e' = .returned (.bool false) ∧ w' = w := by
 have HB := Aside0.mk h.blk
 clear h
 have a0 : w.cell? ⟨B, 0, none⟩ = some (.int .i64 s.id) := (blk_cell HB.out 0).trans rfl
 have f0 : (s.id == 0) = false := beq_eq_false_iff_ne.2 hi
 clear hi
 go_enter Try.func50, Try.ntmps50
 go_wp2
 go_ret
 exact ⟨rfl, rfl⟩
set_option maxHeartbeats 4000000 in
set_option maxRecDepth 100000 in
theorem askBusyOk (w : World) (B bl q : Nat) (s : As) (h : AskAt w B bl q s) (hi : s.id ≠ 0) :
  Calls Try.prog 31 #[.pointer (some ⟨B, 0, none⟩)] w fun e' w' => e' = .returned (.bool s.busy) ∧ w' = w := by
 have H := Aside0.mk h
 have HI := Aside0.mk hi
 clear hi
 have HB := Aside0.mk h.blk
 clear h
 have a24 : w.cell? ⟨B, 24, none⟩ = some (.bool s.busy) := (blk_cell HB.out 24).trans rfl
 go_enter Try.func31, Try.ntmps31
 go_wp2_with (go_at_call 50; (with_reducible refine (askNoneOk _ B bl q s H.out HI.out).mono ?_); rintro e1 w1 ⟨rfl, rfl⟩)
 go_ret
 exact ⟨rfl, rfl⟩
def nextV (s : As) : As := { s with lead := putM s.group ((getG 0 s.group s.lead + 1).tmod s.nodes) s.lead }
theorem lead_bound {s : As} {q : Nat} (hk : s.ok q) : 0 ≤ getG 0 s.group s.lead ∧ getG 0 s.group s.lead < 5 := by
 have h1 := hk.nodes1
 unfold getG
 cases hf : s.lead.find? (fun x => x.1 == s.group) with
 | none => simp
 | some x =>
  have := hk.lead1 x (List.mem_of_find?_eq_some hf)
  simp only [Option.map_some, Option.getD_some]
  omega
theorem nextV_ok {s : As} {q : Nat} (hk : s.ok q) : (nextV s).ok q := by
 have h1 := hk.nodes1
 have h2 := lead_bound hk
 refine ⟨hk.id1, hk.nodes1, hk.retry1, hk.num1, hk.group1, hk.waited1, fun x hx => ?_, hk.q1, hk.data0⟩
 rcases putM_mem _ _ _ _ hx with rfl | hx
 ·exact ⟨Int.tmod_nonneg _ (by omega), Int.tmod_lt_of_pos _ (show (0 : Int) < s.nodes by omega)⟩
 ·exact hk.lead1 x hx
set_option maxHeartbeats 4000000 in
set_option maxRecDepth 100000 in
theorem askNext (w : World) (B bl q : Nat) (s : As) (h : AskAt w B bl q s) (hk : s.ok q) :
  Calls Try.prog 44 #[.pointer (some ⟨B, 0, none⟩)] w fun e' w' => e' = .returned (.tuple #[]) ∧ AskAt w' B bl (q + 1) (nextV s) ∧ Upd w w' (SA B bl) := by
 have H := Aside0.mk h
 have HK := Aside0.mk hk
 have HB := Aside0.mk h.blk
 have HM := Aside0.mk h.map
 have HL := Aside0.mk (fun (w' : World) (hb : Below w.heap.size w w') => MapAt.look (t := 95) (h.map.keep (hb.block _ h.map.lt) (fun _ _ h => h)) Try.underlying95 s.group (by have := hk.group1; omega))
 have hlb := lead_bound hk
 have hw1 : wrap64 (getG 0 s.group s.lead + 1) = getG 0 s.group s.lead + 1 := by unfold wrap64; omega
 have hw2 : IntKind.i64.wrap (getG 0 s.group s.lead + 1) = getG 0 s.group s.lead + 1 := (i64_w _).trans hw1
 have hz : (s.nodes == 0) = false := beq_eq_false_iff_ne.2 (by have := hk.nodes1; omega)
 have hz2 : s.nodes ≠ 0 := by have := hk.nodes1; omega
 clear h hk hlb
 have a1 : w.cell? ⟨B, 1, none⟩ = some (.int .i64 s.nodes) := (blk_cell HB.out 1).trans rfl
 have a4 : w.cell? ⟨B, 4, none⟩ = some (.int .i64 s.group) := (blk_cell HB.out 4).trans rfl
 have a27 : w.cell? ⟨B, 27, none⟩ = some (.map (some bl)) := (blk_cell HB.out 27).trans rfl
 go_enter Try.func44, Try.ntmps44
 go_wp2
 refine start_ (n := 24) (S := fun w' => Below w.heap.size w w') (ds := [23]) (bq 24 0) (by kernel_rfl) rfl rfl (below_drew (Below.refl _ _)) (fun hHeld => ?_)
 generalize w.drew = wd at hHeld ⊢
 refine pu 0 2 (bq 24 1) ?_ rfl rfl (by kernel_rfl) (fun _ _ _ h => h) (by rfl) ?_ ?_ ?_ ?_
 rotate_left
 ·intro w'; go_simp; with_reducible rfl
 rotate_left
 ·simp only [Act.put, sqA, sqB, sqC, i64_w, i32_w]
  rfl
 refine pu 1 3 (bq 24 3) ?_ rfl rfl (by kernel_rfl) (fun _ _ _ h => h) (by rfl) ?_ ?_ ?_ ?_
 rotate_left
 ·intro w'; go_simp; with_reducible rfl
 rotate_left
 ·simp only [Act.put, sqA, sqB, sqC, i64_w, i32_w]
  rfl
 refine pu 2 4 (bq 24 7) ?_ rfl rfl (by kernel_rfl) (fun _ _ _ h => h) (by rfl) ?_ ?_ ?_ ?_
 rotate_left
 ·intro w'; go_simp; with_reducible rfl
 rotate_left
 ·simp only [Act.put, sqA, sqB, sqC, i64_w, i32_w]
  rfl
 refine pu 4 6 (bq 24 23) ?_ rfl rfl (by kernel_rfl) (fun _ _ _ h => h) (by rfl) ?_ ?_ ?_ ?_
 rotate_left
 ·intro w'; go_simp; with_reducible rfl
 rotate_left
 ·simp only [Act.put, sqA, sqB, sqC, i64_w, i32_w]
  rfl
 refine pu 5 7 (bq 24 55) ?_ rfl rfl (by kernel_rfl) (fun _ _ _ h => h) (by rfl) ?_ ?_ ?_ ?_
 rotate_left
 ·intro w'; go_simp; with_reducible rfl
 rotate_left
 ·simp only [Act.put, sqA, sqB, sqC, i64_w, i32_w]
  rfl
 refine pu 6 8 (bq 24 119) ?_ rfl rfl (by kernel_rfl) (fun _ _ _ h => h) (by rfl) ?_ ?_ ?_ ?_
 rotate_left
 ·intro w'; go_simp; with_reducible rfl
 rotate_left
 ·simp only [Act.put, sqA, sqB, sqC, i64_w, i32_w]
  rfl
 refine pu 8 10 (bq 24 375) ?_ rfl rfl (by kernel_rfl) (fun _ _ _ h => h) (by rfl) ?_ ?_ ?_ ?_
 rotate_left
 ·intro w'; go_simp; with_reducible rfl
 rotate_left
 ·simp only [Act.put, sqA, sqB, sqC, i64_w, i32_w]
  rfl
 refine pu 9 11 (bq 24 887) ?_ rfl rfl (by kernel_rfl) (fun _ _ _ h => h) (by rfl) ?_ ?_ ?_ ?_
 rotate_left
 ·intro w'; go_simp; with_reducible rfl
 rotate_left
 ·simp only [Act.put, sqA, sqB, sqC, i64_w, i32_w]
  rfl
 refine pu 10 12 (bq 24 1911) ?_ rfl rfl (by kernel_rfl) (fun _ _ _ h => h) (by rfl) ?_ ?_ ?_ ?_
 rotate_left
 ·intro w'; go_simp; with_reducible rfl
 rotate_left
 ·simp only [Act.put, sqA, sqB, sqC, i64_w, i32_w]
  rfl
 refine pu 12 14 (bq 24 6007) ?_ rfl rfl (by kernel_rfl) (fun _ _ _ h => h) (by rfl) ?_ ?_ ?_ ?_
 rotate_left
 ·intro w'; go_simp; with_reducible rfl
 rotate_left
 ·simp only [Act.put, sqA, sqB, sqC, i64_w, i32_w]
  rfl
 refine pu 13 15 (bq 24 14199) ?_ rfl rfl (by kernel_rfl) (fun _ _ _ h => h) (by rfl) ?_ ?_ ?_ ?_
 rotate_left
 ·intro w'; go_simp; with_reducible rfl
 rotate_left
 ·simp only [Act.put, sqA, sqB, sqC, i64_w, i32_w]
  rfl
 refine pu 14 16 (bq 24 30583) ?_ rfl rfl (by kernel_rfl) (fun _ _ _ h => h) (by rfl) ?_ ?_ ?_ ?_
 rotate_left
 ·intro w'; go_simp; with_reducible rfl
 rotate_left
 ·simp only [Act.put, sqA, sqB, sqC, i64_w, i32_w]
  rfl
 refine pu 18 20 (bq 24 292727) ?_ rfl rfl (by kernel_rfl) (fun _ _ _ h => h) (by rfl) ?_ ?_ ?_ ?_
 rotate_left
 ·intro w'; go_simp; with_reducible rfl
 rotate_left
 ·simp only [Act.put, sqA, sqB, sqC, i64_w, i32_w]
  rfl
 refine pu 19 21 (bq 24 817015) ?_ rfl rfl (by kernel_rfl) (fun _ _ _ h => h) (by rfl) ?_ ?_ ?_ ?_
 rotate_left
 ·intro w'; go_simp; with_reducible rfl
 rotate_left
 ·simp only [Act.put, sqA, sqB, sqC, i64_w, i32_w]
  rfl
 refine pu 20 22 (bq 24 1865591) ?_ rfl rfl (by kernel_rfl) (fun _ _ _ h => h) (by rfl) ?_ ?_ ?_ ?_
 rotate_left
 ·intro w'; go_simp; with_reducible rfl
 rotate_left
 ·simp only [Act.put, sqA, sqB, sqC, i64_w, i32_w]
  rfl
 refine tk 3 5 (bq 24 1865599) ?_ rfl rfl (by kernel_rfl) (fun _ _ _ h => h) (by rfl) ?_ hHeld ?_ ?_ ?_
 rotate_left
 ·intro w' hw'
  have hb_ := blk_below HB.out hw'
  have s1 := (blk_cell hb_ 1).trans (show _ = some (.int .i64 s.nodes) from rfl)
  have s4 := (blk_cell hb_ 4).trans (show _ = some (.int .i64 s.group) from rfl)
  have s27 := (blk_cell hb_ 27).trans (show _ = some (.map (some bl)) from rfl)
  go_simp
  with_reducible rfl
 rotate_left
 ·simp only [Act.put, sqA, sqB, sqC, i64_w, i32_w]
  rfl
 refine tk 7 9 (bq 24 1865727) ?_ rfl rfl (by kernel_rfl) (fun _ _ _ h => h) (by rfl) ?_ hHeld ?_ ?_ ?_
 rotate_left
 ·intro w' hw'
  have hb_ := blk_below HB.out hw'
  have s1 := (blk_cell hb_ 1).trans (show _ = some (.int .i64 s.nodes) from rfl)
  have s4 := (blk_cell hb_ 4).trans (show _ = some (.int .i64 s.group) from rfl)
  have s27 := (blk_cell hb_ 27).trans (show _ = some (.map (some bl)) from rfl)
  go_simp
  with_reducible rfl
 rotate_left
 ·simp only [Act.put, sqA, sqB, sqC, i64_w, i32_w]
  rfl
 refine tk 11 13 (bq 24 1867775) ?_ rfl rfl (by kernel_rfl) (fun _ _ _ h => h) (by rfl) ?_ hHeld ?_ ?_ ?_
 rotate_left
 ·intro w' hw'
  have hb_ := blk_below HB.out hw'
  have s1 := (blk_cell hb_ 1).trans (show _ = some (.int .i64 s.nodes) from rfl)
  have s4 := (blk_cell hb_ 4).trans (show _ = some (.int .i64 s.group) from rfl)
  have s27 := (blk_cell hb_ 27).trans (show _ = some (.map (some bl)) from rfl)
  go_simp
  with_reducible rfl
 rotate_left
 ·simp only [Act.put, sqA, sqB, sqC, i64_w, i32_w]
  rfl
 refine tk 15 17 (bq 24 1900543) ?_ rfl rfl (by kernel_rfl) (fun _ _ _ h => h) (by rfl) ?_ hHeld ?_ ?_ ?_
 rotate_left
 ·intro w' hw'
  have hb_ := blk_below HB.out hw'
  have s1 := (blk_cell hb_ 1).trans (show _ = some (.int .i64 s.nodes) from rfl)
  have s4 := (blk_cell hb_ 4).trans (show _ = some (.int .i64 s.group) from rfl)
  have s27 := (blk_cell hb_ 27).trans (show _ = some (.map (some bl)) from rfl)
  go_simp
  with_reducible rfl
 rotate_left
 ·simp only [Act.put, sqA, sqB, sqC, i64_w, i32_w]
  rfl
 refine tk 16 18 (bq 24 1966079) ?_ rfl rfl (by kernel_rfl) (fun _ _ _ h => h) (by rfl) ?_ hHeld ?_ ?_ ?_
 rotate_left
 ·intro w' hw'
  have s0 := HL.out w' hw'
  go_simp
  with_reducible rfl
 rotate_left
 ·simp only [Act.put, sqA, sqB, sqC, i64_w, i32_w]
  rfl
 refine pu 17 19 (bq 24 2097151) ?_ rfl rfl (by kernel_rfl) (fun _ _ _ h => h) (by rfl) ?_ ?_ ?_ ?_
 rotate_left
 ·intro w'; go_simp; with_reducible rfl
 rotate_left
 ·simp only [Act.put, sqA, sqB, sqC, i64_w, i32_w]
  rfl
 refine tk 21 23 (bq 24 4194303) ?_ rfl rfl (by kernel_rfl) (fun _ _ _ h => h) (by rfl) ?_ hHeld ?_ ?_ ?_
 rotate_left
 ·intro w' hw'
  have hb_ := blk_below HB.out hw'
  have s1 := (blk_cell hb_ 1).trans (show _ = some (.int .i64 s.nodes) from rfl)
  have s4 := (blk_cell hb_ 4).trans (show _ = some (.int .i64 s.group) from rfl)
  have s27 := (blk_cell hb_ 27).trans (show _ = some (.map (some bl)) from rfl)
  go_simp
  with_reducible rfl
 rotate_left
 ·simp only [Act.put, sqA, sqB, sqC, i64_w, i32_w]
  rfl
 refine pu 22 24 (bq 24 8388607) ?_ rfl rfl (by kernel_rfl) (fun _ _ _ h => h) (by rfl) ?_ ?_ ?_ ?_
 rotate_left
 ·intro w'; go_simp; with_reducible rfl
 rotate_left
 ·simp only [Act.put, sqA, sqB, sqC, i64_w, i32_w]
  rfl
 refine last_ (i := 23) (N := none) (bq 24 16777215) rfl rfl (by kernel_rfl) (by decide) (fun K hK => ?_)
 obtain ⟨w2, hrun, hm2, hg2⟩ := (HM.out.keep (w' := wd) (P' := NumP) (hHeld.block _ HM.out.lt) (fun _ _ h => h)).put (t := 95) Try.underlying95 HK.out.q1 s.group ((getG 0 s.group s.lead + 1).tmod s.nodes) (by have := HK.out.group1; omega)
 refine skip_ (w1 := w2) (by rfl) rfl ?_ ?_
 ·simp only [execOp, Act.eval, Act.put, List.setIfInBounds_toArray, List.set_cons_zero, List.set_cons_succ]
  go_simp
 refine hK.out _ _ ?_
 clear hK K
 refine done_ (by kernel_rfl) ?_
 go_end0
 have hB := hHeld.block B (blk_lt HB.out)
 have hne := H.out.lt.2.2
 refine ⟨rfl, ⟨?_, hm2⟩, ((Upd.of_below hHeld _).and ((Upd.grown hg2).mono (fun k hk => Or.inr hk)))⟩
 exact (hg2.block B (Nat.lt_of_lt_of_le H.out.lt.1 hHeld.size) (fun e => hne (Option.some.inj e))).trans (hB.trans HB.out)
end Go.Proofs.Ytonedijkgddepaa.P
