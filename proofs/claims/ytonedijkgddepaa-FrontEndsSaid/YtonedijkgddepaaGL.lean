/- front.Client, by hand: learn. No conditions. -/
import Derived.Test.YtonedijkgddepaaSq
import Derived.Test.YtonedijkgddepaaSepF
import Derived.Test.YtonedijkgddepaaP20
namespace Go.Proofs.Ytonedijkgddepaa.P
open Go.Sq
open Go.RowKit Go.Maps Go.Proofs.YtonedijkgddepaaW.PrintWords Go.Proofs.YtonedijkgddepaaW.PrintLast Go.Proofs.YtonedijkgddepaaW.PrintMore
set_option linter.unusedVariables false
set_option linter.unusedSimpArgs false

def pkA (p : S47) (vm vv vd : Value) (A3 : Option Addr) (c3 : Nat) (A5 : Option Addr) (c5 : Nat) (A7 : Option Addr) (c7 : Nat) (vpd : Value) : Array Value := #[(.int .i64 p.f0), (.int .i64 p.f1), (.int .i64 p.f2), (.int .i64 p.f3), (.int .i64 p.f4.f0), (.int .i64 p.f4.f1), (.int .i64 p.f4.f2), (.int .i64 p.f4.f3), (.int .i64 p.f4.f4), (.int .i64 p.f4.f5), vm, vv, (.int .i64 p.f5.f0), (.int .i64 p.f5.f1), (.int .i64 p.f5.f2), (.int .i64 p.f5.f3), (.int .i64 p.f5.f4), (.string p.f5.f5), (.string p.f5.f6), (.string p.f5.f7), (.string p.f5.f8), (.int .i64 p.f5.f9), (.int .i64 p.f5.f10), (.int .i64 p.f5.f11.f0), (.string p.f5.f11.f1), (.int .i64 p.f5.f11.f2), (.int .i64 p.f5.f11.f3), (.int .i64 p.f5.f12.f0), (.int .i64 p.f5.f12.f1), (.int .i64 p.f5.f13), vd, (.int .i64 p.f6.f0), (.int .i64 p.f6.f1), (.int .i64 p.f6.f2), (.slice A3 p.f6.f3.length c3), (.slice none 0 0), (.slice A5 p.f6.f5.length c5), (.int .i64 p.f7.f0), (.slice A7 p.f7.f1.length c7), vpd]
def learnHit (a : As) (c : Cl) (p : S47) (m : Bool) : Prop := p.f2 = -a.id ∧ c.wants = true ∧ m = true
instance (a : As) (c : Cl) (p : S47) (m : Bool) : Decidable (learnHit a c p m) := by unfold learnHit; infer_instance
def newChart (c : Cl) (p : S47) : Cl := if c.epoch ≤ p.f7.f0 then { c with epoch := p.f7.f0, pieces := p.f7.f1 } else c
def learnV (a : As) (c : Cl) (p : S47) (m : Bool) (g : Int) : As × Cl := if learnHit a c p m then (if a.busy = true ∧ sweepsB c.call.kind = false then (turnV a g).2 else a, { newChart c p with wants := false }) else (a, c)
/-- What serves the step's entry. -/
structure Serves (c : Cl) (p : S47) (r g : Int) : Prop where
 at_ : ∃ i : Nat, c.step = (i : Int) ∧ i < c.call.entries.length ∧ ∃ k, place_Of.f k (entG c.call.kind (c.call.entries.getD i z106)) = some r
 of : ∃ k, chart_Of.f k (newChart c p).epoch (newChart c p).pieces r = some g
def LearnP (w0 : World) (L : List Thing) (BC BA bl q : Nat) (a : As) (c : Cl) (v1 v3 v4 : Value) (x : As × Cl) (e' : Ending) (w' : World) : Prop := ∃ v2, e' = .returned (.tuple #[]) ∧ St w0 w' (cliT BC BA bl q x.1 x.2 v1 v2 v3 v4 ++ L)
set_option maxHeartbeats 4000000 in
set_option maxRecDepth 100000 in
theorem cliLearn (w0 w : World) (L : List Thing) (BC BA bl q : Nat) (a : As) (c : Cl) (v1 v2 v3 v4 : Value) (h : St w0 w (cliT BC BA bl q a c v1 v2 v3 v4 ++ L)) (hk : a.ok q) (p : S47) (vm vv vd vpd : Value) (A3 A5 A7 : Option Addr) (c3 c5 c7 : Nat) (hr7 : ∀ W, Mem W L → Kd.C k108 W A7 p.f7.f1.length p.f7.f1) (h7 : p.f7.f1.length ≤ c7) (hl7 : p.f7.f1.length ≤ 1000) (m : Bool) (hm : ∃ k, chart_May.f k p.f7.f0 p.f7.f1 = some m) (r g : Int) (hs : learnHit a c p m → a.busy = true → sweepsB c.call.kind = false → Serves c p r g) :
  Calls Try.prog 38 #[.pointer (some ⟨BC, 0, none⟩), .agg (pkA p vm vv vd A3 c3 A5 c5 A7 c7 vpd)] w fun e' w' => LearnP w0 L BC BA bl q a c v1 v3 v4 (learnV a c p m g) e' w' := by
 have H := Aside0.mk h
 have HK := Aside0.mk hk
 have HR7 := Aside0.mk (And.intro hr7 (And.intro h7 hl7))
 obtain ⟨k0, hm⟩ := hm
 have HM := Aside0.mk hm
 have HSV := Aside0.mk hs
 have hng := neg_w hk.id1
 clear h hk hr7 h7 hl7 hm hs
 obtain ⟨A2, c2, rfl, _, _⟩ := H.out.row 4 rfl
 refine calls_hide fun R HPOST => ?_
 go_enter Try.func38, Try.ntmps38
 go_upto_region 0 with (fail)
 rcases Decidable.em (p.f2 = (-a.id)) with q4 | q4
 ·have t5 : (p.f2 == (-a.id)) = true := beq_iff_eq.2 q4
  have u6 : (p.f2 != (-a.id)) = false := by rw [bne, t5]; rfl
  have Xq4 := Aside0.mk q4
  clear q4
  rcases Bool.eq_false_or_eq_true c.wants with q7 | q7
  ·have Xq7 := Aside0.mk q7
   rcases Bool.eq_false_or_eq_true m with q8 | q8
   ·have Xq8 := Aside0.mk q8
    go_upto_region 1 with (first | ((with_reducible refine gate_dst (N := 3) rfl ?_); refine st_box ?hg (N := 3) ?hd (pkA p vm vv vd A3 c3 A5 c5 A7 c7 vpd) 47 ?hr H.out ?_; (case hd => rfl); (case hg => rfl); (case hr => first | (go_simp; done) | (go_simp; rfl)); intro g1 w2 hg_ h_ hb_; have S3 := Aside0.mk h_; have BS3 := Aside0.mk hb_; have GS3 := Aside0.mk hg_; clear h_ hb_ hg_))
    have S10 := Aside0.mk S3.out.drew
    refine start_ (n := 24) (S := fun w' => St w0 w' (Blk g1 (pkA p vm vv vd A3 c3 A5 c5 A7 c7 vpd) 47 :: Blk BC (cliA BA c v1 (.slice A2 c.pieces.length c2) v3 v4) 91 :: Blk BA (askA a bl) 97 :: MapT bl q a.lead :: Row k106 106 v1 c.call.entries :: Row k108 108 (.slice A2 c.pieces.length c2) c.pieces :: Row (Kd.int .i64) 3 v3 c.sweep :: Row k42 42 v4 c.out :: L)) (ds := []) (bits 24 0) (by kernel_rfl) rfl rfl (S3.out).drew (fun hHeld => ?_)
    generalize w2.drew = w9 at S10 hHeld ⊢
    refine pu 0 4 (bits 24 1) ?_ rfl rfl (by kernel_rfl) (fun _ _ _ h => h) (by rfl) ?_ ?_ ?_ ?_
    rotate_left
    ·intro w'; go_simp; with_reducible rfl
    rotate_left
    ·simp only [Act.put, sqA, sqB, sqC, i64_w, i32_w]; rfl
    refine pu 2 6 (bits 24 5) ?_ rfl rfl (by kernel_rfl) (fun _ _ _ h => h) (by rfl) ?_ ?_ ?_ ?_
    rotate_left
    ·intro w'; go_simp; with_reducible rfl
    rotate_left
    ·simp only [Act.put, sqA, sqB, sqC, i64_w, i32_w]; rfl
    refine pu 3 7 (bits 24 13) ?_ rfl rfl (by kernel_rfl) (fun _ _ _ h => h) (by rfl) ?_ ?_ ?_ ?_
    rotate_left
    ·intro w'; go_simp; with_reducible rfl
    rotate_left
    ·simp only [Act.put, sqA, sqB, sqC, i64_w, i32_w]; rfl
    refine pu 4 8 (bits 24 29) ?_ rfl rfl (by kernel_rfl) (fun _ _ _ h => h) (by rfl) ?_ ?_ ?_ ?_
    rotate_left
    ·intro w'; go_simp; with_reducible rfl
    rotate_left
    ·simp only [Act.put, sqA, sqB, sqC, i64_w, i32_w]; rfl
    refine tk 1 5 (bits 24 31) ?_ rfl rfl (by kernel_rfl) (fun _ _ _ h => h) (by rfl) ?_ hHeld ?_ ?_ ?_
    rotate_left
    ·intro w' hw'; have s0 : w'.cell? ⟨g1, 2, none⟩ = some (.int .i64 p.f2) := hw'.cell 0 2 rfl rfl; go_simp; with_reducible rfl
    rotate_left
    ·simp only [Act.put, sqA, sqB, sqC, i64_w, i32_w]; rfl
    refine tk 5 9 (bits 24 63) ?_ rfl rfl (by kernel_rfl) (fun _ _ _ h => h) (by rfl) ?_ hHeld ?_ ?_ ?_
    rotate_left
    ·intro w' hw'; have s0 : w'.cell? ⟨BC, 0, none⟩ = some (.pointer (some ⟨BA, 0, none⟩)) := hw'.cell 1 0 rfl rfl; go_simp; with_reducible rfl
    rotate_left
    ·simp only [Act.put, sqA, sqB, sqC, i64_w, i32_w]; rfl
    refine pu 6 10 (bits 24 127) ?_ rfl rfl (by kernel_rfl) (fun _ _ _ h => h) (by rfl) ?_ ?_ ?_ ?_
    rotate_left
    ·intro w'; go_simp; with_reducible rfl
    rotate_left
    ·simp only [Act.put, sqA, sqB, sqC, i64_w, i32_w]; rfl
    refine pu 7 11 (bits 24 255) ?_ rfl rfl (by kernel_rfl) (fun _ _ _ h => h) (by rfl) ?_ ?_ ?_ ?_
    rotate_left
    ·intro w'; go_simp; with_reducible rfl
    rotate_left
    ·simp only [Act.put, sqA, sqB, sqC, i64_w, i32_w]; rfl
    refine tk 8 12 (bits 24 511) ?_ rfl rfl (by kernel_rfl) (fun _ _ _ h => h) (by rfl) ?_ hHeld ?_ ?_ ?_
    rotate_left
    ·intro w' hw'; have s0 : w'.cell? ⟨BA, 0, none⟩ = some (.int .i64 a.id) := hw'.cell 2 0 rfl rfl; go_simp; with_reducible rfl
    rotate_left
    ·simp only [Act.put, sqA, sqB, sqC, i64_w, i32_w]; rfl
    refine pu 9 13 (bits 24 1023) ?_ rfl rfl (by kernel_rfl) (fun _ _ _ h => h) (by rfl) ?_ ?_ ?_ ?_
    rotate_left
    ·intro w'; go_simp; with_reducible rfl
    rotate_left
    ·simp only [Act.put, sqA, sqB, sqC, i64_w, i32_w]; rfl
    refine pu 10 14 (bits 24 2047) ?_ rfl rfl (by kernel_rfl) (fun _ _ _ h => h) (by rfl) ?_ ?_ ?_ ?_
    rotate_left
    ·intro w'; go_simp; with_reducible rfl
    rotate_left
    ·simp only [Act.put, sqA, sqB, sqC, i64_w, i32_w]; rfl
    refine pu 11 15 (bits 24 4095) ?_ rfl rfl (by kernel_rfl) (fun _ _ _ h => h) (by rfl) ?_ ?_ ?_ ?_
    rotate_left
    ·intro w'; go_simp; with_reducible rfl
    rotate_left
    ·simp only [Act.put, sqA, sqB, sqC, i64_w, i32_w]; rfl
    refine pu 12 16 (bits 24 8191) ?_ rfl rfl (by kernel_rfl) (fun _ _ _ h => h) (by rfl) ?_ ?_ ?_ ?_
    rotate_left
    ·intro w'; go_simp; with_reducible rfl
    rotate_left
    ·simp only [Act.put, sqA, sqB, sqC, i64_w, i32_w]; rfl
    refine pu 13 17 (bits 24 16383) ?_ rfl rfl (by kernel_rfl) (fun _ _ _ h => h) (by rfl) ?_ ?_ ?_ ?_
    rotate_left
    ·intro w'; go_simp; with_reducible rfl
    rotate_left
    ·simp only [Act.put, sqA, sqB, sqC, i64_w, i32_w]; rfl
    refine pu 14 18 (bits 24 32767) ?_ rfl rfl (by kernel_rfl) (fun _ _ _ h => h) (by rfl) ?_ ?_ ?_ ?_
    rotate_left
    ·intro w'; go_simp; with_reducible rfl
    rotate_left
    ·simp only [Act.put, sqA, sqB, sqC, i64_w, i32_w]; rfl
    refine tk 15 19 (bits 24 65535) ?_ rfl rfl (by kernel_rfl) (fun _ _ _ h => h) (by rfl) ?_ hHeld ?_ ?_ ?_
    rotate_left
    ·intro w' hw'; have s0 : w'.cell? ⟨BC, 9, none⟩ = some (.bool true) := (show w'.cell? ⟨BC, 9, none⟩ = some (.bool c.wants) from hw'.cell 1 9 rfl rfl).trans (by rw [q7]); go_simp; with_reducible rfl
    rotate_left
    ·simp only [Act.put, sqA, sqB, sqC, i64_w, i32_w]; rfl
    refine pu 16 20 (bits 24 131071) ?_ rfl rfl (by kernel_rfl) (fun _ _ _ h => h) (by rfl) ?_ ?_ ?_ ?_
    rotate_left
    ·intro w'; go_simp; with_reducible rfl
    rotate_left
    ·simp only [Act.put, sqA, sqB, sqC, i64_w, i32_w]; rfl
    refine pu 17 21 (bits 24 262143) ?_ rfl rfl (by kernel_rfl) (fun _ _ _ h => h) (by rfl) ?_ ?_ ?_ ?_
    rotate_left
    ·intro w'; go_simp; with_reducible rfl
    rotate_left
    ·simp only [Act.put, sqA, sqB, sqC, i64_w, i32_w]; rfl
    refine pu 18 22 (bits 24 524287) ?_ rfl rfl (by kernel_rfl) (fun _ _ _ h => h) (by rfl) ?_ ?_ ?_ ?_
    rotate_left
    ·intro w'; go_simp; with_reducible rfl
    rotate_left
    ·simp only [Act.put, sqA, sqB, sqC, i64_w, i32_w]; rfl
    refine pu 19 23 (bits 24 1048575) ?_ rfl rfl (by kernel_rfl) (fun _ _ _ h => h) (by rfl) ?_ ?_ ?_ ?_
    rotate_left
    ·intro w'; go_simp; with_reducible rfl
    rotate_left
    ·simp only [Act.put, sqA, sqB, sqC, i64_w, i32_w]; rfl
    refine take_ (i := 20) (N := some 24) (a' := ?_) (bits 24 2097151) rfl rfl (by kernel_rfl) (fun _ _ _ h => h) (yields_blk (by rfl) 45 _ rfl g1 37 rfl [(.int .i64 p.f7.f0), (.slice A7 p.f7.f1.length c7)] rfl (fun w' hw' => hw'.blk 0 rfl) Try.underlying45 rfl (by kernel_rfl)) hHeld ?_ ?_
    rotate_left
    ·simp only [Act.put, sqA, sqB, sqC, i64_w, i32_w]; rfl
    refine one_ (i := 21) (N := some 25) (bits 24 4194303) rfl rfl (by kernel_rfl) (by decide) (fun K hK => ?_)
    refine goes_ Try.func56 (by kernel_rfl) rfl #[(.agg #[(.int .i64 p.f7.f0), (.slice A7 p.f7.f1.length c7)])] (by rfl) rfl rfl (by (try simp only [List.map_toArray, List.map_cons, List.map_nil]); first | done | rfl) ?_
    with_reducible refine (chart_May.calls k0 p.f7.f0 A7 c7 p.f7.f1 m _ (HR7.out.1 _ ((S10.out).drop.drop.drop.drop.drop.drop.drop.drop).mem) HR7.out.2.1 HM.out).mono ?_
    rintro e1 w12 ⟨rfl, hb_⟩
    have S11 := Aside0.mk (S10.out.below hb_)
    clear hb_
    refine ⟨_, rfl, ?_⟩
    refine hK.out _ _ ((S11.out)) ?_
    clear hHeld
    intro hHeld
    clear hK K
    refine norm_ (a' := ?_) ?_ ?_
    rotate_left
    ·show Act.put _ (some 25) _ = _; simp only [Act.put, sqA, sqB, sqC, i64_w, i32_w]; rfl
    refine pu 22 26 (bits 24 8388607) ?_ rfl rfl (by kernel_rfl) (fun _ _ _ h => h) (by rfl) ?_ ?_ ?_ ?_
    rotate_left
    ·intro w'; go_simp; with_reducible rfl
    rotate_left
    ·simp only [Act.put, sqA, sqB, sqC, i64_w, i32_w]; rfl
    refine pu 23 27 (bits 24 16777215) ?_ rfl rfl (by kernel_rfl) (fun _ _ _ h => h) (by rfl) ?_ ?_ ?_ ?_
    rotate_left
    ·intro w'; go_simp; with_reducible rfl
    rotate_left
    ·simp only [Act.put, sqA, sqB, sqC, i64_w, i32_w]; rfl
    refine done_ (by kernel_rfl) ?_
    clear hHeld
    rcases Decidable.em (c.epoch ≤ p.f7.f0) with q13 | q13
    ·have t14 : decide (c.epoch ≤ p.f7.f0) = true := decide_eq_true q13
     have Xq13 := Aside0.mk q13
     clear q13
     go_upto_region 2 with (fail)
     have S17 := Aside0.mk S11.out.drew
     refine start_ (n := 9) (S := fun w' => St w0 w' (Blk g1 (pkA p vm vv vd A3 c3 A5 c5 A7 c7 vpd) 47 :: Blk BC (cliA BA c v1 (.slice A2 c.pieces.length c2) v3 v4) 91 :: Blk BA (askA a bl) 97 :: MapT bl q a.lead :: Row k106 106 v1 c.call.entries :: Row k108 108 (.slice A2 c.pieces.length c2) c.pieces :: Row (Kd.int .i64) 3 v3 c.sweep :: Row k42 42 v4 c.out :: L)) (ds := []) (bits 9 0) (by kernel_rfl) rfl rfl (S11.out).drew (fun hHeld => ?_)
     generalize w12.drew = w16 at S17 hHeld ⊢
     refine pu 0 28 (bits 9 1) ?_ rfl rfl (by kernel_rfl) (fun _ _ _ h => h) (by rfl) ?_ ?_ ?_ ?_
     rotate_left
     ·intro w'; go_simp; with_reducible rfl
     rotate_left
     ·simp only [Act.put, sqA, sqB, sqC, i64_w, i32_w]; rfl
     refine pu 1 29 (bits 9 3) ?_ rfl rfl (by kernel_rfl) (fun _ _ _ h => h) (by rfl) ?_ ?_ ?_ ?_
     rotate_left
     ·intro w'; go_simp; with_reducible rfl
     rotate_left
     ·simp only [Act.put, sqA, sqB, sqC, i64_w, i32_w]; rfl
     refine pu 3 31 (bits 9 11) ?_ rfl rfl (by kernel_rfl) (fun _ _ _ h => h) (by rfl) ?_ ?_ ?_ ?_
     rotate_left
     ·intro w'; go_simp; with_reducible rfl
     rotate_left
     ·simp only [Act.put, sqA, sqB, sqC, i64_w, i32_w]; rfl
     refine pu 4 32 (bits 9 27) ?_ rfl rfl (by kernel_rfl) (fun _ _ _ h => h) (by rfl) ?_ ?_ ?_ ?_
     rotate_left
     ·intro w'; go_simp; with_reducible rfl
     rotate_left
     ·simp only [Act.put, sqA, sqB, sqC, i64_w, i32_w]; rfl
     refine pu 5 33 (bits 9 59) ?_ rfl rfl (by kernel_rfl) (fun _ _ _ h => h) (by rfl) ?_ ?_ ?_ ?_
     rotate_left
     ·intro w'; go_simp; with_reducible rfl
     rotate_left
     ·simp only [Act.put, sqA, sqB, sqC, i64_w, i32_w]; rfl
     refine pu 6 34 (bits 9 123) ?_ rfl rfl (by kernel_rfl) (fun _ _ _ h => h) (by rfl) ?_ ?_ ?_ ?_
     rotate_left
     ·intro w'; go_simp; with_reducible rfl
     rotate_left
     ·simp only [Act.put, sqA, sqB, sqC, i64_w, i32_w]; rfl
     refine tk 2 30 (bits 9 127) ?_ rfl rfl (by kernel_rfl) (fun _ _ _ h => h) (by rfl) ?_ hHeld ?_ ?_ ?_
     rotate_left
     ·intro w' hw'; have s0 : w'.cell? ⟨g1, 37, none⟩ = some (.int .i64 p.f7.f0) := hw'.cell 0 37 rfl rfl; go_simp; with_reducible rfl
     rotate_left
     ·simp only [Act.put, sqA, sqB, sqC, i64_w, i32_w]; rfl
     refine tk 7 35 (bits 9 255) ?_ rfl rfl (by kernel_rfl) (fun _ _ _ h => h) (by rfl) ?_ hHeld ?_ ?_ ?_
     rotate_left
     ·intro w' hw'; have s0 : w'.cell? ⟨BC, 11, none⟩ = some (.int .i64 c.epoch) := hw'.cell 1 11 rfl rfl; go_simp; with_reducible rfl
     rotate_left
     ·simp only [Act.put, sqA, sqB, sqC, i64_w, i32_w]; rfl
     refine pu 8 36 (bits 9 511) ?_ rfl rfl (by kernel_rfl) (fun _ _ _ h => h) (by rfl) ?_ ?_ ?_ ?_
     rotate_left
     ·intro w'; go_simp; with_reducible rfl
     rotate_left
     ·simp only [Act.put, sqA, sqB, sqC, i64_w, i32_w]; rfl
     refine done_ (by kernel_rfl) ?_
     clear hHeld
     go_upto_region 3 with (fail)
     have S19 := Aside0.mk S17.out.drew
     refine start_ (n := 12) (S := fun w' => St w0 w' (Blk g1 (pkA p vm vv vd A3 c3 A5 c5 A7 c7 vpd) 47 :: Blk BC (cliA BA c v1 (.slice A2 c.pieces.length c2) v3 v4) 91 :: Blk BA (askA a bl) 97 :: MapT bl q a.lead :: Row k106 106 v1 c.call.entries :: Row k108 108 (.slice A2 c.pieces.length c2) c.pieces :: Row (Kd.int .i64) 3 v3 c.sweep :: Row k42 42 v4 c.out :: L)) (ds := [11]) (bits 12 0) (by kernel_rfl) rfl rfl (S17.out).drew (fun hHeld => ?_)
     generalize w16.drew = w18 at S19 hHeld ⊢
     refine pu 0 37 (bits 12 1) ?_ rfl rfl (by kernel_rfl) (fun _ _ _ h => h) (by rfl) ?_ ?_ ?_ ?_
     rotate_left
     ·intro w'; go_simp; with_reducible rfl
     rotate_left
     ·simp only [Act.put, sqA, sqB, sqC, i64_w, i32_w]; rfl
     refine pu 1 38 (bits 12 3) ?_ rfl rfl (by kernel_rfl) (fun _ _ _ h => h) (by rfl) ?_ ?_ ?_ ?_
     rotate_left
     ·intro w'; go_simp; with_reducible rfl
     rotate_left
     ·simp only [Act.put, sqA, sqB, sqC, i64_w, i32_w]; rfl
     refine pu 2 39 (bits 12 7) ?_ rfl rfl (by kernel_rfl) (fun _ _ _ h => h) (by rfl) ?_ ?_ ?_ ?_
     rotate_left
     ·intro w'; go_simp; with_reducible rfl
     rotate_left
     ·simp only [Act.put, sqA, sqB, sqC, i64_w, i32_w]; rfl
     refine pu 4 41 (bits 12 23) ?_ rfl rfl (by kernel_rfl) (fun _ _ _ h => h) (by rfl) ?_ ?_ ?_ ?_
     rotate_left
     ·intro w'; go_simp; with_reducible rfl
     rotate_left
     ·simp only [Act.put, sqA, sqB, sqC, i64_w, i32_w]; rfl
     refine pu 5 42 (bits 12 55) ?_ rfl rfl (by kernel_rfl) (fun _ _ _ h => h) (by rfl) ?_ ?_ ?_ ?_
     rotate_left
     ·intro w'; go_simp; with_reducible rfl
     rotate_left
     ·simp only [Act.put, sqA, sqB, sqC, i64_w, i32_w]; rfl
     refine tk 3 40 (bits 12 63) ?_ rfl rfl (by kernel_rfl) (fun _ _ _ h => h) (by rfl) ?_ hHeld ?_ ?_ ?_
     rotate_left
     ·intro w' hw'; have s0 : w'.cell? ⟨g1, 37, none⟩ = some (.int .i64 p.f7.f0) := hw'.cell 0 37 rfl rfl; go_simp; with_reducible rfl
     rotate_left
     ·simp only [Act.put, sqA, sqB, sqC, i64_w, i32_w]; rfl
     refine tk 6 43 (bits 12 127) ?_ rfl rfl (by kernel_rfl) (fun _ _ _ h => h) (by rfl) ?_ hHeld ?_ ?_ ?_
     rotate_left
     ·intro w' hw'; have s0 : w'.cell? ⟨g1, 38, none⟩ = some (.slice A7 p.f7.f1.length c7) := hw'.cell 0 38 rfl rfl; go_simp; with_reducible rfl
     rotate_left
     ·simp only [Act.put, sqA, sqB, sqC, i64_w, i32_w]; rfl
     refine one_ (i := 7) (N := some 44) (bits 12 255) rfl rfl (by kernel_rfl) (by decide) (fun K hK => ?_)
     refine goes_ Try.func52 (by kernel_rfl) rfl #[(.slice A7 p.f7.f1.length c7)] (by rfl) rfl rfl (by (try simp only [List.map_toArray, List.map_cons, List.map_nil]); first | done | rfl) ?_
     with_reducible refine (clonePiece.calls A7 c7 p.f7.f1 p.f7.f1 _ (HR7.out.1 _ ((S19.out).drop.drop.drop.drop.drop.drop.drop.drop).mem) HR7.out.2.1 (by unfold clonePiece.f; rw [if_pos (by have := HR7.out.2.2; omega)])).mono ?_
     rintro e1 w21 ⟨vp, rfl, hR_, hb_⟩
     obtain ⟨Ap, cp, rfl⟩ := Kd.R_slice hR_
     have S20 := Aside0.mk (S19.out.newRow hb_ hR_)
     clear hb_ hR_
     refine ⟨_, rfl, ?_⟩
     refine hK.out _ _ (((S20.out).erase 0)) ?_
     clear hHeld
     intro hHeld
     clear hK K
     refine norm_ (a' := ?_) ?_ ?_
     rotate_left
     ·show Act.put _ (some 44) _ = _; simp only [Act.put, sqA, sqB, sqC, i64_w, i32_w]; rfl
     refine pu 8 45 (bits 12 511) ?_ rfl rfl (by kernel_rfl) (fun _ _ _ h => h) (by rfl) ?_ ?_ ?_ ?_
     rotate_left
     ·intro w'; go_simp; with_reducible rfl
     rotate_left
     ·simp only [Act.put, sqA, sqB, sqC, i64_w, i32_w]; rfl
     refine pu 9 46 (bits 12 1023) ?_ rfl rfl (by kernel_rfl) (fun _ _ _ h => h) (by rfl) ?_ ?_ ?_ ?_
     rotate_left
     ·intro w'; go_simp; with_reducible rfl
     rotate_left
     ·simp only [Act.put, sqA, sqB, sqC, i64_w, i32_w]; rfl
     refine pu 10 47 (bits 12 2047) ?_ rfl rfl (by kernel_rfl) (fun _ _ _ h => h) (by rfl) ?_ ?_ ?_ ?_
     rotate_left
     ·intro w'; go_simp; with_reducible rfl
     rotate_left
     ·simp only [Act.put, sqA, sqB, sqC, i64_w, i32_w]; rfl
     refine last_ (i := 11) (N := none) (bits 12 4095) rfl rfl (by kernel_rfl) (by decide) (fun K hK => ?_)
     refine st_store_step (by rfl) rfl 45 _ _ rfl rfl rfl (seg := [(.int .i64 p.f7.f0), (.slice Ap p.f7.f1.length cp)]) rfl (by kernel_rfl) (by rfl) S20.out 2 rfl (Nat.le_of_ble_eq_true rfl) ?_
     intro w22 h_ hu_
     have S23 : Aside0 (St w0 w22 (Row k108 108 (.slice Ap p.f7.f1.length cp) p.f7.f1 :: Blk g1 (pkA p vm vv vd A3 c3 A5 c5 A7 c7 vpd) 47 :: Blk BC (cliA BA { c with epoch := p.f7.f0, pieces := p.f7.f1 } v1 (.slice Ap p.f7.f1.length cp) v3 v4) 91 :: Blk BA (askA a bl) 97 :: MapT bl q a.lead :: Row k106 106 v1 c.call.entries :: Row k108 108 (.slice A2 c.pieces.length c2) c.pieces :: Row (Kd.int .i64) 3 v3 c.sweep :: Row k42 42 v4 c.out :: L)) := Aside0.mk h_
     clear h_ hu_
     refine hK.out _ _ ?_
     clear hK K
     refine done_ (by kernel_rfl) ?_
     clear hHeld
     go_upto_region 4 with (fail)
     rcases Bool.eq_false_or_eq_true a.busy with q26 | q26
     ·have Xq26 := Aside0.mk q26
      rcases Bool.eq_false_or_eq_true (sweepsB c.call.kind) with q27 | q27
      ·have Xq27 := Aside0.mk q27
       go_upto_region 5 with (first | ((with_reducible refine gate_ (.store 4 (.tmp 50) (.const (.bool false))) rfl ?_); refine st_store rfl rfl 4 _ _ rfl rfl rfl (seg := [(.bool false)]) rfl (by kernel_rfl) (by rfl) S23.out 2 rfl (Nat.le_of_ble_eq_true rfl) ?_; intro w24 h_; have S25 : Aside0 (St w0 w24 (Row k108 108 (.slice Ap p.f7.f1.length cp) p.f7.f1 :: Blk g1 (pkA p vm vv vd A3 c3 A5 c5 A7 c7 vpd) 47 :: Blk BC (cliA BA { c with epoch := p.f7.f0, pieces := p.f7.f1, wants := false } v1 (.slice Ap p.f7.f1.length cp) v3 v4) 91 :: Blk BA (askA a bl) 97 :: MapT bl q a.lead :: Row k106 106 v1 c.call.entries :: Row k108 108 (.slice A2 c.pieces.length c2) c.pieces :: Row (Kd.int .i64) 3 v3 c.sweep :: Row k42 42 v4 c.out :: L)) := Aside0.mk h_; clear h_))
       have c28 : w24.cell? ⟨BC, 0, none⟩ = some (.pointer (some ⟨BA, 0, none⟩)) := S25.out.cell 2 0 rfl rfl
       have c29 : w24.cell? ⟨BA, 24, none⟩ = some (.bool true) := (show w24.cell? ⟨BA, 24, none⟩ = some (.bool a.busy) from S25.out.cell 3 24 rfl rfl).trans (by rw [q26])
       have c30 : w24.cell? ⟨BC, 1, none⟩ = some (.int .i64 c.call.kind) := S25.out.cell 2 1 rfl rfl
       go_wp2_with (first | (go_at_call 39; (with_reducible refine (sweepsC _ c.call.kind).mono ?_); rintro e1 w32 ⟨rfl, hb_⟩; clear c28 c29 c30; have S31 := Aside0.mk (S25.out.below hb_); clear hb_))
       go_end0
       have HH := Aside0.mk (show learnHit a c p m from ⟨Xq4.out, q7, q8⟩)
       have HN := Aside0.mk (show newChart c p = { c with epoch := p.f7.f0, pieces := p.f7.f1 } by unfold newChart; rw [if_pos Xq13.out])
       have HV := Aside0.mk (show learnV a c p m g = (a, { newChart c p with wants := false }) by unfold learnV; rw [if_pos HH.out, if_neg (fun h => (by have h9 := h.2; rw [q27] at h9; cases h9))])
       have HV := Aside0.mk (HV.out.trans (congrArg (fun z : Cl => (a, { z with wants := false })) HN.out))
       refine HPOST.out _ _ ?_
       unfold LearnP
       rw [HV.out]
       exact ⟨_, rfl, ((((((((((S31.out).erase 6).erase 1).bring 6 rfl).bring 6 rfl).bring 2 rfl).bring 6 rfl).bring 6 rfl).bring 6 rfl).bring 6 rfl)⟩
      ·have Xq27 := Aside0.mk q27
       go_upto_region 5 with (first | ((with_reducible refine gate_ (.store 4 (.tmp 50) (.const (.bool false))) rfl ?_); refine st_store rfl rfl 4 _ _ rfl rfl rfl (seg := [(.bool false)]) rfl (by kernel_rfl) (by rfl) S23.out 2 rfl (Nat.le_of_ble_eq_true rfl) ?_; intro w24 h_; have S25 : Aside0 (St w0 w24 (Row k108 108 (.slice Ap p.f7.f1.length cp) p.f7.f1 :: Blk g1 (pkA p vm vv vd A3 c3 A5 c5 A7 c7 vpd) 47 :: Blk BC (cliA BA { c with epoch := p.f7.f0, pieces := p.f7.f1, wants := false } v1 (.slice Ap p.f7.f1.length cp) v3 v4) 91 :: Blk BA (askA a bl) 97 :: MapT bl q a.lead :: Row k106 106 v1 c.call.entries :: Row k108 108 (.slice A2 c.pieces.length c2) c.pieces :: Row (Kd.int .i64) 3 v3 c.sweep :: Row k42 42 v4 c.out :: L)) := Aside0.mk h_; clear h_))
       have c33 : w24.cell? ⟨BC, 0, none⟩ = some (.pointer (some ⟨BA, 0, none⟩)) := S25.out.cell 2 0 rfl rfl
       have c34 : w24.cell? ⟨BA, 24, none⟩ = some (.bool true) := (show w24.cell? ⟨BA, 24, none⟩ = some (.bool a.busy) from S25.out.cell 3 24 rfl rfl).trans (by rw [q26])
       have c35 : w24.cell? ⟨BC, 1, none⟩ = some (.int .i64 c.call.kind) := S25.out.cell 2 1 rfl rfl
       go_upto_region 6 with (first | (go_at_call 39; (with_reducible refine (sweepsC _ c.call.kind).mono ?_); rintro e1 w37 ⟨rfl, hb_⟩; clear c33 c34 c35; have S36 := Aside0.mk (S25.out.below hb_); clear hb_))
       have HN := Aside0.mk (show newChart c p = { c with epoch := p.f7.f0, pieces := p.f7.f1 } by unfold newChart; rw [if_pos Xq13.out])
       obtain ⟨⟨i, hi1, hi2, hi3⟩, ⟨kg, hkg⟩⟩ := HSV.out ⟨Xq4.out, q7, q8⟩ q26 q27
       rw [HN.out] at hkg
       have HKG := Aside0.mk hkg
       have HI0 := Aside0.mk (And.intro hi1 (And.intro hi2 hi3))
       have HST := Aside0.mk hi1
       clear hi1 hi2 hi3 hkg
       have S39 := Aside0.mk S36.out.drew
       refine start_ (n := 16) (S := fun w' => St w0 w' (Row k108 108 (.slice Ap p.f7.f1.length cp) p.f7.f1 :: Blk g1 (pkA p vm vv vd A3 c3 A5 c5 A7 c7 vpd) 47 :: Blk BC (cliA BA { c with epoch := p.f7.f0, pieces := p.f7.f1, wants := false } v1 (.slice Ap p.f7.f1.length cp) v3 v4) 91 :: Blk BA (askA a bl) 97 :: Row k106 106 v1 c.call.entries :: Row k108 108 (.slice A2 c.pieces.length c2) c.pieces :: Row (Kd.int .i64) 3 v3 c.sweep :: Row k42 42 v4 c.out :: L)) (ds := [15]) (bits 16 0) (by kernel_rfl) rfl rfl (((S36.out).erase 4)).drew (fun hHeld => ?_)
       generalize w37.drew = w38 at S39 hHeld ⊢
       refine pu 0 67 (bits 16 1) ?_ rfl rfl (by kernel_rfl) (fun _ _ _ h => h) (by rfl) ?_ ?_ ?_ ?_
       rotate_left
       ·intro w'; go_simp; with_reducible rfl
       rotate_left
       ·simp only [Act.put, sqA, sqB, sqC, i64_w, i32_w]; rfl
       refine pu 1 68 (bits 16 3) ?_ rfl rfl (by kernel_rfl) (fun _ _ _ h => h) (by rfl) ?_ ?_ ?_ ?_
       rotate_left
       ·intro w'; go_simp; with_reducible rfl
       rotate_left
       ·simp only [Act.put, sqA, sqB, sqC, i64_w, i32_w]; rfl
       refine pu 2 69 (bits 16 7) ?_ rfl rfl (by kernel_rfl) (fun _ _ _ h => h) (by rfl) ?_ ?_ ?_ ?_
       rotate_left
       ·intro w'; go_simp; with_reducible rfl
       rotate_left
       ·simp only [Act.put, sqA, sqB, sqC, i64_w, i32_w]; rfl
       refine pu 4 71 (bits 16 23) ?_ rfl rfl (by kernel_rfl) (fun _ _ _ h => h) (by rfl) ?_ ?_ ?_ ?_
       rotate_left
       ·intro w'; go_simp; with_reducible rfl
       rotate_left
       ·simp only [Act.put, sqA, sqB, sqC, i64_w, i32_w]; rfl
       refine pu 5 72 (bits 16 55) ?_ rfl rfl (by kernel_rfl) (fun _ _ _ h => h) (by rfl) ?_ ?_ ?_ ?_
       rotate_left
       ·intro w'; go_simp; with_reducible rfl
       rotate_left
       ·simp only [Act.put, sqA, sqB, sqC, i64_w, i32_w]; rfl
       refine pu 6 73 (bits 16 119) ?_ rfl rfl (by kernel_rfl) (fun _ _ _ h => h) (by rfl) ?_ ?_ ?_ ?_
       rotate_left
       ·intro w'; go_simp; with_reducible rfl
       rotate_left
       ·simp only [Act.put, sqA, sqB, sqC, i64_w, i32_w]; rfl
       refine pu 8 75 (bits 16 375) ?_ rfl rfl (by kernel_rfl) (fun _ _ _ h => h) (by rfl) ?_ ?_ ?_ ?_
       rotate_left
       ·intro w'; go_simp; with_reducible rfl
       rotate_left
       ·simp only [Act.put, sqA, sqB, sqC, i64_w, i32_w]; rfl
       refine pu 9 76 (bits 16 887) ?_ rfl rfl (by kernel_rfl) (fun _ _ _ h => h) (by rfl) ?_ ?_ ?_ ?_
       rotate_left
       ·intro w'; go_simp; with_reducible rfl
       rotate_left
       ·simp only [Act.put, sqA, sqB, sqC, i64_w, i32_w]; rfl
       refine pu 10 77 (bits 16 1911) ?_ rfl rfl (by kernel_rfl) (fun _ _ _ h => h) (by rfl) ?_ ?_ ?_ ?_
       rotate_left
       ·intro w'; go_simp; with_reducible rfl
       rotate_left
       ·simp only [Act.put, sqA, sqB, sqC, i64_w, i32_w]; rfl
       refine pu 11 78 (bits 16 3959) ?_ rfl rfl (by kernel_rfl) (fun _ _ _ h => h) (by rfl) ?_ ?_ ?_ ?_
       rotate_left
       ·intro w'; go_simp; with_reducible rfl
       rotate_left
       ·simp only [Act.put, sqA, sqB, sqC, i64_w, i32_w]; rfl
       refine tk 3 70 (bits 16 3967) ?_ rfl rfl (by kernel_rfl) (fun _ _ _ h => h) (by rfl) ?_ hHeld ?_ ?_ ?_
       rotate_left
       ·intro w' hw'; have s0 : w'.cell? ⟨BC, 0, none⟩ = some (.pointer (some ⟨BA, 0, none⟩)) := hw'.cell 2 0 rfl rfl; go_simp; with_reducible rfl
       rotate_left
       ·simp only [Act.put, sqA, sqB, sqC, i64_w, i32_w]; rfl
       refine take_ (i := 7) (N := some 74) (a' := ?_) (bits 16 4095) rfl rfl (by kernel_rfl) (fun _ _ _ h => h) (yields_blk (by rfl) 45 _ rfl BC 11 rfl [(.int .i64 p.f7.f0), (.slice Ap p.f7.f1.length cp)] rfl (fun w' hw' => hw'.blk 2 rfl) Try.underlying45 rfl (by kernel_rfl)) hHeld ?_ ?_
       rotate_left
       ·simp only [Act.put, sqA, sqB, sqC, i64_w, i32_w]; rfl
       refine tk 12 79 (bits 16 8191) ?_ rfl rfl (by kernel_rfl) (fun _ _ _ h => h) (by rfl) ?_ hHeld ?_ ?_ ?_
       rotate_left
       ·intro w' hw'; have s0 : w'.cell? ⟨BC, 13, none⟩ = some (.int .i64 (i : Int)) := (show w'.cell? ⟨BC, 13, none⟩ = some (.int .i64 c.step) from hw'.cell 2 13 rfl rfl).trans (by rw [HST.out]); go_simp; with_reducible rfl
       rotate_left
       ·simp only [Act.put, sqA, sqB, sqC, i64_w, i32_w]; rfl
       refine one_ (i := 13) (N := some 80) (bits 16 16383) rfl rfl (by kernel_rfl) (by decide) (fun K hK => ?_)
       refine goes_ Try.func55 (by kernel_rfl) rfl #[(.pointer (some ⟨BC, 0, none⟩)), (.int .i64 (i : Int))] (by rfl) rfl rfl (by (try simp only [List.map_toArray, List.map_cons, List.map_nil]); first | done | rfl) ?_
       with_reducible refine (cliPlace _ 0 BC BA bl q a { c with epoch := p.f7.f0, pieces := p.f7.f1, wants := false } v1 (.slice Ap p.f7.f1.length cp) v3 v4 (cli_in (L := L) ((((((((((S39.out).erase 6).erase 1).bring 6 rfl).bring 6 rfl).bring 2 rfl).bring 6 rfl).bring 6 rfl).bring 6 rfl).bring 6 rfl)) i HI0.out.2.1 r HI0.out.2.2).mono ?_
       rintro e1 w41 ⟨rfl, hb_⟩
       have S40 := Aside0.mk (S39.out.below hb_)
       clear hb_
       refine ⟨_, rfl, ?_⟩
       refine hK.out _ _ (((S40.out).erase 4)) ?_
       clear hHeld
       intro hHeld
       clear hK K
       refine norm_ (a' := ?_) ?_ ?_
       rotate_left
       ·show Act.put _ (some 80) _ = _; simp only [Act.put, sqA, sqB, sqC, i64_w, i32_w]; rfl
       refine one_ (i := 14) (N := some 81) (bits 16 32767) rfl rfl (by kernel_rfl) (by decide) (fun K hK => ?_)
       refine goes_ Try.func54 (by kernel_rfl) rfl #[(.agg #[(.int .i64 p.f7.f0), (.slice Ap p.f7.f1.length cp)]), (.int .i64 r)] (by rfl) rfl rfl (by (try simp only [List.map_toArray, List.map_cons, List.map_nil]); first | done | rfl) ?_
       with_reducible refine (chart_Of.calls kg p.f7.f0 Ap cp p.f7.f1 r g _ (S40.out.reads 0 rfl).1 (S40.out.reads 0 rfl).2 HKG.out).mono ?_
       rintro e1 w43 ⟨rfl, hb_⟩
       have S42 := Aside0.mk (S40.out.below hb_)
       clear hb_
       refine ⟨_, rfl, ?_⟩
       refine hK.out _ _ (((S42.out).erase 4)) ?_
       clear hHeld
       intro hHeld
       clear hK K
       refine norm_ (a' := ?_) ?_ ?_
       rotate_left
       ·show Act.put _ (some 81) _ = _; simp only [Act.put, sqA, sqB, sqC, i64_w, i32_w]; rfl
       refine last_ (i := 15) (N := some 82) (bits 16 65535) rfl rfl (by kernel_rfl) (by decide) (fun K hK => ?_)
       refine goes_ Try.func29 (by kernel_rfl) rfl #[(.pointer (some ⟨BA, 0, none⟩)), (.int .i64 g)] (by rfl) rfl rfl (by (try simp only [List.map_toArray, List.map_cons, List.map_nil]); first | done | rfl) ?_
       with_reducible refine (askTurnT w0 _ _ BA bl q a (((S42.out).bring 4 rfl).bring 4 rfl) HK.out g).mono ?_
       rintro e1 w45 ⟨rfl, h_⟩
       have S44 := Aside0.mk h_
       clear h_
       refine ⟨_, rfl, ?_⟩
       refine hK.out _ _ ?_
       clear hK K
       refine norm_ (a' := ?_) ?_ ?_
       rotate_left
       ·show Act.put _ (some 82) _ = _; simp only [Act.put, sqA, sqB, sqC, i64_w, i32_w]; rfl
       refine done_ (by kernel_rfl) ?_
       clear hHeld
       go_wp2_with (fail)
       go_end0
       have HH := Aside0.mk (show learnHit a c p m from ⟨Xq4.out, q7, q8⟩)
       have HN := Aside0.mk (show newChart c p = { c with epoch := p.f7.f0, pieces := p.f7.f1 } by unfold newChart; rw [if_pos Xq13.out])
       have HV := Aside0.mk (show learnV a c p m g = ((turnV a g).2, { newChart c p with wants := false }) by unfold learnV; rw [if_pos HH.out, if_pos ⟨q26, q27⟩])
       have HV := Aside0.mk (HV.out.trans (congrArg (fun z : Cl => ((turnV a g).2, { z with wants := false })) HN.out))
       refine HPOST.out _ _ ?_
       unfold LearnP
       rw [HV.out]
       exact ⟨_, rfl, ((((((((((S44.out).erase 6).erase 3).bring 6 rfl).bring 6 rfl).bring 4 rfl).bring 6 rfl).bring 5 rfl).bring 5 rfl).bring 6 rfl)⟩
     ·have Xq26 := Aside0.mk q26
      go_upto_region 5 with (first | ((with_reducible refine gate_ (.store 4 (.tmp 50) (.const (.bool false))) rfl ?_); refine st_store rfl rfl 4 _ _ rfl rfl rfl (seg := [(.bool false)]) rfl (by kernel_rfl) (by rfl) S23.out 2 rfl (Nat.le_of_ble_eq_true rfl) ?_; intro w24 h_; have S25 : Aside0 (St w0 w24 (Row k108 108 (.slice Ap p.f7.f1.length cp) p.f7.f1 :: Blk g1 (pkA p vm vv vd A3 c3 A5 c5 A7 c7 vpd) 47 :: Blk BC (cliA BA { c with epoch := p.f7.f0, pieces := p.f7.f1, wants := false } v1 (.slice Ap p.f7.f1.length cp) v3 v4) 91 :: Blk BA (askA a bl) 97 :: MapT bl q a.lead :: Row k106 106 v1 c.call.entries :: Row k108 108 (.slice A2 c.pieces.length c2) c.pieces :: Row (Kd.int .i64) 3 v3 c.sweep :: Row k42 42 v4 c.out :: L)) := Aside0.mk h_; clear h_))
      have c46 : w24.cell? ⟨BC, 0, none⟩ = some (.pointer (some ⟨BA, 0, none⟩)) := S25.out.cell 2 0 rfl rfl
      have c47 : w24.cell? ⟨BA, 24, none⟩ = some (.bool false) := (show w24.cell? ⟨BA, 24, none⟩ = some (.bool a.busy) from S25.out.cell 3 24 rfl rfl).trans (by rw [q26])
      go_wp2_with (fail)
      clear c46 c47
      go_end0
      have HH := Aside0.mk (show learnHit a c p m from ⟨Xq4.out, q7, q8⟩)
      have HN := Aside0.mk (show newChart c p = { c with epoch := p.f7.f0, pieces := p.f7.f1 } by unfold newChart; rw [if_pos Xq13.out])
      have HV := Aside0.mk (show learnV a c p m g = (a, { newChart c p with wants := false }) by unfold learnV; rw [if_pos HH.out, if_neg (fun h => (by have h9 := h.1; rw [q26] at h9; cases h9))])
      have HV := Aside0.mk (HV.out.trans (congrArg (fun z : Cl => (a, { z with wants := false })) HN.out))
      refine HPOST.out _ _ ?_
      unfold LearnP
      rw [HV.out]
      exact ⟨_, rfl, ((((((((((S25.out).erase 6).erase 1).bring 6 rfl).bring 6 rfl).bring 2 rfl).bring 6 rfl).bring 6 rfl).bring 6 rfl).bring 6 rfl)⟩
    ·have t14 : decide (c.epoch ≤ p.f7.f0) = false := decide_eq_false q13
     have Xq13 := Aside0.mk q13
     clear q13
     go_upto_region 2 with (fail)
     have S49 := Aside0.mk S11.out.drew
     refine start_ (n := 9) (S := fun w' => St w0 w' (Blk g1 (pkA p vm vv vd A3 c3 A5 c5 A7 c7 vpd) 47 :: Blk BC (cliA BA c v1 (.slice A2 c.pieces.length c2) v3 v4) 91 :: Blk BA (askA a bl) 97 :: MapT bl q a.lead :: Row k106 106 v1 c.call.entries :: Row k108 108 (.slice A2 c.pieces.length c2) c.pieces :: Row (Kd.int .i64) 3 v3 c.sweep :: Row k42 42 v4 c.out :: L)) (ds := []) (bits 9 0) (by kernel_rfl) rfl rfl (S11.out).drew (fun hHeld => ?_)
     generalize w12.drew = w48 at S49 hHeld ⊢
     refine pu 0 28 (bits 9 1) ?_ rfl rfl (by kernel_rfl) (fun _ _ _ h => h) (by rfl) ?_ ?_ ?_ ?_
     rotate_left
     ·intro w'; go_simp; with_reducible rfl
     rotate_left
     ·simp only [Act.put, sqA, sqB, sqC, i64_w, i32_w]; rfl
     refine pu 1 29 (bits 9 3) ?_ rfl rfl (by kernel_rfl) (fun _ _ _ h => h) (by rfl) ?_ ?_ ?_ ?_
     rotate_left
     ·intro w'; go_simp; with_reducible rfl
     rotate_left
     ·simp only [Act.put, sqA, sqB, sqC, i64_w, i32_w]; rfl
     refine pu 3 31 (bits 9 11) ?_ rfl rfl (by kernel_rfl) (fun _ _ _ h => h) (by rfl) ?_ ?_ ?_ ?_
     rotate_left
     ·intro w'; go_simp; with_reducible rfl
     rotate_left
     ·simp only [Act.put, sqA, sqB, sqC, i64_w, i32_w]; rfl
     refine pu 4 32 (bits 9 27) ?_ rfl rfl (by kernel_rfl) (fun _ _ _ h => h) (by rfl) ?_ ?_ ?_ ?_
     rotate_left
     ·intro w'; go_simp; with_reducible rfl
     rotate_left
     ·simp only [Act.put, sqA, sqB, sqC, i64_w, i32_w]; rfl
     refine pu 5 33 (bits 9 59) ?_ rfl rfl (by kernel_rfl) (fun _ _ _ h => h) (by rfl) ?_ ?_ ?_ ?_
     rotate_left
     ·intro w'; go_simp; with_reducible rfl
     rotate_left
     ·simp only [Act.put, sqA, sqB, sqC, i64_w, i32_w]; rfl
     refine pu 6 34 (bits 9 123) ?_ rfl rfl (by kernel_rfl) (fun _ _ _ h => h) (by rfl) ?_ ?_ ?_ ?_
     rotate_left
     ·intro w'; go_simp; with_reducible rfl
     rotate_left
     ·simp only [Act.put, sqA, sqB, sqC, i64_w, i32_w]; rfl
     refine tk 2 30 (bits 9 127) ?_ rfl rfl (by kernel_rfl) (fun _ _ _ h => h) (by rfl) ?_ hHeld ?_ ?_ ?_
     rotate_left
     ·intro w' hw'; have s0 : w'.cell? ⟨g1, 37, none⟩ = some (.int .i64 p.f7.f0) := hw'.cell 0 37 rfl rfl; go_simp; with_reducible rfl
     rotate_left
     ·simp only [Act.put, sqA, sqB, sqC, i64_w, i32_w]; rfl
     refine tk 7 35 (bits 9 255) ?_ rfl rfl (by kernel_rfl) (fun _ _ _ h => h) (by rfl) ?_ hHeld ?_ ?_ ?_
     rotate_left
     ·intro w' hw'; have s0 : w'.cell? ⟨BC, 11, none⟩ = some (.int .i64 c.epoch) := hw'.cell 1 11 rfl rfl; go_simp; with_reducible rfl
     rotate_left
     ·simp only [Act.put, sqA, sqB, sqC, i64_w, i32_w]; rfl
     refine pu 8 36 (bits 9 511) ?_ rfl rfl (by kernel_rfl) (fun _ _ _ h => h) (by rfl) ?_ ?_ ?_ ?_
     rotate_left
     ·intro w'; go_simp; with_reducible rfl
     rotate_left
     ·simp only [Act.put, sqA, sqB, sqC, i64_w, i32_w]; rfl
     refine done_ (by kernel_rfl) ?_
     clear hHeld
     go_upto_region 4 with (fail)
     rcases Bool.eq_false_or_eq_true a.busy with q52 | q52
     ·have Xq52 := Aside0.mk q52
      rcases Bool.eq_false_or_eq_true (sweepsB c.call.kind) with q53 | q53
      ·have Xq53 := Aside0.mk q53
       go_upto_region 5 with (first | ((with_reducible refine gate_ (.store 4 (.tmp 50) (.const (.bool false))) rfl ?_); refine st_store rfl rfl 4 _ _ rfl rfl rfl (seg := [(.bool false)]) rfl (by kernel_rfl) (by rfl) S49.out 1 rfl (Nat.le_of_ble_eq_true rfl) ?_; intro w50 h_; have S51 : Aside0 (St w0 w50 (Blk g1 (pkA p vm vv vd A3 c3 A5 c5 A7 c7 vpd) 47 :: Blk BC (cliA BA { c with wants := false } v1 (.slice A2 c.pieces.length c2) v3 v4) 91 :: Blk BA (askA a bl) 97 :: MapT bl q a.lead :: Row k106 106 v1 c.call.entries :: Row k108 108 (.slice A2 c.pieces.length c2) c.pieces :: Row (Kd.int .i64) 3 v3 c.sweep :: Row k42 42 v4 c.out :: L)) := Aside0.mk h_; clear h_))
       have c54 : w50.cell? ⟨BC, 0, none⟩ = some (.pointer (some ⟨BA, 0, none⟩)) := S51.out.cell 1 0 rfl rfl
       have c55 : w50.cell? ⟨BA, 24, none⟩ = some (.bool true) := (show w50.cell? ⟨BA, 24, none⟩ = some (.bool a.busy) from S51.out.cell 2 24 rfl rfl).trans (by rw [q52])
       have c56 : w50.cell? ⟨BC, 1, none⟩ = some (.int .i64 c.call.kind) := S51.out.cell 1 1 rfl rfl
       go_wp2_with (first | (go_at_call 39; (with_reducible refine (sweepsC _ c.call.kind).mono ?_); rintro e1 w58 ⟨rfl, hb_⟩; clear c54 c55 c56; have S57 := Aside0.mk (S51.out.below hb_); clear hb_))
       go_end0
       have HH := Aside0.mk (show learnHit a c p m from ⟨Xq4.out, q7, q8⟩)
       have HN := Aside0.mk (show newChart c p = c by unfold newChart; rw [if_neg (fun h => (by have h9 := Xq13.out; omega))])
       have HV := Aside0.mk (show learnV a c p m g = (a, { newChart c p with wants := false }) by unfold learnV; rw [if_pos HH.out, if_neg (fun h => (by have h9 := h.2; rw [q53] at h9; cases h9))])
       have HV := Aside0.mk (HV.out.trans (congrArg (fun z : Cl => (a, { z with wants := false })) HN.out))
       refine HPOST.out _ _ ?_
       unfold LearnP
       rw [HV.out]
       exact ⟨_, rfl, ((S57.out).erase 0)⟩
      ·have Xq53 := Aside0.mk q53
       go_upto_region 5 with (first | ((with_reducible refine gate_ (.store 4 (.tmp 50) (.const (.bool false))) rfl ?_); refine st_store rfl rfl 4 _ _ rfl rfl rfl (seg := [(.bool false)]) rfl (by kernel_rfl) (by rfl) S49.out 1 rfl (Nat.le_of_ble_eq_true rfl) ?_; intro w50 h_; have S51 : Aside0 (St w0 w50 (Blk g1 (pkA p vm vv vd A3 c3 A5 c5 A7 c7 vpd) 47 :: Blk BC (cliA BA { c with wants := false } v1 (.slice A2 c.pieces.length c2) v3 v4) 91 :: Blk BA (askA a bl) 97 :: MapT bl q a.lead :: Row k106 106 v1 c.call.entries :: Row k108 108 (.slice A2 c.pieces.length c2) c.pieces :: Row (Kd.int .i64) 3 v3 c.sweep :: Row k42 42 v4 c.out :: L)) := Aside0.mk h_; clear h_))
       have c59 : w50.cell? ⟨BC, 0, none⟩ = some (.pointer (some ⟨BA, 0, none⟩)) := S51.out.cell 1 0 rfl rfl
       have c60 : w50.cell? ⟨BA, 24, none⟩ = some (.bool true) := (show w50.cell? ⟨BA, 24, none⟩ = some (.bool a.busy) from S51.out.cell 2 24 rfl rfl).trans (by rw [q52])
       have c61 : w50.cell? ⟨BC, 1, none⟩ = some (.int .i64 c.call.kind) := S51.out.cell 1 1 rfl rfl
       go_upto_region 6 with (first | (go_at_call 39; (with_reducible refine (sweepsC _ c.call.kind).mono ?_); rintro e1 w63 ⟨rfl, hb_⟩; clear c59 c60 c61; have S62 := Aside0.mk (S51.out.below hb_); clear hb_))
       have HN := Aside0.mk (show newChart c p = c by unfold newChart; rw [if_neg (fun h => (by have h9 := Xq13.out; omega))])
       obtain ⟨⟨i, hi1, hi2, hi3⟩, ⟨kg, hkg⟩⟩ := HSV.out ⟨Xq4.out, q7, q8⟩ q52 q53
       rw [HN.out] at hkg
       have HKG := Aside0.mk hkg
       have HI0 := Aside0.mk (And.intro hi1 (And.intro hi2 hi3))
       have HST := Aside0.mk hi1
       clear hi1 hi2 hi3 hkg
       have S65 := Aside0.mk S62.out.drew
       refine start_ (n := 16) (S := fun w' => St w0 w' (Blk g1 (pkA p vm vv vd A3 c3 A5 c5 A7 c7 vpd) 47 :: Blk BC (cliA BA { c with wants := false } v1 (.slice A2 c.pieces.length c2) v3 v4) 91 :: Blk BA (askA a bl) 97 :: Row k106 106 v1 c.call.entries :: Row k108 108 (.slice A2 c.pieces.length c2) c.pieces :: Row (Kd.int .i64) 3 v3 c.sweep :: Row k42 42 v4 c.out :: L)) (ds := [15]) (bits 16 0) (by kernel_rfl) rfl rfl (((S62.out).erase 3)).drew (fun hHeld => ?_)
       generalize w63.drew = w64 at S65 hHeld ⊢
       refine pu 0 67 (bits 16 1) ?_ rfl rfl (by kernel_rfl) (fun _ _ _ h => h) (by rfl) ?_ ?_ ?_ ?_
       rotate_left
       ·intro w'; go_simp; with_reducible rfl
       rotate_left
       ·simp only [Act.put, sqA, sqB, sqC, i64_w, i32_w]; rfl
       refine pu 1 68 (bits 16 3) ?_ rfl rfl (by kernel_rfl) (fun _ _ _ h => h) (by rfl) ?_ ?_ ?_ ?_
       rotate_left
       ·intro w'; go_simp; with_reducible rfl
       rotate_left
       ·simp only [Act.put, sqA, sqB, sqC, i64_w, i32_w]; rfl
       refine pu 2 69 (bits 16 7) ?_ rfl rfl (by kernel_rfl) (fun _ _ _ h => h) (by rfl) ?_ ?_ ?_ ?_
       rotate_left
       ·intro w'; go_simp; with_reducible rfl
       rotate_left
       ·simp only [Act.put, sqA, sqB, sqC, i64_w, i32_w]; rfl
       refine pu 4 71 (bits 16 23) ?_ rfl rfl (by kernel_rfl) (fun _ _ _ h => h) (by rfl) ?_ ?_ ?_ ?_
       rotate_left
       ·intro w'; go_simp; with_reducible rfl
       rotate_left
       ·simp only [Act.put, sqA, sqB, sqC, i64_w, i32_w]; rfl
       refine pu 5 72 (bits 16 55) ?_ rfl rfl (by kernel_rfl) (fun _ _ _ h => h) (by rfl) ?_ ?_ ?_ ?_
       rotate_left
       ·intro w'; go_simp; with_reducible rfl
       rotate_left
       ·simp only [Act.put, sqA, sqB, sqC, i64_w, i32_w]; rfl
       refine pu 6 73 (bits 16 119) ?_ rfl rfl (by kernel_rfl) (fun _ _ _ h => h) (by rfl) ?_ ?_ ?_ ?_
       rotate_left
       ·intro w'; go_simp; with_reducible rfl
       rotate_left
       ·simp only [Act.put, sqA, sqB, sqC, i64_w, i32_w]; rfl
       refine pu 8 75 (bits 16 375) ?_ rfl rfl (by kernel_rfl) (fun _ _ _ h => h) (by rfl) ?_ ?_ ?_ ?_
       rotate_left
       ·intro w'; go_simp; with_reducible rfl
       rotate_left
       ·simp only [Act.put, sqA, sqB, sqC, i64_w, i32_w]; rfl
       refine pu 9 76 (bits 16 887) ?_ rfl rfl (by kernel_rfl) (fun _ _ _ h => h) (by rfl) ?_ ?_ ?_ ?_
       rotate_left
       ·intro w'; go_simp; with_reducible rfl
       rotate_left
       ·simp only [Act.put, sqA, sqB, sqC, i64_w, i32_w]; rfl
       refine pu 10 77 (bits 16 1911) ?_ rfl rfl (by kernel_rfl) (fun _ _ _ h => h) (by rfl) ?_ ?_ ?_ ?_
       rotate_left
       ·intro w'; go_simp; with_reducible rfl
       rotate_left
       ·simp only [Act.put, sqA, sqB, sqC, i64_w, i32_w]; rfl
       refine pu 11 78 (bits 16 3959) ?_ rfl rfl (by kernel_rfl) (fun _ _ _ h => h) (by rfl) ?_ ?_ ?_ ?_
       rotate_left
       ·intro w'; go_simp; with_reducible rfl
       rotate_left
       ·simp only [Act.put, sqA, sqB, sqC, i64_w, i32_w]; rfl
       refine tk 3 70 (bits 16 3967) ?_ rfl rfl (by kernel_rfl) (fun _ _ _ h => h) (by rfl) ?_ hHeld ?_ ?_ ?_
       rotate_left
       ·intro w' hw'; have s0 : w'.cell? ⟨BC, 0, none⟩ = some (.pointer (some ⟨BA, 0, none⟩)) := hw'.cell 1 0 rfl rfl; go_simp; with_reducible rfl
       rotate_left
       ·simp only [Act.put, sqA, sqB, sqC, i64_w, i32_w]; rfl
       refine take_ (i := 7) (N := some 74) (a' := ?_) (bits 16 4095) rfl rfl (by kernel_rfl) (fun _ _ _ h => h) (yields_blk (by rfl) 45 _ rfl BC 11 rfl [(.int .i64 c.epoch), (.slice A2 c.pieces.length c2)] rfl (fun w' hw' => hw'.blk 1 rfl) Try.underlying45 rfl (by kernel_rfl)) hHeld ?_ ?_
       rotate_left
       ·simp only [Act.put, sqA, sqB, sqC, i64_w, i32_w]; rfl
       refine tk 12 79 (bits 16 8191) ?_ rfl rfl (by kernel_rfl) (fun _ _ _ h => h) (by rfl) ?_ hHeld ?_ ?_ ?_
       rotate_left
       ·intro w' hw'; have s0 : w'.cell? ⟨BC, 13, none⟩ = some (.int .i64 (i : Int)) := (show w'.cell? ⟨BC, 13, none⟩ = some (.int .i64 c.step) from hw'.cell 1 13 rfl rfl).trans (by rw [HST.out]); go_simp; with_reducible rfl
       rotate_left
       ·simp only [Act.put, sqA, sqB, sqC, i64_w, i32_w]; rfl
       refine one_ (i := 13) (N := some 80) (bits 16 16383) rfl rfl (by kernel_rfl) (by decide) (fun K hK => ?_)
       refine goes_ Try.func55 (by kernel_rfl) rfl #[(.pointer (some ⟨BC, 0, none⟩)), (.int .i64 (i : Int))] (by rfl) rfl rfl (by (try simp only [List.map_toArray, List.map_cons, List.map_nil]); first | done | rfl) ?_
       with_reducible refine (cliPlace _ 0 BC BA bl q a { c with wants := false } v1 (.slice A2 c.pieces.length c2) v3 v4 (cli_in (L := L) ((S65.out).erase 0)) i HI0.out.2.1 r HI0.out.2.2).mono ?_
       rintro e1 w67 ⟨rfl, hb_⟩
       have S66 := Aside0.mk (S65.out.below hb_)
       clear hb_
       refine ⟨_, rfl, ?_⟩
       refine hK.out _ _ (((S66.out).erase 3)) ?_
       clear hHeld
       intro hHeld
       clear hK K
       refine norm_ (a' := ?_) ?_ ?_
       rotate_left
       ·show Act.put _ (some 80) _ = _; simp only [Act.put, sqA, sqB, sqC, i64_w, i32_w]; rfl
       refine one_ (i := 14) (N := some 81) (bits 16 32767) rfl rfl (by kernel_rfl) (by decide) (fun K hK => ?_)
       refine goes_ Try.func54 (by kernel_rfl) rfl #[(.agg #[(.int .i64 c.epoch), (.slice A2 c.pieces.length c2)]), (.int .i64 r)] (by rfl) rfl rfl (by (try simp only [List.map_toArray, List.map_cons, List.map_nil]); first | done | rfl) ?_
       with_reducible refine (chart_Of.calls kg c.epoch A2 c2 c.pieces r g _ (S66.out.reads 5 rfl).1 (S66.out.reads 5 rfl).2 HKG.out).mono ?_
       rintro e1 w69 ⟨rfl, hb_⟩
       have S68 := Aside0.mk (S66.out.below hb_)
       clear hb_
       refine ⟨_, rfl, ?_⟩
       refine hK.out _ _ (((S68.out).erase 3)) ?_
       clear hHeld
       intro hHeld
       clear hK K
       refine norm_ (a' := ?_) ?_ ?_
       rotate_left
       ·show Act.put _ (some 81) _ = _; simp only [Act.put, sqA, sqB, sqC, i64_w, i32_w]; rfl
       refine last_ (i := 15) (N := some 82) (bits 16 65535) rfl rfl (by kernel_rfl) (by decide) (fun K hK => ?_)
       refine goes_ Try.func29 (by kernel_rfl) rfl #[(.pointer (some ⟨BA, 0, none⟩)), (.int .i64 g)] (by rfl) rfl rfl (by (try simp only [List.map_toArray, List.map_cons, List.map_nil]); first | done | rfl) ?_
       with_reducible refine (askTurnT w0 _ _ BA bl q a (((S68.out).bring 3 rfl).bring 3 rfl) HK.out g).mono ?_
       rintro e1 w71 ⟨rfl, h_⟩
       have S70 := Aside0.mk h_
       clear h_
       refine ⟨_, rfl, ?_⟩
       refine hK.out _ _ ?_
       clear hK K
       refine norm_ (a' := ?_) ?_ ?_
       rotate_left
       ·show Act.put _ (some 82) _ = _; simp only [Act.put, sqA, sqB, sqC, i64_w, i32_w]; rfl
       refine done_ (by kernel_rfl) ?_
       clear hHeld
       go_wp2_with (fail)
       go_end0
       have HH := Aside0.mk (show learnHit a c p m from ⟨Xq4.out, q7, q8⟩)
       have HN := Aside0.mk (show newChart c p = c by unfold newChart; rw [if_neg (fun h => (by have h9 := Xq13.out; omega))])
       have HV := Aside0.mk (show learnV a c p m g = ((turnV a g).2, { newChart c p with wants := false }) by unfold learnV; rw [if_pos HH.out, if_pos ⟨q52, q53⟩])
       have HV := Aside0.mk (HV.out.trans (congrArg (fun z : Cl => ((turnV a g).2, { z with wants := false })) HN.out))
       refine HPOST.out _ _ ?_
       unfold LearnP
       rw [HV.out]
       exact ⟨_, rfl, (((((((((S70.out).erase 2).bring 6 rfl).bring 6 rfl).bring 6 rfl).bring 6 rfl).bring 5 rfl).bring 5 rfl).bring 6 rfl)⟩
     ·have Xq52 := Aside0.mk q52
      go_upto_region 5 with (first | ((with_reducible refine gate_ (.store 4 (.tmp 50) (.const (.bool false))) rfl ?_); refine st_store rfl rfl 4 _ _ rfl rfl rfl (seg := [(.bool false)]) rfl (by kernel_rfl) (by rfl) S49.out 1 rfl (Nat.le_of_ble_eq_true rfl) ?_; intro w50 h_; have S51 : Aside0 (St w0 w50 (Blk g1 (pkA p vm vv vd A3 c3 A5 c5 A7 c7 vpd) 47 :: Blk BC (cliA BA { c with wants := false } v1 (.slice A2 c.pieces.length c2) v3 v4) 91 :: Blk BA (askA a bl) 97 :: MapT bl q a.lead :: Row k106 106 v1 c.call.entries :: Row k108 108 (.slice A2 c.pieces.length c2) c.pieces :: Row (Kd.int .i64) 3 v3 c.sweep :: Row k42 42 v4 c.out :: L)) := Aside0.mk h_; clear h_))
      have c72 : w50.cell? ⟨BC, 0, none⟩ = some (.pointer (some ⟨BA, 0, none⟩)) := S51.out.cell 1 0 rfl rfl
      have c73 : w50.cell? ⟨BA, 24, none⟩ = some (.bool false) := (show w50.cell? ⟨BA, 24, none⟩ = some (.bool a.busy) from S51.out.cell 2 24 rfl rfl).trans (by rw [q52])
      go_wp2_with (fail)
      clear c72 c73
      go_end0
      have HH := Aside0.mk (show learnHit a c p m from ⟨Xq4.out, q7, q8⟩)
      have HN := Aside0.mk (show newChart c p = c by unfold newChart; rw [if_neg (fun h => (by have h9 := Xq13.out; omega))])
      have HV := Aside0.mk (show learnV a c p m g = (a, { newChart c p with wants := false }) by unfold learnV; rw [if_pos HH.out, if_neg (fun h => (by have h9 := h.1; rw [q52] at h9; cases h9))])
      have HV := Aside0.mk (HV.out.trans (congrArg (fun z : Cl => (a, { z with wants := false })) HN.out))
      refine HPOST.out _ _ ?_
      unfold LearnP
      rw [HV.out]
      exact ⟨_, rfl, ((S51.out).erase 0)⟩
   ·have Xq8 := Aside0.mk q8
    go_upto_region 1 with (first | ((with_reducible refine gate_dst (N := 3) rfl ?_); refine st_box ?hg (N := 3) ?hd (pkA p vm vv vd A3 c3 A5 c5 A7 c7 vpd) 47 ?hr H.out ?_; (case hd => rfl); (case hg => rfl); (case hr => first | (go_simp; done) | (go_simp; rfl)); intro g1 w2 hg_ h_ hb_; have S3 := Aside0.mk h_; have BS3 := Aside0.mk hb_; have GS3 := Aside0.mk hg_; clear h_ hb_ hg_))
    have S75 := Aside0.mk S3.out.drew
    refine start_ (n := 24) (S := fun w' => St w0 w' (Blk g1 (pkA p vm vv vd A3 c3 A5 c5 A7 c7 vpd) 47 :: Blk BC (cliA BA c v1 (.slice A2 c.pieces.length c2) v3 v4) 91 :: Blk BA (askA a bl) 97 :: MapT bl q a.lead :: Row k106 106 v1 c.call.entries :: Row k108 108 (.slice A2 c.pieces.length c2) c.pieces :: Row (Kd.int .i64) 3 v3 c.sweep :: Row k42 42 v4 c.out :: L)) (ds := []) (bits 24 0) (by kernel_rfl) rfl rfl (S3.out).drew (fun hHeld => ?_)
    generalize w2.drew = w74 at S75 hHeld ⊢
    refine pu 0 4 (bits 24 1) ?_ rfl rfl (by kernel_rfl) (fun _ _ _ h => h) (by rfl) ?_ ?_ ?_ ?_
    rotate_left
    ·intro w'; go_simp; with_reducible rfl
    rotate_left
    ·simp only [Act.put, sqA, sqB, sqC, i64_w, i32_w]; rfl
    refine pu 2 6 (bits 24 5) ?_ rfl rfl (by kernel_rfl) (fun _ _ _ h => h) (by rfl) ?_ ?_ ?_ ?_
    rotate_left
    ·intro w'; go_simp; with_reducible rfl
    rotate_left
    ·simp only [Act.put, sqA, sqB, sqC, i64_w, i32_w]; rfl
    refine pu 3 7 (bits 24 13) ?_ rfl rfl (by kernel_rfl) (fun _ _ _ h => h) (by rfl) ?_ ?_ ?_ ?_
    rotate_left
    ·intro w'; go_simp; with_reducible rfl
    rotate_left
    ·simp only [Act.put, sqA, sqB, sqC, i64_w, i32_w]; rfl
    refine pu 4 8 (bits 24 29) ?_ rfl rfl (by kernel_rfl) (fun _ _ _ h => h) (by rfl) ?_ ?_ ?_ ?_
    rotate_left
    ·intro w'; go_simp; with_reducible rfl
    rotate_left
    ·simp only [Act.put, sqA, sqB, sqC, i64_w, i32_w]; rfl
    refine tk 1 5 (bits 24 31) ?_ rfl rfl (by kernel_rfl) (fun _ _ _ h => h) (by rfl) ?_ hHeld ?_ ?_ ?_
    rotate_left
    ·intro w' hw'; have s0 : w'.cell? ⟨g1, 2, none⟩ = some (.int .i64 p.f2) := hw'.cell 0 2 rfl rfl; go_simp; with_reducible rfl
    rotate_left
    ·simp only [Act.put, sqA, sqB, sqC, i64_w, i32_w]; rfl
    refine tk 5 9 (bits 24 63) ?_ rfl rfl (by kernel_rfl) (fun _ _ _ h => h) (by rfl) ?_ hHeld ?_ ?_ ?_
    rotate_left
    ·intro w' hw'; have s0 : w'.cell? ⟨BC, 0, none⟩ = some (.pointer (some ⟨BA, 0, none⟩)) := hw'.cell 1 0 rfl rfl; go_simp; with_reducible rfl
    rotate_left
    ·simp only [Act.put, sqA, sqB, sqC, i64_w, i32_w]; rfl
    refine pu 6 10 (bits 24 127) ?_ rfl rfl (by kernel_rfl) (fun _ _ _ h => h) (by rfl) ?_ ?_ ?_ ?_
    rotate_left
    ·intro w'; go_simp; with_reducible rfl
    rotate_left
    ·simp only [Act.put, sqA, sqB, sqC, i64_w, i32_w]; rfl
    refine pu 7 11 (bits 24 255) ?_ rfl rfl (by kernel_rfl) (fun _ _ _ h => h) (by rfl) ?_ ?_ ?_ ?_
    rotate_left
    ·intro w'; go_simp; with_reducible rfl
    rotate_left
    ·simp only [Act.put, sqA, sqB, sqC, i64_w, i32_w]; rfl
    refine tk 8 12 (bits 24 511) ?_ rfl rfl (by kernel_rfl) (fun _ _ _ h => h) (by rfl) ?_ hHeld ?_ ?_ ?_
    rotate_left
    ·intro w' hw'; have s0 : w'.cell? ⟨BA, 0, none⟩ = some (.int .i64 a.id) := hw'.cell 2 0 rfl rfl; go_simp; with_reducible rfl
    rotate_left
    ·simp only [Act.put, sqA, sqB, sqC, i64_w, i32_w]; rfl
    refine pu 9 13 (bits 24 1023) ?_ rfl rfl (by kernel_rfl) (fun _ _ _ h => h) (by rfl) ?_ ?_ ?_ ?_
    rotate_left
    ·intro w'; go_simp; with_reducible rfl
    rotate_left
    ·simp only [Act.put, sqA, sqB, sqC, i64_w, i32_w]; rfl
    refine pu 10 14 (bits 24 2047) ?_ rfl rfl (by kernel_rfl) (fun _ _ _ h => h) (by rfl) ?_ ?_ ?_ ?_
    rotate_left
    ·intro w'; go_simp; with_reducible rfl
    rotate_left
    ·simp only [Act.put, sqA, sqB, sqC, i64_w, i32_w]; rfl
    refine pu 11 15 (bits 24 4095) ?_ rfl rfl (by kernel_rfl) (fun _ _ _ h => h) (by rfl) ?_ ?_ ?_ ?_
    rotate_left
    ·intro w'; go_simp; with_reducible rfl
    rotate_left
    ·simp only [Act.put, sqA, sqB, sqC, i64_w, i32_w]; rfl
    refine pu 12 16 (bits 24 8191) ?_ rfl rfl (by kernel_rfl) (fun _ _ _ h => h) (by rfl) ?_ ?_ ?_ ?_
    rotate_left
    ·intro w'; go_simp; with_reducible rfl
    rotate_left
    ·simp only [Act.put, sqA, sqB, sqC, i64_w, i32_w]; rfl
    refine pu 13 17 (bits 24 16383) ?_ rfl rfl (by kernel_rfl) (fun _ _ _ h => h) (by rfl) ?_ ?_ ?_ ?_
    rotate_left
    ·intro w'; go_simp; with_reducible rfl
    rotate_left
    ·simp only [Act.put, sqA, sqB, sqC, i64_w, i32_w]; rfl
    refine pu 14 18 (bits 24 32767) ?_ rfl rfl (by kernel_rfl) (fun _ _ _ h => h) (by rfl) ?_ ?_ ?_ ?_
    rotate_left
    ·intro w'; go_simp; with_reducible rfl
    rotate_left
    ·simp only [Act.put, sqA, sqB, sqC, i64_w, i32_w]; rfl
    refine tk 15 19 (bits 24 65535) ?_ rfl rfl (by kernel_rfl) (fun _ _ _ h => h) (by rfl) ?_ hHeld ?_ ?_ ?_
    rotate_left
    ·intro w' hw'; have s0 : w'.cell? ⟨BC, 9, none⟩ = some (.bool true) := (show w'.cell? ⟨BC, 9, none⟩ = some (.bool c.wants) from hw'.cell 1 9 rfl rfl).trans (by rw [q7]); go_simp; with_reducible rfl
    rotate_left
    ·simp only [Act.put, sqA, sqB, sqC, i64_w, i32_w]; rfl
    refine pu 16 20 (bits 24 131071) ?_ rfl rfl (by kernel_rfl) (fun _ _ _ h => h) (by rfl) ?_ ?_ ?_ ?_
    rotate_left
    ·intro w'; go_simp; with_reducible rfl
    rotate_left
    ·simp only [Act.put, sqA, sqB, sqC, i64_w, i32_w]; rfl
    refine pu 17 21 (bits 24 262143) ?_ rfl rfl (by kernel_rfl) (fun _ _ _ h => h) (by rfl) ?_ ?_ ?_ ?_
    rotate_left
    ·intro w'; go_simp; with_reducible rfl
    rotate_left
    ·simp only [Act.put, sqA, sqB, sqC, i64_w, i32_w]; rfl
    refine pu 18 22 (bits 24 524287) ?_ rfl rfl (by kernel_rfl) (fun _ _ _ h => h) (by rfl) ?_ ?_ ?_ ?_
    rotate_left
    ·intro w'; go_simp; with_reducible rfl
    rotate_left
    ·simp only [Act.put, sqA, sqB, sqC, i64_w, i32_w]; rfl
    refine pu 19 23 (bits 24 1048575) ?_ rfl rfl (by kernel_rfl) (fun _ _ _ h => h) (by rfl) ?_ ?_ ?_ ?_
    rotate_left
    ·intro w'; go_simp; with_reducible rfl
    rotate_left
    ·simp only [Act.put, sqA, sqB, sqC, i64_w, i32_w]; rfl
    refine take_ (i := 20) (N := some 24) (a' := ?_) (bits 24 2097151) rfl rfl (by kernel_rfl) (fun _ _ _ h => h) (yields_blk (by rfl) 45 _ rfl g1 37 rfl [(.int .i64 p.f7.f0), (.slice A7 p.f7.f1.length c7)] rfl (fun w' hw' => hw'.blk 0 rfl) Try.underlying45 rfl (by kernel_rfl)) hHeld ?_ ?_
    rotate_left
    ·simp only [Act.put, sqA, sqB, sqC, i64_w, i32_w]; rfl
    refine one_ (i := 21) (N := some 25) (bits 24 4194303) rfl rfl (by kernel_rfl) (by decide) (fun K hK => ?_)
    refine goes_ Try.func56 (by kernel_rfl) rfl #[(.agg #[(.int .i64 p.f7.f0), (.slice A7 p.f7.f1.length c7)])] (by rfl) rfl rfl (by (try simp only [List.map_toArray, List.map_cons, List.map_nil]); first | done | rfl) ?_
    with_reducible refine (chart_May.calls k0 p.f7.f0 A7 c7 p.f7.f1 m _ (HR7.out.1 _ ((S75.out).drop.drop.drop.drop.drop.drop.drop.drop).mem) HR7.out.2.1 HM.out).mono ?_
    rintro e1 w77 ⟨rfl, hb_⟩
    have S76 := Aside0.mk (S75.out.below hb_)
    clear hb_
    refine ⟨_, rfl, ?_⟩
    refine hK.out _ _ ((S76.out)) ?_
    clear hHeld
    intro hHeld
    clear hK K
    refine norm_ (a' := ?_) ?_ ?_
    rotate_left
    ·show Act.put _ (some 25) _ = _; simp only [Act.put, sqA, sqB, sqC, i64_w, i32_w]; rfl
    refine pu 22 26 (bits 24 8388607) ?_ rfl rfl (by kernel_rfl) (fun _ _ _ h => h) (by rfl) ?_ ?_ ?_ ?_
    rotate_left
    ·intro w'; go_simp; with_reducible rfl
    rotate_left
    ·simp only [Act.put, sqA, sqB, sqC, i64_w, i32_w]; rfl
    refine pu 23 27 (bits 24 16777215) ?_ rfl rfl (by kernel_rfl) (fun _ _ _ h => h) (by rfl) ?_ ?_ ?_ ?_
    rotate_left
    ·intro w'; go_simp; with_reducible rfl
    rotate_left
    ·simp only [Act.put, sqA, sqB, sqC, i64_w, i32_w]; rfl
    refine done_ (by kernel_rfl) ?_
    clear hHeld
    go_wp2_with (fail)
    go_end0
    have HV := Aside0.mk (show learnV a c p m g = (a, c) by unfold learnV; rw [if_neg (show ¬ learnHit a c p m from fun h => (by have h9 := h.2.2; rw [q8] at h9; cases h9))])
    refine HPOST.out _ _ ?_
    unfold LearnP
    rw [HV.out]
    exact ⟨_, rfl, ((S76.out).erase 0)⟩
  ·have Xq7 := Aside0.mk q7
   go_upto_region 1 with (first | ((with_reducible refine gate_dst (N := 3) rfl ?_); refine st_box ?hg (N := 3) ?hd (pkA p vm vv vd A3 c3 A5 c5 A7 c7 vpd) 47 ?hr H.out ?_; (case hd => rfl); (case hg => rfl); (case hr => first | (go_simp; done) | (go_simp; rfl)); intro g1 w2 hg_ h_ hb_; have S3 := Aside0.mk h_; have BS3 := Aside0.mk hb_; have GS3 := Aside0.mk hg_; clear h_ hb_ hg_))
   have S79 := Aside0.mk S3.out.drew
   refine start_ (n := 24) (S := fun w' => St w0 w' (Blk g1 (pkA p vm vv vd A3 c3 A5 c5 A7 c7 vpd) 47 :: Blk BC (cliA BA c v1 (.slice A2 c.pieces.length c2) v3 v4) 91 :: Blk BA (askA a bl) 97 :: MapT bl q a.lead :: Row k106 106 v1 c.call.entries :: Row k108 108 (.slice A2 c.pieces.length c2) c.pieces :: Row (Kd.int .i64) 3 v3 c.sweep :: Row k42 42 v4 c.out :: L)) (ds := []) (bits 24 0) (by kernel_rfl) rfl rfl (S3.out).drew (fun hHeld => ?_)
   generalize w2.drew = w78 at S79 hHeld ⊢
   refine pu 0 4 (bits 24 1) ?_ rfl rfl (by kernel_rfl) (fun _ _ _ h => h) (by rfl) ?_ ?_ ?_ ?_
   rotate_left
   ·intro w'; go_simp; with_reducible rfl
   rotate_left
   ·simp only [Act.put, sqA, sqB, sqC, i64_w, i32_w]; rfl
   refine pu 2 6 (bits 24 5) ?_ rfl rfl (by kernel_rfl) (fun _ _ _ h => h) (by rfl) ?_ ?_ ?_ ?_
   rotate_left
   ·intro w'; go_simp; with_reducible rfl
   rotate_left
   ·simp only [Act.put, sqA, sqB, sqC, i64_w, i32_w]; rfl
   refine pu 3 7 (bits 24 13) ?_ rfl rfl (by kernel_rfl) (fun _ _ _ h => h) (by rfl) ?_ ?_ ?_ ?_
   rotate_left
   ·intro w'; go_simp; with_reducible rfl
   rotate_left
   ·simp only [Act.put, sqA, sqB, sqC, i64_w, i32_w]; rfl
   refine pu 4 8 (bits 24 29) ?_ rfl rfl (by kernel_rfl) (fun _ _ _ h => h) (by rfl) ?_ ?_ ?_ ?_
   rotate_left
   ·intro w'; go_simp; with_reducible rfl
   rotate_left
   ·simp only [Act.put, sqA, sqB, sqC, i64_w, i32_w]; rfl
   refine tk 1 5 (bits 24 31) ?_ rfl rfl (by kernel_rfl) (fun _ _ _ h => h) (by rfl) ?_ hHeld ?_ ?_ ?_
   rotate_left
   ·intro w' hw'; have s0 : w'.cell? ⟨g1, 2, none⟩ = some (.int .i64 p.f2) := hw'.cell 0 2 rfl rfl; go_simp; with_reducible rfl
   rotate_left
   ·simp only [Act.put, sqA, sqB, sqC, i64_w, i32_w]; rfl
   refine tk 5 9 (bits 24 63) ?_ rfl rfl (by kernel_rfl) (fun _ _ _ h => h) (by rfl) ?_ hHeld ?_ ?_ ?_
   rotate_left
   ·intro w' hw'; have s0 : w'.cell? ⟨BC, 0, none⟩ = some (.pointer (some ⟨BA, 0, none⟩)) := hw'.cell 1 0 rfl rfl; go_simp; with_reducible rfl
   rotate_left
   ·simp only [Act.put, sqA, sqB, sqC, i64_w, i32_w]; rfl
   refine pu 6 10 (bits 24 127) ?_ rfl rfl (by kernel_rfl) (fun _ _ _ h => h) (by rfl) ?_ ?_ ?_ ?_
   rotate_left
   ·intro w'; go_simp; with_reducible rfl
   rotate_left
   ·simp only [Act.put, sqA, sqB, sqC, i64_w, i32_w]; rfl
   refine pu 7 11 (bits 24 255) ?_ rfl rfl (by kernel_rfl) (fun _ _ _ h => h) (by rfl) ?_ ?_ ?_ ?_
   rotate_left
   ·intro w'; go_simp; with_reducible rfl
   rotate_left
   ·simp only [Act.put, sqA, sqB, sqC, i64_w, i32_w]; rfl
   refine tk 8 12 (bits 24 511) ?_ rfl rfl (by kernel_rfl) (fun _ _ _ h => h) (by rfl) ?_ hHeld ?_ ?_ ?_
   rotate_left
   ·intro w' hw'; have s0 : w'.cell? ⟨BA, 0, none⟩ = some (.int .i64 a.id) := hw'.cell 2 0 rfl rfl; go_simp; with_reducible rfl
   rotate_left
   ·simp only [Act.put, sqA, sqB, sqC, i64_w, i32_w]; rfl
   refine pu 9 13 (bits 24 1023) ?_ rfl rfl (by kernel_rfl) (fun _ _ _ h => h) (by rfl) ?_ ?_ ?_ ?_
   rotate_left
   ·intro w'; go_simp; with_reducible rfl
   rotate_left
   ·simp only [Act.put, sqA, sqB, sqC, i64_w, i32_w]; rfl
   refine pu 10 14 (bits 24 2047) ?_ rfl rfl (by kernel_rfl) (fun _ _ _ h => h) (by rfl) ?_ ?_ ?_ ?_
   rotate_left
   ·intro w'; go_simp; with_reducible rfl
   rotate_left
   ·simp only [Act.put, sqA, sqB, sqC, i64_w, i32_w]; rfl
   refine pu 11 15 (bits 24 4095) ?_ rfl rfl (by kernel_rfl) (fun _ _ _ h => h) (by rfl) ?_ ?_ ?_ ?_
   rotate_left
   ·intro w'; go_simp; with_reducible rfl
   rotate_left
   ·simp only [Act.put, sqA, sqB, sqC, i64_w, i32_w]; rfl
   refine pu 12 16 (bits 24 8191) ?_ rfl rfl (by kernel_rfl) (fun _ _ _ h => h) (by rfl) ?_ ?_ ?_ ?_
   rotate_left
   ·intro w'; go_simp; with_reducible rfl
   rotate_left
   ·simp only [Act.put, sqA, sqB, sqC, i64_w, i32_w]; rfl
   refine pu 13 17 (bits 24 16383) ?_ rfl rfl (by kernel_rfl) (fun _ _ _ h => h) (by rfl) ?_ ?_ ?_ ?_
   rotate_left
   ·intro w'; go_simp; with_reducible rfl
   rotate_left
   ·simp only [Act.put, sqA, sqB, sqC, i64_w, i32_w]; rfl
   refine pu 14 18 (bits 24 32767) ?_ rfl rfl (by kernel_rfl) (fun _ _ _ h => h) (by rfl) ?_ ?_ ?_ ?_
   rotate_left
   ·intro w'; go_simp; with_reducible rfl
   rotate_left
   ·simp only [Act.put, sqA, sqB, sqC, i64_w, i32_w]; rfl
   refine tk 15 19 (bits 24 65535) ?_ rfl rfl (by kernel_rfl) (fun _ _ _ h => h) (by rfl) ?_ hHeld ?_ ?_ ?_
   rotate_left
   ·intro w' hw'; have s0 : w'.cell? ⟨BC, 9, none⟩ = some (.bool false) := (show w'.cell? ⟨BC, 9, none⟩ = some (.bool c.wants) from hw'.cell 1 9 rfl rfl).trans (by rw [q7]); go_simp; with_reducible rfl
   rotate_left
   ·simp only [Act.put, sqA, sqB, sqC, i64_w, i32_w]; rfl
   refine pu 16 20 (bits 24 131071) ?_ rfl rfl (by kernel_rfl) (fun _ _ _ h => h) (by rfl) ?_ ?_ ?_ ?_
   rotate_left
   ·intro w'; go_simp; with_reducible rfl
   rotate_left
   ·simp only [Act.put, sqA, sqB, sqC, i64_w, i32_w]; rfl
   refine pu 17 21 (bits 24 262143) ?_ rfl rfl (by kernel_rfl) (fun _ _ _ h => h) (by rfl) ?_ ?_ ?_ ?_
   rotate_left
   ·intro w'; go_simp; with_reducible rfl
   rotate_left
   ·simp only [Act.put, sqA, sqB, sqC, i64_w, i32_w]; rfl
   refine pu 18 22 (bits 24 524287) ?_ rfl rfl (by kernel_rfl) (fun _ _ _ h => h) (by rfl) ?_ ?_ ?_ ?_
   rotate_left
   ·intro w'; go_simp; with_reducible rfl
   rotate_left
   ·simp only [Act.put, sqA, sqB, sqC, i64_w, i32_w]; rfl
   refine take_ (i := 19) (N := some 23) (v := undef) (a' := ?_) (bits 24 1048575) rfl rfl (by kernel_rfl) (fun _ _ _ h => h) (Or.inr ⟨by rfl, rfl⟩) hHeld ?_ ?_
   rotate_left
   ·simp only [Act.put, sqA, sqB, sqC, i64_w, i32_w]; rfl
   refine take_ (i := 20) (N := some 24) (v := undef) (a' := ?_) (bits 24 2097151) rfl rfl (by kernel_rfl) (fun _ _ _ h => h) (Or.inr ⟨by rfl, rfl⟩) hHeld ?_ ?_
   rotate_left
   ·simp only [Act.put, sqA, sqB, sqC, i64_w, i32_w]; rfl
   refine take_ (i := 21) (N := some 25) (v := undef) (a' := ?_) (bits 24 4194303) rfl rfl (by kernel_rfl) (fun _ _ _ h => h) (Or.inr ⟨by rfl, rfl⟩) hHeld ?_ ?_
   rotate_left
   ·simp only [Act.put, sqA, sqB, sqC, i64_w, i32_w]; rfl
   refine take_ (i := 22) (N := some 26) (v := undef) (a' := ?_) (bits 24 8388607) rfl rfl (by kernel_rfl) (fun _ _ _ h => h) (Or.inr ⟨by rfl, rfl⟩) hHeld ?_ ?_
   rotate_left
   ·simp only [Act.put, sqA, sqB, sqC, i64_w, i32_w]; rfl
   refine pu 23 27 (bits 24 16777215) ?_ rfl rfl (by kernel_rfl) (fun _ _ _ h => h) (by rfl) ?_ ?_ ?_ ?_
   rotate_left
   ·intro w'; go_simp; with_reducible rfl
   rotate_left
   ·simp only [Act.put, sqA, sqB, sqC, i64_w, i32_w]; rfl
   refine done_ (by kernel_rfl) ?_
   clear hHeld
   go_wp2_with (fail)
   go_end0
   have HV := Aside0.mk (show learnV a c p m g = (a, c) by unfold learnV; rw [if_neg (show ¬ learnHit a c p m from fun h => (by have h9 := h.2.1; rw [q7] at h9; cases h9))])
   refine HPOST.out _ _ ?_
   unfold LearnP
   rw [HV.out]
   exact ⟨_, rfl, ((S79.out).erase 0)⟩
 ·have t5 : (p.f2 == (-a.id)) = false := beq_eq_false_iff_ne.2 q4
  have u6 : (p.f2 != (-a.id)) = true := by rw [bne, t5]; rfl
  have Xq4 := Aside0.mk q4
  clear q4
  go_upto_region 1 with (first | ((with_reducible refine gate_dst (N := 3) rfl ?_); refine st_box ?hg (N := 3) ?hd (pkA p vm vv vd A3 c3 A5 c5 A7 c7 vpd) 47 ?hr H.out ?_; (case hd => rfl); (case hg => rfl); (case hr => first | (go_simp; done) | (go_simp; rfl)); intro g1 w2 hg_ h_ hb_; have S3 := Aside0.mk h_; have BS3 := Aside0.mk hb_; have GS3 := Aside0.mk hg_; clear h_ hb_ hg_))
  have S81 := Aside0.mk S3.out.drew
  refine start_ (n := 24) (S := fun w' => St w0 w' (Blk g1 (pkA p vm vv vd A3 c3 A5 c5 A7 c7 vpd) 47 :: Blk BC (cliA BA c v1 (.slice A2 c.pieces.length c2) v3 v4) 91 :: Blk BA (askA a bl) 97 :: MapT bl q a.lead :: Row k106 106 v1 c.call.entries :: Row k108 108 (.slice A2 c.pieces.length c2) c.pieces :: Row (Kd.int .i64) 3 v3 c.sweep :: Row k42 42 v4 c.out :: L)) (ds := []) (bits 24 0) (by kernel_rfl) rfl rfl (S3.out).drew (fun hHeld => ?_)
  generalize w2.drew = w80 at S81 hHeld ⊢
  refine pu 0 4 (bits 24 1) ?_ rfl rfl (by kernel_rfl) (fun _ _ _ h => h) (by rfl) ?_ ?_ ?_ ?_
  rotate_left
  ·intro w'; go_simp; with_reducible rfl
  rotate_left
  ·simp only [Act.put, sqA, sqB, sqC, i64_w, i32_w]; rfl
  refine pu 2 6 (bits 24 5) ?_ rfl rfl (by kernel_rfl) (fun _ _ _ h => h) (by rfl) ?_ ?_ ?_ ?_
  rotate_left
  ·intro w'; go_simp; with_reducible rfl
  rotate_left
  ·simp only [Act.put, sqA, sqB, sqC, i64_w, i32_w]; rfl
  refine pu 3 7 (bits 24 13) ?_ rfl rfl (by kernel_rfl) (fun _ _ _ h => h) (by rfl) ?_ ?_ ?_ ?_
  rotate_left
  ·intro w'; go_simp; with_reducible rfl
  rotate_left
  ·simp only [Act.put, sqA, sqB, sqC, i64_w, i32_w]; rfl
  refine pu 4 8 (bits 24 29) ?_ rfl rfl (by kernel_rfl) (fun _ _ _ h => h) (by rfl) ?_ ?_ ?_ ?_
  rotate_left
  ·intro w'; go_simp; with_reducible rfl
  rotate_left
  ·simp only [Act.put, sqA, sqB, sqC, i64_w, i32_w]; rfl
  refine tk 1 5 (bits 24 31) ?_ rfl rfl (by kernel_rfl) (fun _ _ _ h => h) (by rfl) ?_ hHeld ?_ ?_ ?_
  rotate_left
  ·intro w' hw'; have s0 : w'.cell? ⟨g1, 2, none⟩ = some (.int .i64 p.f2) := hw'.cell 0 2 rfl rfl; go_simp; with_reducible rfl
  rotate_left
  ·simp only [Act.put, sqA, sqB, sqC, i64_w, i32_w]; rfl
  refine tk 5 9 (bits 24 63) ?_ rfl rfl (by kernel_rfl) (fun _ _ _ h => h) (by rfl) ?_ hHeld ?_ ?_ ?_
  rotate_left
  ·intro w' hw'; have s0 : w'.cell? ⟨BC, 0, none⟩ = some (.pointer (some ⟨BA, 0, none⟩)) := hw'.cell 1 0 rfl rfl; go_simp; with_reducible rfl
  rotate_left
  ·simp only [Act.put, sqA, sqB, sqC, i64_w, i32_w]; rfl
  refine pu 6 10 (bits 24 127) ?_ rfl rfl (by kernel_rfl) (fun _ _ _ h => h) (by rfl) ?_ ?_ ?_ ?_
  rotate_left
  ·intro w'; go_simp; with_reducible rfl
  rotate_left
  ·simp only [Act.put, sqA, sqB, sqC, i64_w, i32_w]; rfl
  refine pu 7 11 (bits 24 255) ?_ rfl rfl (by kernel_rfl) (fun _ _ _ h => h) (by rfl) ?_ ?_ ?_ ?_
  rotate_left
  ·intro w'; go_simp; with_reducible rfl
  rotate_left
  ·simp only [Act.put, sqA, sqB, sqC, i64_w, i32_w]; rfl
  refine tk 8 12 (bits 24 511) ?_ rfl rfl (by kernel_rfl) (fun _ _ _ h => h) (by rfl) ?_ hHeld ?_ ?_ ?_
  rotate_left
  ·intro w' hw'; have s0 : w'.cell? ⟨BA, 0, none⟩ = some (.int .i64 a.id) := hw'.cell 2 0 rfl rfl; go_simp; with_reducible rfl
  rotate_left
  ·simp only [Act.put, sqA, sqB, sqC, i64_w, i32_w]; rfl
  refine pu 9 13 (bits 24 1023) ?_ rfl rfl (by kernel_rfl) (fun _ _ _ h => h) (by rfl) ?_ ?_ ?_ ?_
  rotate_left
  ·intro w'; go_simp; with_reducible rfl
  rotate_left
  ·simp only [Act.put, sqA, sqB, sqC, i64_w, i32_w]; rfl
  refine pu 10 14 (bits 24 2047) ?_ rfl rfl (by kernel_rfl) (fun _ _ _ h => h) (by rfl) ?_ ?_ ?_ ?_
  rotate_left
  ·intro w'; go_simp; with_reducible rfl
  rotate_left
  ·simp only [Act.put, sqA, sqB, sqC, i64_w, i32_w]; rfl
  refine pu 11 15 (bits 24 4095) ?_ rfl rfl (by kernel_rfl) (fun _ _ _ h => h) (by rfl) ?_ ?_ ?_ ?_
  rotate_left
  ·intro w'; go_simp; with_reducible rfl
  rotate_left
  ·simp only [Act.put, sqA, sqB, sqC, i64_w, i32_w]; rfl
  refine take_ (i := 12) (N := some 16) (v := undef) (a' := ?_) (bits 24 8191) rfl rfl (by kernel_rfl) (fun _ _ _ h => h) (Or.inr ⟨by rfl, rfl⟩) hHeld ?_ ?_
  rotate_left
  ·simp only [Act.put, sqA, sqB, sqC, i64_w, i32_w]; rfl
  refine take_ (i := 13) (N := some 17) (v := undef) (a' := ?_) (bits 24 16383) rfl rfl (by kernel_rfl) (fun _ _ _ h => h) (Or.inr ⟨by rfl, rfl⟩) hHeld ?_ ?_
  rotate_left
  ·simp only [Act.put, sqA, sqB, sqC, i64_w, i32_w]; rfl
  refine take_ (i := 14) (N := some 18) (v := undef) (a' := ?_) (bits 24 32767) rfl rfl (by kernel_rfl) (fun _ _ _ h => h) (Or.inr ⟨by rfl, rfl⟩) hHeld ?_ ?_
  rotate_left
  ·simp only [Act.put, sqA, sqB, sqC, i64_w, i32_w]; rfl
  refine take_ (i := 15) (N := some 19) (v := undef) (a' := ?_) (bits 24 65535) rfl rfl (by kernel_rfl) (fun _ _ _ h => h) (Or.inr ⟨by rfl, rfl⟩) hHeld ?_ ?_
  rotate_left
  ·simp only [Act.put, sqA, sqB, sqC, i64_w, i32_w]; rfl
  refine take_ (i := 16) (N := some 20) (v := undef) (a' := ?_) (bits 24 131071) rfl rfl (by kernel_rfl) (fun _ _ _ h => h) (Or.inr ⟨by rfl, rfl⟩) hHeld ?_ ?_
  rotate_left
  ·simp only [Act.put, sqA, sqB, sqC, i64_w, i32_w]; rfl
  refine pu 17 21 (bits 24 262143) ?_ rfl rfl (by kernel_rfl) (fun _ _ _ h => h) (by rfl) ?_ ?_ ?_ ?_
  rotate_left
  ·intro w'; go_simp; with_reducible rfl
  rotate_left
  ·simp only [Act.put, sqA, sqB, sqC, i64_w, i32_w]; rfl
  refine pu 18 22 (bits 24 524287) ?_ rfl rfl (by kernel_rfl) (fun _ _ _ h => h) (by rfl) ?_ ?_ ?_ ?_
  rotate_left
  ·intro w'; go_simp; with_reducible rfl
  rotate_left
  ·simp only [Act.put, sqA, sqB, sqC, i64_w, i32_w]; rfl
  refine take_ (i := 19) (N := some 23) (v := undef) (a' := ?_) (bits 24 1048575) rfl rfl (by kernel_rfl) (fun _ _ _ h => h) (Or.inr ⟨by rfl, rfl⟩) hHeld ?_ ?_
  rotate_left
  ·simp only [Act.put, sqA, sqB, sqC, i64_w, i32_w]; rfl
  refine take_ (i := 20) (N := some 24) (v := undef) (a' := ?_) (bits 24 2097151) rfl rfl (by kernel_rfl) (fun _ _ _ h => h) (Or.inr ⟨by rfl, rfl⟩) hHeld ?_ ?_
  rotate_left
  ·simp only [Act.put, sqA, sqB, sqC, i64_w, i32_w]; rfl
  refine take_ (i := 21) (N := some 25) (v := undef) (a' := ?_) (bits 24 4194303) rfl rfl (by kernel_rfl) (fun _ _ _ h => h) (Or.inr ⟨by rfl, rfl⟩) hHeld ?_ ?_
  rotate_left
  ·simp only [Act.put, sqA, sqB, sqC, i64_w, i32_w]; rfl
  refine take_ (i := 22) (N := some 26) (v := undef) (a' := ?_) (bits 24 8388607) rfl rfl (by kernel_rfl) (fun _ _ _ h => h) (Or.inr ⟨by rfl, rfl⟩) hHeld ?_ ?_
  rotate_left
  ·simp only [Act.put, sqA, sqB, sqC, i64_w, i32_w]; rfl
  refine pu 23 27 (bits 24 16777215) ?_ rfl rfl (by kernel_rfl) (fun _ _ _ h => h) (by rfl) ?_ ?_ ?_ ?_
  rotate_left
  ·intro w'; go_simp; with_reducible rfl
  rotate_left
  ·simp only [Act.put, sqA, sqB, sqC, i64_w, i32_w]; rfl
  refine done_ (by kernel_rfl) ?_
  clear hHeld
  go_wp2_with (fail)
  go_end0
  have HV := Aside0.mk (show learnV a c p m g = (a, c) by unfold learnV; rw [if_neg (show ¬ learnHit a c p m from fun h => Xq4.out h.1)])
  refine HPOST.out _ _ ?_
  unfold LearnP
  rw [HV.out]
  exact ⟨_, rfl, ((S81.out).erase 0)⟩
end Go.Proofs.Ytonedijkgddepaa.P
