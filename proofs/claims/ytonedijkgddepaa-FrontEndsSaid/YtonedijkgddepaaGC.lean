/- front.Client, by hand: place. No conditions. -/
import Derived.Test.YtonedijkgddepaaGB
import Derived.Test.YtonedijkgddepaaP15
import Derived.Test.YtonedijkgddepaaP16
namespace Go.Proofs.Ytonedijkgddepaa.P
open Go.RowKit Go.Maps Go.Proofs.YtonedijkgddepaaW.PrintWords Go.Proofs.YtonedijkgddepaaW.PrintLast Go.Proofs.YtonedijkgddepaaW.PrintMore
set_option linter.unusedVariables false
set_option linter.unusedSimpArgs false

/-- The group that an entry is about. -/
def entG (k : Int) (y : S106) : ByteArray := if k = 3 ∨ k = 4 then y.f3.f1 else y.f0
theorem placeOfC (w : World) (g : ByteArray) (r : Int) (h : ∃ k, place_Of.f k g = some r) : Calls Try.prog 61 #[.string g] w fun e' w' => e' = .returned (.int .i64 r) ∧ Below w.heap.size w w' := by
 obtain ⟨k, hk⟩ := h
 exact (place_Of.calls k g r w hk).mono fun e w' h => ⟨h.1, h.2.below⟩
set_option maxHeartbeats 4000000 in
set_option maxRecDepth 100000 in
theorem cliPlace (w : World) (base BC BA bl q : Nat) (a : As) (c : Cl) (v1 v2 v3 v4 : Value) (h : CliAt w base BC BA bl q a c v1 v2 v3 v4) (i : Nat) (hi : i < c.call.entries.length) (r : Int) (hr : ∃ k, place_Of.f k (entG c.call.kind (c.call.entries.getD i z106)) = some r) :
  Calls Try.prog 55 #[.pointer (some ⟨BC, 0, none⟩), .int .i64 i] w fun e' w' => e' = .returned (.int .i64 r) ∧ Below w.heap.size w w' := by
 have H := Aside0.mk h
 clear h
 obtain ⟨A1, c1, rfl⟩ := Kd.R_slice H.out.r1
 obtain ⟨A1_, c1_, e1_, _, hC1⟩ := Kd.R_reads H.out.r1
 injection e1_ with e1_ _ e3_
 subst e1_
 obtain ⟨ad, e0, y0, y1, y2, y3, y4, y5, y6⟩ := at_T106 hC1 (i : Int) (by omega) (by omega)
 cases e0
 simp only [Int.toNat_natCast] at y0 y1 y2 y3 y4 y5 y6
 rw [show rd_T106 c.call.entries (i : Int) = c.call.entries.getD i z106 from by unfold rd_T106; rw [Int.toNat_natCast]] at y0 y1 y2 y3 y4 y5 y6
 clear hC1 e3_
 generalize c.call.entries.getD i z106 = y at hr y0 y1 y2 y3 y4 y5 y6
 have HRR := Aside0.mk hr
 clear hr
 have f1 : decide (i < c.call.entries.length) = true := decide_eq_true hi
 have f2 : decide ((i : Int) < (c.call.entries.length : Int)) = true := decide_eq_true (by omega)
 have a1 : w.cell? ⟨BC, 1, none⟩ = some (.int .i64 c.call.kind) := (blk_cell H.out.blk 1).trans rfl
 have a6 : w.cell? ⟨BC, 6, none⟩ = some (.slice (some ad) c.call.entries.length c1) := (blk_cell H.out.blk 6).trans rfl
 go_enter Try.func55, Try.ntmps55
 go_upto_region 2 with (first | ((with_reducible refine gate_dst (N := 5) rfl ?_); refine box_event ?hg (N := 5) ?hd (cs := #[(.string (⟨#[]⟩ : ByteArray)), (.string (⟨#[]⟩ : ByteArray)), (.string (⟨#[]⟩ : ByteArray)), (.int .i64 0), (.string (⟨#[]⟩ : ByteArray)), (.int .i64 0), (.int .i64 0)]) (t := 106) ?hr ?_; (case hd => rfl); (case hg => rfl); (case hr => first | (go_simp; done) | (go_simp; rfl)); intro gx hg_ w1 hbox_ hbel_; have HX0 := Aside0.mk hbox_; have HL := Aside0.mk hbel_; clear hbox_ hbel_; have HG := Aside0.mk hg_; clear hg_) | ((with_reducible refine gate_ (.store 106 (.tmp 5) (.tmp 13)) rfl ?_); refine store_blk rfl 106 _ _ rfl gx 0 [(.string y.f0), (.string y.f1), (.string y.f2), (.int .i64 y.f3.f0), (.string y.f3.f1), (.int .i64 y.f3.f2), (.int .i64 y.f3.f3)] rfl rfl HX0.out (Nat.le_of_ble_eq_true rfl) (by kernel_rfl) (by rfl) #[(.string y.f0), (.string y.f1), (.string y.f2), (.int .i64 y.f3.f0), (.string y.f3.f1), (.int .i64 y.f3.f2), (.int .i64 y.f3.f3)] (by rfl) ?_; intro w2 hnb_ hup_; have HX := Aside0.mk hnb_; have HU := Aside0.mk hup_; clear hnb_ hup_))
 have hbg : BC ≠ gx := fun e => by have h1 := blk_lt H.out.blk; have h2 := HG.out; omega
 have hB2 := HU.out.block (blk_below H.out.blk HL.out) hbg
 have hU := (Upd.of_below HL.out (fun _ => False)).trans HU.out (fun k hk => Or.inr (by have h3 : k = gx := hk; have := HG.out; omega))
 have B2 := Aside0.mk (show Below w.heap.size w w2 from ⟨hU.os, hU.tape, hU.output, hU.kept.1, fun k hk => hU.kept.2 k hk (fun h => h)⟩)
 have b1 : w2.cell? ⟨BC, 1, none⟩ = some (.int .i64 c.call.kind) := (blk_cell hB2 1).trans rfl
 have z0 : w2.cell? ⟨gx, 0, none⟩ = some (.string y.f0) := (blk_cell HX.out 0).trans rfl
 have z4 : w2.cell? ⟨gx, 4, none⟩ = some (.string y.f3.f1) := (blk_cell HX.out 4).trans rfl
 clear hbg hB2 hU y0 y1 y2 y3 y4 y5 y6 f1 f2 a1 a6
 by_cases h3 : c.call.kind = 3
 ·have t1 : (c.call.kind == 3) = true := beq_iff_eq.2 h3
  have HE := Aside0.mk (show entG c.call.kind y = y.f3.f1 by unfold entG; rw [if_pos (Or.inl h3)])
  clear h3
  go_wp2_with (first | (go_at_call 61; (with_reducible refine (placeOfC _ _ r (by rw [← HE.out]; exact HRR.out)).mono ?_); rintro e1 wq_ ⟨rfl, hwq_⟩; have BP := Aside0.mk hwq_; clear hwq_))
  go_ret
  exact ⟨rfl, B2.out.trans (BP.out.mono B2.out.size)⟩
 ·have t1 : (c.call.kind == 3) = false := beq_eq_false_iff_ne.2 h3
  by_cases h4 : c.call.kind = 4
  ·have t2 : (c.call.kind == 4) = true := beq_iff_eq.2 h4
   have HE := Aside0.mk (show entG c.call.kind y = y.f3.f1 by unfold entG; rw [if_pos (Or.inr h4)])
   clear h3 h4
   go_wp2_with (first | (go_at_call 61; (with_reducible refine (placeOfC _ _ r (by rw [← HE.out]; exact HRR.out)).mono ?_); rintro e1 wq_ ⟨rfl, hwq_⟩; have BP := Aside0.mk hwq_; clear hwq_))
   go_ret
   exact ⟨rfl, B2.out.trans (BP.out.mono B2.out.size)⟩
  ·have t2 : (c.call.kind == 4) = false := beq_eq_false_iff_ne.2 h4
   have HE := Aside0.mk (show entG c.call.kind y = y.f0 by unfold entG; rw [if_neg (fun h => by rcases h with h | h; exact h3 h; exact h4 h)])
   clear h3 h4
   go_wp2_with (first | (go_at_call 61; (with_reducible refine (placeOfC _ _ r (by rw [← HE.out]; exact HRR.out)).mono ?_); rintro e1 wq_ ⟨rfl, hwq_⟩; have BP := Aside0.mk hwq_; clear hwq_))
   go_ret
   exact ⟨rfl, B2.out.trans (BP.out.mono B2.out.size)⟩
end Go.Proofs.Ytonedijkgddepaa.P
