/- front: clients and askers that no call made. No conditions. -/
import Derived.Test.YtonedijkgddepaaGA
namespace Go.Proofs.Ytonedijkgddepaa.P
open Go.RowKit Go.Maps Go.Proofs.YtonedijkgddepaaW.PrintWords Go.Proofs.YtonedijkgddepaaW.PrintLast Go.Proofs.YtonedijkgddepaaW.PrintMore
set_option linter.unusedVariables false
set_option linter.unusedSimpArgs false

/-- Nobody: nil, or made by no call. -/
abbrev Nob (w : World) (pv : Value) : Prop := ∀ W, Below w.heap.size w W → Calls Try.prog 35 #[pv] W fun e' w' => e' = .returned (.bool true) ∧ w' = W
abbrev Non (w : World) (pv : Value) : Prop := ∀ W, Below w.heap.size w W → Calls Try.prog 50 #[pv] W fun e' w' => e' = .returned (.bool true) ∧ w' = W
theorem nob_nil (w : World) : Nob w (.pointer none) := fun W _ => cliNobodyNil W
theorem nob_zero (w : World) (B : Nat) (hc : w.cell? ⟨B, 0, none⟩ = some (.pointer none)) : Nob w (.pointer (some ⟨B, 0, none⟩)) := fun W hb => cliNobodyZero W B (pw_cell_below hb hc)
theorem non_nil (w : World) : Non w (.pointer none) := fun W _ => askNoneNil W
theorem non_zero (w : World) (B : Nat) (hc : w.cell? ⟨B, 0, none⟩ = some (.int .i64 0)) : Non w (.pointer (some ⟨B, 0, none⟩)) := fun W hb => askNoneZero W B (pw_cell_below hb hc)
set_option maxHeartbeats 4000000 in
set_option maxRecDepth 100000 in
theorem nobBusy (w : World) (pv : Value) (h : Nob w pv) :
    Calls Try.prog 16 #[pv] w fun e' w' => e' = .returned (.bool false) ∧ w' = w := by
  have HN := Aside0.mk h
  clear h
  go_enter Try.func16, Try.ntmps16
  go_wp2_with (first | (go_at_call 35; (with_reducible refine (HN.out _ (Below.refl _ _)).mono ?_); rintro e1 wq_ ⟨rfl, hwq_⟩; rw [hwq_]; clear hwq_ wq_))
  go_ret
  exact ⟨rfl, rfl⟩
set_option maxHeartbeats 4000000 in
set_option maxRecDepth 100000 in
theorem nobTick (w : World) (pv : Value) (h : Nob w pv) :
    Calls Try.prog 9 #[pv] w fun e' w' => e' = .returned (.slice none 0 0) ∧ w' = w := by
  have HN := Aside0.mk h
  clear h
  go_enter Try.func9, Try.ntmps9
  go_wp2_with (first | (go_at_call 35; (with_reducible refine (HN.out _ (Below.refl _ _)).mono ?_); rintro e1 wq_ ⟨rfl, hwq_⟩; rw [hwq_]; clear hwq_ wq_))
  go_ret
  exact ⟨rfl, rfl⟩
set_option maxHeartbeats 4000000 in
set_option maxRecDepth 100000 in
theorem nobResult (w : World) (pv : Value) (h : Nob w pv) :
    Calls Try.prog 17 #[pv] w fun e' w' => e' = .returned (.tuple #[.slice none 0 0, .bool false]) ∧ w' = w := by
  have HN := Aside0.mk h
  clear h
  go_enter Try.func17, Try.ntmps17
  go_wp2_with (first | (go_at_call 35; (with_reducible refine (HN.out _ (Below.refl _ _)).mono ?_); rintro e1 wq_ ⟨rfl, hwq_⟩; rw [hwq_]; clear hwq_ wq_))
  go_ret2
  exact ⟨rfl, rfl⟩
set_option maxHeartbeats 4000000 in
set_option maxRecDepth 100000 in
theorem nonBusy (w : World) (pv : Value) (h : Non w pv) :
    Calls Try.prog 31 #[pv] w fun e' w' => e' = .returned (.bool false) ∧ w' = w := by
  have HN := Aside0.mk h
  clear h
  go_enter Try.func31, Try.ntmps31
  go_wp2_with (first | (go_at_call 50; (with_reducible refine (HN.out _ (Below.refl _ _)).mono ?_); rintro e1 wq_ ⟨rfl, hwq_⟩; rw [hwq_]; clear hwq_ wq_))
  go_ret
  exact ⟨rfl, rfl⟩
set_option maxHeartbeats 4000000 in
set_option maxRecDepth 100000 in
theorem nonNum (w : World) (pv : Value) (h : Non w pv) :
    Calls Try.prog 32 #[pv] w fun e' w' => e' = .returned (.int .i64 0) ∧ w' = w := by
  have HN := Aside0.mk h
  clear h
  go_enter Try.func32, Try.ntmps32
  go_wp2_with (first | (go_at_call 50; (with_reducible refine (HN.out _ (Below.refl _ _)).mono ?_); rintro e1 wq_ ⟨rfl, hwq_⟩; rw [hwq_]; clear hwq_ wq_))
  go_ret
  exact ⟨rfl, rfl⟩
set_option maxHeartbeats 4000000 in
set_option maxRecDepth 100000 in
theorem nonTurn (w : World) (pv : Value) (g : Int) (h : Non w pv) :
    Calls Try.prog 29 #[pv, .int .i64 g] w fun e' w' => e' = .returned (.int .i64 1) ∧ w' = w := by
  have HN := Aside0.mk h
  clear h
  go_enter Try.func29, Try.ntmps29
  go_wp2_with (first | (go_at_call 50; (with_reducible refine (HN.out _ (Below.refl _ _)).mono ?_); rintro e1 wq_ ⟨rfl, hwq_⟩; rw [hwq_]; clear hwq_ wq_))
  go_ret
  exact ⟨rfl, rfl⟩
set_option maxHeartbeats 4000000 in
set_option maxRecDepth 100000 in
theorem nobStart (w : World) (pv : Value) (x0 x1 x2 x3 x4 x5 : Value) (h : Nob w pv) :
    Calls Try.prog 12 #[pv, .agg #[x0, x1, x2, x3, x4, x5]] w fun e' w' => e' = .returned (.int .i64 1) ∧ Below w.heap.size w w' := by
  have HN := Aside0.mk h
  clear h
  go_enter Try.func12, Try.ntmps12
  go_wp2_with (first | ((with_reducible refine gate_dst (N := 3) rfl ?_); refine box_event ?hg (N := 3) ?hd (cs := #[x0, x1, x2, x3, x4, x5]) (t := 50) ?hr ?_; (case hd => rfl); (case hg => rfl); (case hr => first | (go_simp; done) | (go_simp; rfl)); intro gx hg_ w1 hbox_ hbel_; have HX := Aside0.mk hbox_; have HL := Aside0.mk hbel_; clear hbox_ hbel_; clear hg_) | (go_at_call 35; (with_reducible refine (HN.out _ HL.out).mono ?_); rintro e1 wq_ ⟨rfl, hwq_⟩; rw [hwq_]; clear hwq_ wq_))
  go_ret
  exact ⟨rfl, HL.out⟩
set_option maxHeartbeats 4000000 in
set_option maxRecDepth 100000 in
theorem nobRecv (w : World) (pv : Value) (p0 p1 p2 p3 p4 p5 p6 p7 p8 p9 p10 p11 p12 p13 p14 p15 p16 p17 p18 p19 p20 p21 p22 p23 p24 p25 p26 p27 p28 p29 p30 p31 p32 p33 p34 p35 p36 p37 p38 p39 : Value) (h : Nob w pv) :
    Calls Try.prog 11 #[pv, .agg #[p0, p1, p2, p3, p4, p5, p6, p7, p8, p9, p10, p11, p12, p13, p14, p15, p16, p17, p18, p19, p20, p21, p22, p23, p24, p25, p26, p27, p28, p29, p30, p31, p32, p33, p34, p35, p36, p37, p38, p39]] w fun e' w' => e' = .returned (.slice none 0 0) ∧ Below w.heap.size w w' := by
  have HN := Aside0.mk h
  clear h
  go_enter Try.func11, Try.ntmps11
  go_wp2_with (first | ((with_reducible refine gate_dst (N := 3) rfl ?_); refine box_event ?hg (N := 3) ?hd (cs := #[p0, p1, p2, p3, p4, p5, p6, p7, p8, p9, p10, p11, p12, p13, p14, p15, p16, p17, p18, p19, p20, p21, p22, p23, p24, p25, p26, p27, p28, p29, p30, p31, p32, p33, p34, p35, p36, p37, p38, p39]) (t := 47) ?hr ?_; (case hd => rfl); (case hg => rfl); (case hr => first | (go_simp; done) | (go_simp; rfl)); intro gx hg_ w1 hbox_ hbel_; have HX := Aside0.mk hbox_; have HL := Aside0.mk hbel_; clear hbox_ hbel_; clear hg_) | (go_at_call 35; (with_reducible refine (HN.out _ HL.out).mono ?_); rintro e1 wq_ ⟨rfl, hwq_⟩; rw [hwq_]; clear hwq_ wq_))
  go_ret
  exact ⟨rfl, HL.out⟩
set_option maxHeartbeats 4000000 in
set_option maxRecDepth 100000 in
theorem nonAsk (w : World) (pv : Value) (g : Int) (c0 c1 c2 c3 c4 c5 c6 c7 c8 c9 c10 c11 c12 c13 c14 c15 c16 c17 c18 : Value) (h : Non w pv) :
    Calls Try.prog 27 #[pv, .int .i64 g, .agg #[c0, c1, c2, c3, c4, c5, c6, c7, c8, c9, c10, c11, c12, c13, c14, c15, c16, c17, c18]] w fun e' w' => e' = .returned (.int .i64 1) ∧ Below w.heap.size w w' := by
  have HN := Aside0.mk h
  clear h
  go_enter Try.func27, Try.ntmps27
  go_wp2_with (first | ((with_reducible refine gate_dst (N := 5) rfl ?_); refine box_event ?hg (N := 5) ?hd (cs := #[c0, c1, c2, c3, c4, c5, c6, c7, c8, c9, c10, c11, c12, c13, c14, c15, c16, c17, c18]) (t := 38) ?hr ?_; (case hd => rfl); (case hg => rfl); (case hr => first | (go_simp; done) | (go_simp; rfl)); intro gx hg_ w1 hbox_ hbel_; have HX := Aside0.mk hbox_; have HL := Aside0.mk hbel_; clear hbox_ hbel_; clear hg_) | (go_at_call 50; (with_reducible refine (HN.out _ HL.out).mono ?_); rintro e1 wq_ ⟨rfl, hwq_⟩; rw [hwq_]; clear hwq_ wq_))
  go_ret
  exact ⟨rfl, HL.out⟩
set_option maxHeartbeats 4000000 in
set_option maxRecDepth 100000 in
theorem nonTick (w : World) (pv : Value) (h : Non w pv) :
    Calls Try.prog 22 #[pv] w fun e' w' => e' = .returned (.slice none 0 0) ∧ w' = w := by
  have HN := Aside0.mk h
  have H31 := Aside0.mk (nonBusy w pv h)
  clear h
  go_enter Try.func22, Try.ntmps22
  go_wp2_with (go_at_call 31; (with_reducible refine H31.out.mono ?_); rintro e1 wq_ ⟨rfl, hwq_⟩; rw [hwq_]; clear hwq_ wq_)
  go_ret
  exact ⟨rfl, rfl⟩
end Go.Proofs.Ytonedijkgddepaa.P
