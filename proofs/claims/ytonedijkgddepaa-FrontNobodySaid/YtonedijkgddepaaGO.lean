/- front: Client.Chart; Recv of an asker that no call made. No conditions. -/
import Derived.Test.YtonedijkgddepaaGF
import Derived.Test.YtonedijkgddepaaGN
import Derived.BigQuiet
import Derived.Deep.QuietTactic
namespace Go.Proofs.Ytonedijkgddepaa.P
open Go.RowKit Go.Maps Go.Proofs.YtonedijkgddepaaW.PrintWords Go.Proofs.YtonedijkgddepaaW.PrintLast Go.Proofs.YtonedijkgddepaaW.PrintMore
set_option linter.unusedVariables false
set_option linter.unusedSimpArgs false
set_option maxHeartbeats 4000000 in
set_option maxRecDepth 100000 in
theorem nobChart (w : World) (pv : Value) (h : Nob w pv) :
    Calls Try.prog 34 #[pv] w fun e' w' => e' = .returned (.agg #[.int .i64 0, .slice none 0 0]) ∧ Below w.heap.size w w' := by
  have HN := Aside0.mk h
  clear h
  go_enter Try.func34, Try.ntmps34
  go_wp2_with (first | ((with_reducible refine gate_dst (N := 2) rfl ?_); refine box_event ?hg (N := 2) ?hd (cs := #[(.int .i64 0), (.slice none 0 0)]) (t := 45) ?hr ?_; (case hd => rfl); (case hg => rfl); (case hr => first | (go_simp; done) | (go_simp; rfl)); intro gx hg_ w1 hbox_ hbel_; have HX := Aside0.mk hbox_; have HL := Aside0.mk hbel_; clear hbox_ hbel_; have HG := Aside0.mk hg_; clear hg_) | (go_at_call 35; (with_reducible refine (HN.out _ HL.out).mono ?_); rintro e1 wq_ ⟨rfl, hwq_⟩; rw [hwq_]; clear hwq_ wq_) | ((with_reducible refine gate_ (.store 45 (.tmp 2) (.tmp 5)) rfl ?_); refine store_blk rfl 45 _ _ rfl gx 0 [(.int .i64 0), (.slice none 0 0)] rfl rfl HX.out (Nat.le_of_ble_eq_true rfl) (by kernel_rfl) (by rfl) #[(.int .i64 0), (.slice none 0 0)] (by rfl) ?_; intro w2 hnb_ hup_; have HX2 := Aside0.mk hnb_; have HU2 := Aside0.mk hup_; clear hnb_ hup_))
  refine bodyPost_ret (results_cell_row rfl _ _ gx 45 #[.int .i64 0, .slice none 0 0] (0, 0) _ rfl HX2.out Try.underlying45 rfl (by kernel_rfl)) rfl ?_
  have hU := (Upd.of_below HL.out (fun _ => False)).trans HU2.out (fun k hk => Or.inr (by have h3 : k = gx := hk; have := HG.out; omega))
  exact ⟨rfl, hU.os, hU.tape, hU.output, hU.kept.1, fun k hk => hU.kept.2 k hk (fun h => h)⟩
set_option maxHeartbeats 4000000 in
set_option maxRecDepth 100000 in
theorem nonRecv (w : World) (pv : Value) (p0 p1 p2 p3 p4 p5 p6 p7 p8 p9 p10 p11 p12 p13 p14 p15 p16 p17 p18 p19 p20 p21 p22 p23 p24 p25 p26 p27 p28 p29 p30 p31 p32 p33 p34 p35 p36 p37 p38 p39 : Value) (h : Non w pv) :
    Calls Try.prog 24 #[pv, .agg #[p0, p1, p2, p3, p4, p5, p6, p7, p8, p9, p10, p11, p12, p13, p14, p15, p16, p17, p18, p19, p20, p21, p22, p23, p24, p25, p26, p27, p28, p29, p30, p31, p32, p33, p34, p35, p36, p37, p38, p39]] w fun e' w' => e' = .returned (.tuple #[.agg #[.int .i64 0, .int .i64 0, .int .i64 0, .slice none 0 0, .slice none 0 0, .slice none 0 0], .bool false]) ∧ Below w.heap.size w w' := by
  have H31 := Aside0.mk (fun (W : World) (hb : Below w.heap.size w W) => nonBusy W pv (fun W2 h2 => h W2 (hb.trans (h2.mono hb.size))))
  clear h
  go_enter Try.func24, Try.ntmps24
  go_wp2_with (first | ((with_reducible refine gate_dst (N := 3) rfl ?_); refine box_event ?hg (N := 3) ?hd (cs := #[p0, p1, p2, p3, p4, p5, p6, p7, p8, p9, p10, p11, p12, p13, p14, p15, p16, p17, p18, p19, p20, p21, p22, p23, p24, p25, p26, p27, p28, p29, p30, p31, p32, p33, p34, p35, p36, p37, p38, p39]) (t := 47) ?hr ?_; (case hd => rfl); (case hg => rfl); (case hr => first | (go_simp; done) | (go_simp; rfl)); intro gp hg_ w1 hbox_ hbel_; have HP := Aside0.mk hbox_; have HL := Aside0.mk hbel_; clear hbox_ hbel_; have HG := Aside0.mk hg_; clear hg_) | ((with_reducible refine gate_dst (N := 4) rfl ?_); refine box_event ?hg (N := 4) ?hd (cs := #[(.int .i64 0), (.int .i64 0), (.int .i64 0), (.slice none 0 0), (.slice none 0 0), (.slice none 0 0)]) (t := 42) ?hr ?_; (case hd => rfl); (case hg => rfl); (case hr => first | (go_simp; done) | (go_simp; rfl)); intro gr hg_ w2 hbox_ hbel_; have HR := Aside0.mk hbox_; have HL2 := Aside0.mk hbel_; clear hbox_ hbel_; have HG2 := Aside0.mk hg_; clear hg_))
  go_quiet ((go_at_call 31; refine Calls.quiet_of_same (H31.out _ (pw_below_drewN (HL.out.trans (HL2.out.mono HL.out.size)) _))))
  have HR9 := Aside0.mk (blk_drewN HR.out)
  go_wp2_with (first | ((with_reducible refine gate_ (.store 42 (.tmp 4) (.tmp 54)) rfl ?_); refine store_blk rfl 42 _ _ rfl gr 0 [(.int .i64 0), (.int .i64 0), (.int .i64 0), (.slice none 0 0), (.slice none 0 0), (.slice none 0 0)] rfl rfl (HR9.out _) (Nat.le_of_ble_eq_true rfl) (by kernel_rfl) (by rfl) #[(.int .i64 0), (.int .i64 0), (.int .i64 0), (.slice none 0 0), (.slice none 0 0), (.slice none 0 0)] (by rfl) ?_; intro w3 hnb_ hup_; have HR3 := Aside0.mk hnb_; have HU3 := Aside0.mk hup_; clear hnb_ hup_))
  refine bodyPost_ret (results_ct rfl _ _ gr 42 #[.int .i64 0, .int .i64 0, .int .i64 0, .slice none 0 0, .slice none 0 0, .slice none 0 0] (0, 0) _ rfl HR3.out Try.underlying42 rfl (by kernel_rfl)) rfl ?_
  have hU := ((((Upd.of_below HL.out (fun _ => False)).and (Upd.of_below HL2.out _)).and (Upd.drew w2 _ _)).trans HU3.out (fun k hk => Or.inr (by have h3 : k = gr := hk; have h4 := HG2.out; have h5 := HL.out.size; omega)))
  exact ⟨rfl, hU.os, hU.tape, hU.output, hU.kept.1, fun k hk => hU.kept.2 k hk (fun h => h)⟩
end Go.Proofs.Ytonedijkgddepaa.P
