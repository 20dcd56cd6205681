/- The law FrontEnds, by hand: it returns true. No conditions. -/
import Derived.Test.YtonedijkgddepaaRQ
namespace Go.Proofs.Ytonedijkgddepaa.P
open Go.RowKit Go.Maps Go.Proofs.YtonedijkgddepaaW.PrintWords Go.Proofs.YtonedijkgddepaaW.PrintLast Go.Proofs.YtonedijkgddepaaW.PrintMore
set_option linter.unusedVariables false
set_option linter.unusedSimpArgs false

theorem G50_len {y : S50} (h : G50 y) : y.f5.length ≤ 2000000000000 := by
 have h1 := h.2.2.2.2.2.1
 have h2 : Try.prog.bytesOf 106 = 88 := by kernel_rfl
 rw [h2] at h1
 omega
theorem call_ok50 {y : S50} (h : G50 y) : ∀ z ∈ (callOf y).entries, entOk z := by
 intro z hz
 have h1 := h.2.2.2.2.2.2.2 z (List.mem_of_mem_take hz)
 exact ⟨h1.1, h1.2.2.2.2.1⟩
theorem want_n {x : Ca} (hx : callOk x) {n k : Nat} (h0 : x.entries.length = 0) (hk : k = totOf x n) : k = n := by
 unfold totOf at hk
 rcases Bool.eq_false_or_eq_true (sweepsB x.kind) with h | h
 ·rw [if_pos h] at hk; exact hk
 ·have := (hx.2.2.1 h).1; omega
theorem want_e {x : Ca} (hx : callOk x) {n k : Nat} (h0 : ¬ x.entries.length = 0) (hk : k = totOf x n) : k = x.entries.length := by
 unfold totOf at hk
 rcases Bool.eq_false_or_eq_true (sweepsB x.kind) with h | h
 ·exact absurd (hx.2.1 h) h0
 ·rw [if_neg (by rw [h]; decide)] at hk; exact hk
theorem resultE (w0 w : World) (L : List Thing) (BC BA bl q : Nat) (a : As) (c : Cl) (v1 v2 v3 v4 : Value) (h : St w0 w (cliT BC BA bl q a c v1 v2 v3 v4 ++ L)) (hi : a.id ≠ 0) (k : Nat) (ho : c.out = outs k) (hl : c.out.length ≤ 10000) (hs : c.started = true) (b : Bool) (hb : c.works = b) :
  Calls Try.prog 17 #[.pointer (some ⟨BC, 0, none⟩)] w fun e' w' => ∃ A c', e' = .returned (.tuple #[.slice A (outs k).length c', .bool (!b)]) ∧ St w0 w' (Row kRep 42 (.slice A (outs k).length c') (outs k) :: cliT BC BA bl q a c v1 v2 v3 v4 ++ L) :=
 (cliResultT w0 w L BC BA bl q a c v1 v2 v3 v4 h hi hl).mono (fun e' w' hp => by
  obtain ⟨A, c', rfl, h1⟩ := hp
  rw [ho] at h1 ⊢
  exact ⟨A, c', by rw [hs, hb]; rfl, h1⟩)
theorem rep_at {w0 w : World} {L : List Thing} (h : St w0 w L) (n : Nat) {A : Option Addr} {m c : Nat} {xs : List S42} (hx : L[n]? = some (Row kRep 42 (.slice A m c) xs)) (j : Nat) (hj : j < xs.length) : ∃ ad, A = some ad ∧ ∃ r3 q3 r4 q4 r5 q5, ∀ t v, ([.int .i64 (xs.getD j z42).f0, .int .i64 (xs.getD j z42).f1, .int .i64 (xs.getD j z42).f2, .slice r3 (xs.getD j z42).f3.length q3, .slice r4 (xs.getD j z42).f4.length q4, .slice r5 (xs.getD j z42).f5.length q5] : List Value)[t]? = some v → w.cell? ((ad.add (j * 6)).add t) = some v := by
 obtain ⟨g, rfl⟩ := h.head n hx (by omega)
 obtain ⟨cs, hK, hc⟩ := h.elem n hx j hj z42
 obtain ⟨r3, q3, r4, q4, r5, q5, rfl⟩ := hK
 refine ⟨⟨g, 0, none⟩, rfl, r3, q3, r4, q4, r5, q5, fun t v hv => ?_⟩
 have h1 := hc t v hv
 have e : ((⟨g, 0, none⟩ : Addr).add (j * 6)).add t = ⟨g, j * 6 + t, none⟩ := by rw [Addr.add_lit, Addr.add_lit, Nat.zero_add]
 rw [e]
 exact h1
theorem wrong_at {w : World} {A : Option Addr} {xs : List Int} (h : Kd.C (Kd.int .i64) w A xs.length xs) (i : Nat) (hi : i < xs.length) : ∃ ad, A = some ad ∧ w.cell? (ad.add i) = some (.int .i64 (xs.getD i 0)) := by
 obtain ⟨ad, c, e, _, hK, hc⟩ := Kd.C_get h 0 (i : Int) (by omega) (by omega)
 rw [Int.toNat_natCast] at hK hc
 have e2 : c = [.int .i64 (xs.getD i 0)] := hK
 subst e2
 have h1 := hc 0 _ rfl
 have e3 : i * (Kd.int .i64).sz + 0 = i := Nat.mul_one i
 rw [e3] at h1
 exact ⟨ad, e, h1⟩
def StE (w w' : World) (x : Ca) (n wl BC BA bl G : Nat) (AP : Option Addr) (cP B4 : Nat) (AX : Option Addr) (nX i asked : Nat) : Prop := ∃ a c q v1 v2 v3 v4, EI x n wl i asked a c q ∧ St w w' (cliT BC BA bl q a c v1 v2 v3 v4 ++ [Blk G #[.int .i64 1, .slice AP (firstP n).length cP] 45, Row k108 108 (.slice AP (firstP n).length cP) (firstP n), Blk B4 (callA x (.slice AX x.entries.length nX)) 50, Old w])
theorem busyT (w0 w : World) (L : List Thing) (BC BA bl q : Nat) (a : As) (c : Cl) (v1 v2 v3 v4 : Value) (h : St w0 w (cliT BC BA bl q a c v1 v2 v3 v4 ++ L)) (hi : a.id ≠ 0) :
  Calls Try.prog 16 #[.pointer (some ⟨BC, 0, none⟩)] w fun e' w' => e' = .returned (.bool c.works) ∧ St w0 w' (cliT BC BA bl q a c v1 v2 v3 v4 ++ L) :=
 (cliBusy w 0 BC BA bl q a c v1 v2 v3 v4 (cli_in (L := L) h) hi).mono (fun e' w' hp => ⟨hp.1, h.same hp.2⟩)
theorem start0 (w0 w : World) (L : List Thing) (BC BA bl : Nat) (v1 v2 v3 v4 : Value) (h : St w0 w (cliT BC BA bl 0 (newAs 7 3 2) newCl v1 v2 v3 v4 ++ L)) (x : Ca) (A : Option Addr) (n : Nat) (hn : x.entries.length ≤ n) (hr : ∀ W, Mem W L → Kd.C k106 W A x.entries.length x.entries) (hl : x.entries.length ≤ 12) (z : Int) (hz : (startV newCl x).1 = z) :
  Calls Try.prog 12 #[.pointer (some ⟨BC, 0, none⟩), .agg (callA x (.slice A x.entries.length n))] w fun e' w' => ∃ v1 v3 v4, e' = .returned (.int .i64 z) ∧ St w0 w' (cliT BC BA bl 0 (newAs 7 3 2) (startV newCl x).2 v1 v2 v3 v4 ++ L) := by
 subst hz
 exact startC (new_inv conf7) w0 w L BC BA bl v1 v2 v3 v4 h x A n hn hr hl
structure XOk (x : Ca) : Prop where
 l12 : x.entries.length ≤ 12
 ents : ∀ y ∈ x.entries, entOk y
theorem mod6 (n : Int) : 0 ≤ (n.tmod 6 + 6).tmod 6 ∧ (n.tmod 6 + 6).tmod 6 < 6 ∧ wrap64 (n.tmod 6 + 6) = n.tmod 6 + 6 ∧ wrap64 (1 + (n.tmod 6 + 6).tmod 6) = 1 + (n.tmod 6 + 6).tmod 6 := by
 have h1 := Int.tmod_lt_of_pos n (show (0 : Int) < 6 by decide)
 have h2 := Int.lt_tmod_of_pos n (show (0 : Int) < 6 by decide)
 have h3 := Int.tmod_nonneg (a := n.tmod 6 + 6) 6 (by omega)
 have h4 := Int.tmod_lt_of_pos (n.tmod 6 + 6) (show (0 : Int) < 6 by decide)
 unfold wrap64
 omega
set_option maxHeartbeats 40000000 in
set_option maxRecDepth 100000 in
theorem frontEnds.calls (w : World) (shards : Int) (y : S50) (A47 : Option Addr) (c47 : Nat) (h5 : Kd.C k106 w A47 y.f5.length y.f5) (h5c : y.f5.length ≤ c47) (h5l : y.f5.length ≤ 2000000000000) (he : ∀ z ∈ (callOf y).entries, entOk z) (A2 : Option Addr) (c2 : Nat) (wrong : List Int) (hw : Kd.C (Kd.int .i64) w A2 wrong.length wrong) :
  Calls Try.prog 4 #[.int .i64 shards, .agg #[.int .i64 y.f0, .int .i64 y.f1, .int .i64 y.f2, .int .i64 y.f3, .string y.f4, .slice A47 y.f5.length c47], .slice A2 wrong.length c2] w fun e' w' => e' = .returned (.bool true) ∧ Below w.heap.size w w' := by
 have H := Aside0.mk (St.start w)
 have H5 := Aside0.mk (And.intro h5 (And.intro h5c h5l))
 have HE := Aside0.mk he
 have HW := Aside0.mk hw
 obtain ⟨k0, k6, kw1, kw2⟩ := mod6 y.f0
 obtain ⟨n0, n6, nw1, nw2⟩ := mod6 shards
 obtain ⟨K0, hK0⟩ : ∃ K0, 1 + (y.f0.tmod 6 + 6).tmod 6 = K0 := ⟨_, rfl⟩
 obtain ⟨n, hn⟩ : ∃ n : Nat, 1 + (shards.tmod 6 + 6).tmod 6 = (n : Int) := ⟨(1 + (shards.tmod 6 + 6).tmod 6).toNat, by omega⟩
 have HNN := Aside0.mk (show 1 ≤ n ∧ n ≤ 6 by omega)
 rw [hK0] at kw2
 rw [hn] at nw2
 clear k0 k6 n0 n6 h5 h5c h5l he hw
 refine calls_hide fun R HPOST => ?_
 go_enter Try.func4, Try.ntmps4
 go_upto_region 0 with (fail)
 go_upto_region 1 with (first | ((with_reducible refine wpl_ ?_); (refine gate_dst (N := 4) rfl ?_); (try simp only [kw1, kw2, nw1, nw2]); refine st_box ?hg (N := 4) ?hd #[(.int .i64 y.f0), (.int .i64 y.f1), (.int .i64 y.f2), (.int .i64 y.f3), (.string y.f4), (.slice A47 y.f5.length c47)] 50 ?hr H.out ?_; (case hd => rfl); (case hg => rfl); (case hr => first | (go_simp; done) | (go_simp; rfl)); intro g1 w2 hg_ h_ hb_; have S3 := Aside0.mk h_; have BS3 := Aside0.mk hb_; have GS3 := Aside0.mk hg_; clear h_ hb_ hg_))
 go_upto_region 2 with (first | (go_at_call 7; (try simp only [kw1, kw2, nw1, nw2]); (refine (newClientOk w _ _ S3.out 7 3 2 conf7).mono ?_); rintro e1 w5 ⟨BC, BA, bl, rfl, h_⟩; have S4 := Aside0.mk h_; clear h_))
 go_upto_region 3 with (first | ((with_reducible refine wpl_ ?_); (refine gate_ (.load 50 (.tmp 4)) rfl ?_); refine st_load rfl 50 _ rfl rfl S4.out 7 rfl [(.int .i64 y.f0), (.int .i64 y.f1), (.int .i64 y.f2), (.int .i64 y.f3), (.string y.f4), (.slice A47 y.f5.length c47)] rfl Try.underlying50 rfl (by kernel_rfl) ?_) | (go_at_call 13; (try simp only [kw1, kw2, nw1, nw2]); (refine (fewerC w _ _ S4.out y A47 c47 (nheap106.C (S4.out.mem.oldN 8 rfl) H5.out.1) H5.out.2.1 H5.out.2.2).mono ?_); rintro e1 w7 ⟨AF, nF, rfl, h_⟩; have S6 := Aside0.mk h_; clear h_) | ((with_reducible refine wpl_ ?_); (refine gate_ (.store 50 (.tmp 4) (.tmp 28)) rfl ?_); (try simp only [kw1, kw2, nw1, nw2]); refine st_store rfl rfl 50 _ _ rfl rfl rfl (seg := [(.int .i64 y.f0), (.int .i64 y.f1), (.int .i64 y.f2), (.int .i64 y.f3), (.string y.f4), (.slice AF (callOf y).entries.length nF)]) rfl (by kernel_rfl) (by rfl) S6.out 8 rfl (Nat.le_of_ble_eq_true rfl) ?_; intro w8 h_; have S9 : Aside0 (St w w8 (Row k106 106 (.slice AF (callOf y).entries.length nF) (callOf y).entries :: Blk BC (cliA BA newCl (.slice none 0 0) (.slice none 0 0) (.slice none 0 0) (.slice none 0 0)) 91 :: Blk BA (askA (newAs 7 3 2) bl) 97 :: MapT bl (0) ((newAs 7 3 2)).lead :: Row k106 106 (.slice none 0 0) (newCl).call.entries :: Row k108 108 (.slice none 0 0) (newCl).pieces :: Row (Kd.int .i64) 3 (.slice none 0 0) (newCl).sweep :: Row k42 42 (.slice none 0 0) (newCl).out :: Blk g1 (callA (callOf y) (.slice AF (callOf y).entries.length nF)) 50 :: [Old w])) := Aside0.mk h_; clear h_))
 have cf_10 : w8.cell? ⟨g1, 0, none⟩ = some (.int .i64 y.f0) := S9.out.cell 8 0 rfl rfl
 rcases Decidable.em (K0 = 2) with q13 | q13
 ·have t14 : (K0 == 2) = true := beq_iff_eq.2 q13
  have u15 : (K0 != 2) = false := by rw [bne, t14]; rfl
  have Xq13 := Aside0.mk q13
  clear q13
  go_upto_region 4 with (first | ((with_reducible refine wpl_ ?_); (refine gate_ (.store 3 (.tmp 35) (.tmp 34)) rfl ?_); (try simp only [kw1, kw2, nw1, nw2]); refine st_store rfl rfl 3 _ _ rfl rfl rfl (seg := [(.int .i64 K0)]) rfl (by kernel_rfl) (by rfl) S9.out 8 rfl (Nat.le_of_ble_eq_true rfl) ?_; intro w11 h_; clear cf_10; have S12 : Aside0 (St w w11 (Row k106 106 (.slice AF (callOf y).entries.length nF) (callOf y).entries :: Blk BC (cliA BA newCl (.slice none 0 0) (.slice none 0 0) (.slice none 0 0) (.slice none 0 0)) 91 :: Blk BA (askA (newAs 7 3 2) bl) 97 :: MapT bl (0) ((newAs 7 3 2)).lead :: Row k106 106 (.slice none 0 0) (newCl).call.entries :: Row k108 108 (.slice none 0 0) (newCl).pieces :: Row (Kd.int .i64) 3 (.slice none 0 0) (newCl).sweep :: Row k42 42 (.slice none 0 0) (newCl).out :: Blk g1 (callA { callOf y with kind := K0 } (.slice AF (callOf y).entries.length nF)) 50 :: [Old w])) := Aside0.mk h_; clear h_))
  have cf_16 : w11.cell? ⟨g1, 0, none⟩ = some (.int .i64 K0) := S12.out.cell 8 0 rfl rfl
  go_upto_if 43 with (fail)
  clear cf_16
  go_cut [6] (fun v6 w' => ∃ (x : Ca) (AX : Option Addr) (nX : Nat), v6 = .bool false ∧ XOk x ∧ Aside0 (St w w' (Blk g1 (callA x (.slice AX x.entries.length nX)) 50 :: Row k106 106 (.slice AX x.entries.length nX) x.entries :: Blk BC (cliA BA newCl (.slice none 0 0) (.slice none 0 0) (.slice none 0 0) (.slice none 0 0)) 91 :: Blk BA (askA (newAs 7 3 2) bl) 97 :: MapT bl (0) ((newAs 7 3 2)).lead :: Row k106 106 (.slice none 0 0) (newCl).call.entries :: Row k108 108 (.slice none 0 0) (newCl).pieces :: Row (Kd.int .i64) 3 (.slice none 0 0) (newCl).sweep :: Row k42 42 (.slice none 0 0) (newCl).out :: [Old w])))
  case first =>
   go_upto_region 5 with (fail)
   go_wp2_with (first | ((with_reducible refine wpl_ ?_); (refine gate_ (.store 48 (.tmp 44) (.const (.slice none 0 0))) rfl ?_); (try simp only [kw1, kw2, nw1, nw2]); refine st_store rfl rfl 48 _ _ rfl rfl rfl (seg := [(.slice none 0 0)]) rfl (by kernel_rfl) (by rfl) S12.out 8 rfl (Nat.le_of_ble_eq_true rfl) ?_; intro w17 h_; have S18 : Aside0 (St w w17 (Row k106 106 (.slice AF (callOf y).entries.length nF) (callOf y).entries :: Blk BC (cliA BA newCl (.slice none 0 0) (.slice none 0 0) (.slice none 0 0) (.slice none 0 0)) 91 :: Blk BA (askA (newAs 7 3 2) bl) 97 :: MapT bl (0) ((newAs 7 3 2)).lead :: Row k106 106 (.slice none 0 0) (newCl).call.entries :: Row k108 108 (.slice none 0 0) (newCl).pieces :: Row (Kd.int .i64) 3 (.slice none 0 0) (newCl).sweep :: Row k42 42 (.slice none 0 0) (newCl).out :: Blk g1 (callA { callOf y with kind := K0, entries := [] } (.slice none 0 0)) 50 :: [Old w])) := Aside0.mk h_; clear h_))
   have SN := Aside0.mk (S18.out.nilRow k106 106)
   go_meet
   exact ⟨{ callOf y with kind := K0, entries := [] }, none, 0, rfl, ⟨Nat.zero_le _, fun _ h => (by cases h)⟩, ⟨(((((((((((SN.out).erase 1).bring 7 rfl).bring 7 rfl).bring 7 rfl).bring 7 rfl).bring 7 rfl).bring 7 rfl).bring 7 rfl).bring 7 rfl).bring 8 rfl)⟩⟩
  case rest =>
   obtain ⟨x, AX, nX, rfl, hX, SC⟩ := hcut
   have HX := Aside0.mk hX
   clear hX
   go_upto_region 6 with (fail)
   go_upto_region 8 with (fail)
   rcases Classical.em (callOk x) with hcx | hcx
   ·have HCX := Aside0.mk hcx
    clear hcx
    go_upto_region 8 with (fail)
    go_upto_region 9 with (first | ((with_reducible refine wpl_ ?_); (refine gate_ (.load 50 (.tmp 4)) rfl ?_); refine st_load rfl 50 _ rfl rfl SC.out 0 rfl [(.int .i64 x.kind), (.int .i64 x.queue), (.int .i64 x.max), (.int .i64 x.secs), (.string x.attempt), (.slice AX x.entries.length nX)] rfl Try.underlying50 rfl (by kernel_rfl) ?_) | (go_at_call 12; (try simp only [kw1, kw2, nw1, nw2]); (refine (start0 w _ (Blk g1 (callA x (.slice AX x.entries.length nX)) 50 :: Row k106 106 (.slice AX x.entries.length nX) x.entries :: [Old w]) BC BA bl (.slice none 0 0) (.slice none 0 0) (.slice none 0 0) (.slice none 0 0) ((((((((((SC.out).bring 1 rfl).bring 1 rfl).bring 8 rfl).bring 8 rfl).bring 8 rfl).bring 8 rfl).bring 8 rfl).bring 8 rfl).bring 8 rfl) x AX nX (SC.out.reads 1 rfl).2 (fun W hW => (hW.reads 1 rfl).1) HX.out.l12 0 (by rw [start_ok HCX.out])).mono ?_); rintro e1 w20 ⟨u1, u3, u4, rfl, h_⟩; have S19 := Aside0.mk h_; clear h_))
    go_upto_region 11 with (fail)
    go_upto_region 12 with (fail)
    go_upto_region 13 with (first | (go_at_call 15; (try simp only [kw1, kw2, nw1, nw2]); (refine (firstT w _ _ S19.out (first_f HNN.out).choose (n : Int) 1 (firstP n) 0 (first_f HNN.out).choose_spec).mono ?_); rintro e1 w22 ⟨AP, cP, rfl, h_⟩; have S21 := Aside0.mk h_; clear h_) | ((with_reducible refine wpl_ ?_); (refine gate_dst (N := 11) rfl ?_); (try simp only [kw1, kw2, nw1, nw2]); refine st_box ?hg (N := 11) ?hd #[(.int .i64 0), (.slice none 0 0)] 45 ?hr S21.out ?_; (case hd => rfl); (case hg => rfl); (case hr => first | (go_simp; done) | (go_simp; rfl)); intro g23 w24 hg_ h_ hb_; have S25 := Aside0.mk h_; have BS25 := Aside0.mk hb_; have GS25 := Aside0.mk hg_; clear h_ hb_ hg_) | ((with_reducible refine wpl_ ?_); (refine gate_ (.store 45 (.tmp 11) (.tmp 69)) rfl ?_); (try simp only [kw1, kw2, nw1, nw2]); refine st_store rfl rfl 45 _ _ rfl rfl rfl (seg := [(.int .i64 1), (.slice AP (firstP n).length cP)]) rfl (by kernel_rfl) (by rfl) S25.out 0 rfl (Nat.le_of_ble_eq_true rfl) ?_; intro w26 h_; have S27 : Aside0 (St w w26 (Blk g23 #[(.int .i64 1), (.slice AP (firstP n).length cP)] 45 :: Row k108 108 (.slice AP (firstP n).length cP) (firstP n) :: Blk BC (cliA BA (startV newCl x).2 u1 (.slice none 0 0) u3 u4) 91 :: Blk BA (askA (newAs 7 3 2) bl) 97 :: MapT bl (0) ((newAs 7 3 2)).lead :: Row k106 106 u1 ((startV newCl x).2).call.entries :: Row k108 108 (.slice none 0 0) ((startV newCl x).2).pieces :: Row (Kd.int .i64) 3 u3 ((startV newCl x).2).sweep :: Row k42 42 u4 ((startV newCl x).2).out :: Blk g1 (callA x (.slice AX x.entries.length nX)) 50 :: Row k106 106 (.slice AX x.entries.length nX) x.entries :: [Old w])) := Aside0.mk h_; clear h_))
    go_upto_region 14 with (fail)
    go_wp2_with (fail)
    clear kw1 kw2 nw1 nw2
    go_loopg [13, 14] 100 (fun kq v13 v14 w' => ∃ (i asked : Nat), v14 = .int .i64 i ∧ v13 = .int .i64 asked ∧ i ≤ 100 ∧ 100 - i ≤ kq ∧ Aside0 (StE w w' x n wrong.length BC BA bl g23 AP cP g1 AX nX i asked))
    case atStart => exact ⟨0, 0, rfl, rfl, by omega, by omega, ⟨_, _, 0, _, _, _, _, start_EI HCX.out HX.out.ents n wrong.length, ((((((((((((S27.out).erase 10).bring 9 rfl).bring 2 rfl).bring 2 rfl).bring 9 rfl).bring 9 rfl).bring 9 rfl).bring 9 rfl).bring 9 rfl).bring 9 rfl).bring 9 rfl)⟩⟩
    case round =>
     obtain ⟨i, asked, rfl, rfl, hi, hg, HS⟩ := hrel
     obtain ⟨a, c, q, v1, v2, v3, v4, hE, h_⟩ := HS.out
     have HI := Aside0.mk hE
     have HQ := Aside0.mk (show q + 1 < 100000 ∧ q + 2 < 100000 ∧ i < 10000 ∧ i ≤ 100 by have := hE.q1; omega)
     have SI := Aside0.mk h_
     clear hE h_ HS
     rcases Bool.eq_false_or_eq_true c.works with q28 | q28
     ·have Xq28 := Aside0.mk q28
      rcases Decidable.em ((i : Int) < 100) with q29 | q29
      ·have t32 : decide (i < 100) = true := decide_eq_true (by omega)
       have t30 : decide ((i : Int) < 100) = true := decide_eq_true q29
       have Xq29 := Aside0.mk q29
       clear q29
       go_upto_region 15 with (fail)
       go_upto_region 17 with (first | (go_at_call 16; (refine (busyT w _ (Blk g23 #[(.int .i64 1), (.slice AP (firstP n).length cP)] 45 :: Row k108 108 (.slice AP (firstP n).length cP) (firstP n) :: Blk g1 (callA x (.slice AX x.entries.length nX)) 50 :: [Old w]) BC BA bl q a c v1 v2 v3 v4 (SI.out) (by have := HI.out.id7; omega)).mono ?_); rintro e1 w34 ⟨rfl, h_⟩; have S33 := Aside0.mk h_; clear h_))
       have HLT := Aside0.mk (show i < 100 by have := Xq29.out; omega)
       have HWK := Aside0.mk (show c.works = true from q28)
       rcases HI.out.ph with hA | ⟨hia, k, hb⟩
       ·have HIZ := Aside0.mk hA.1
        have HEA := Aside0.mk (show EI x n wrong.length 0 asked a c q by have h9 := HI.out; rw [HIZ.out] at h9; exact h9)
        clear hA
        have HL := Aside0.mk (tickA HEA.out).2.2
        go_upto_region 17 with (fail)
        go_wp2_with (first | (go_at_call 9; (refine (tick1 (q := q) HI.out.inv HQ.out.1 w _ (Blk g23 #[(.int .i64 1), (.slice AP (firstP n).length cP)] 45 :: Row k108 108 (.slice AP (firstP n).length cP) (firstP n) :: Blk g1 (callA x (.slice AX x.entries.length nX)) 50 :: [Old w]) BC BA bl v1 v2 v3 v4 (S33.out) 4 (-7) 0 0 z38 rfl HL.out).mono ?_); rintro e1 w36 ⟨u3, gk, nk, P10, p10, P11, p11, P30, p30, P34, p34, P35, p35, P36, p36, P38, p38, P39, p39, rk, rfl, h_⟩; have S35 := Aside0.mk h_; clear h_))
        refine wp_loop_round ?_
        refine round_unroll ?_
        go_upto_region 18 with (fail)
        go_upto_region 19 with (fail)
        go_upto_region 20 with (first | ((with_reducible refine wpl_ ?_); (refine gate_ (.load 47 (.tmp 84)) rfl ?_); refine st_load rfl 47 _ rfl rfl S35.out 0 rfl (pkL 4 (-7) 0 0 z38 P10 p10 P11 p11 P30 p30 P34 p34 P35 p35 P36 p36 P38 p38 P39 p39) rfl Try.underlying47 rfl (by kernel_rfl) ?_) | ((with_reducible refine wpl_ ?_); (refine gate_dst (N := 16) rfl ?_); refine st_box ?hg (N := 16) ?hd (pkA z47 (.slice none 0 0) (.slice none 0 0) (.slice none 0 0) none 0 none 0 none 0 (.slice none 0 0)) 47 ?hr S35.out ?_; (case hd => rfl); (case hg => rfl); (case hr => first | (go_simp; done) | (go_simp; rfl)); intro g37 w38 hg_ h_ hb_; have S39 := Aside0.mk h_; have BS39 := Aside0.mk hb_; have GS39 := Aside0.mk hg_; clear h_ hb_ hg_) | ((with_reducible refine wpl_ ?_); (refine gate_ (.store 47 (.tmp 16) (.tmp 85)) rfl ?_); refine st_store rfl rfl 47 _ _ rfl rfl rfl (seg := (pkL 4 (-7) 0 0 z38 P10 p10 P11 p11 P30 p30 P34 p34 P35 p35 P36 p36 P38 p38 P39 p39)) rfl (by kernel_rfl) (by rfl) S39.out 0 rfl (Nat.le_of_ble_eq_true rfl) ?_; intro w40 h_; have S41 : Aside0 (St w w40 (Blk g37 (pkL 4 (-7) 0 0 z38 P10 p10 P11 p11 P30 p30 P34 p34 P35 p35 P36 p36 P38 p38 P39 p39).toArray 47 :: Blk gk (pkL 4 (-7) 0 0 z38 P10 p10 P11 p11 P30 p30 P34 p34 P35 p35 P36 p36 P38 p38 P39 p39 ++ rk).toArray 47 :: Blk BC (cliA BA (tickN a c).2.1 v1 v2 u3 v4) 91 :: Blk BA (askA (tickN a c).1 bl) 97 :: MapT bl (q + 2) ((tickN a c).1).lead :: Row k106 106 v1 ((tickN a c).2.1).call.entries :: Row k108 108 v2 ((tickN a c).2.1).pieces :: Row (Kd.int .i64) 3 u3 ((tickN a c).2.1).sweep :: Row k42 42 v4 ((tickN a c).2.1).out :: Blk g23 #[(.int .i64 1), (.slice AP (firstP n).length cP)] 45 :: Row k108 108 (.slice AP (firstP n).length cP) (firstP n) :: Blk g1 (callA x (.slice AX x.entries.length nX)) 50 :: [Old w])) := Aside0.mk h_; clear h_))
        have cf_42 : w40.cell? ⟨g37, 2, none⟩ = some (.int .i64 0) := S41.out.cell 0 2 rfl rfl
        have cf_43 : w40.cell? ⟨g37, 1, none⟩ = some (.int .i64 (-7)) := S41.out.cell 0 1 rfl rfl
        go_upto_region 21 with (first | ((with_reducible refine wpl_ ?_); (refine gate_ (.load 45 (.tmp 11)) rfl ?_); refine st_load rfl 45 _ rfl rfl S41.out 9 rfl [(.int .i64 1), (.slice AP (firstP n).length cP)] rfl Try.underlying45 rfl (by kernel_rfl) ?_) | ((with_reducible refine wpl_ ?_); (refine gate_dst (N := 17) rfl ?_); refine st_box ?hg (N := 17) ?hd (pkA z47 (.slice none 0 0) (.slice none 0 0) (.slice none 0 0) none 0 none 0 none 0 (.slice none 0 0)) 47 ?hr S41.out ?_; (case hd => rfl); (case hg => rfl); (case hr => first | (go_simp; done) | (go_simp; rfl)); intro g44 w45 hg_ h_ hb_; clear cf_42 cf_43; have S46 := Aside0.mk h_; have BS46 := Aside0.mk hb_; have GS46 := Aside0.mk hg_; clear h_ hb_ hg_) | ((with_reducible refine wpl_ ?_); (refine gate_ (.store 47 (.tmp 17) (.tmp 91)) rfl ?_); refine st_store rfl rfl 47 _ _ rfl rfl rfl (seg := (pkA (chartPk n 0) (.slice none 0 0) (.slice none 0 0) (.slice none 0 0) none 0 none 0 AP cP (.slice none 0 0)).toList) rfl (by kernel_rfl) (by rfl) S46.out 0 rfl (Nat.le_of_ble_eq_true rfl) ?_; intro w47 h_; have S48 : Aside0 (St w w47 (Blk g44 (pkA (chartPk n 0) (.slice none 0 0) (.slice none 0 0) (.slice none 0 0) none 0 none 0 AP cP (.slice none 0 0)) 47 :: Blk g37 (pkL 4 (-7) 0 0 z38 P10 p10 P11 p11 P30 p30 P34 p34 P35 p35 P36 p36 P38 p38 P39 p39).toArray 47 :: Blk gk (pkL 4 (-7) 0 0 z38 P10 p10 P11 p11 P30 p30 P34 p34 P35 p35 P36 p36 P38 p38 P39 p39 ++ rk).toArray 47 :: Blk BC (cliA BA (tickN a c).2.1 v1 v2 u3 v4) 91 :: Blk BA (askA (tickN a c).1 bl) 97 :: MapT bl (q + 2) ((tickN a c).1).lead :: Row k106 106 v1 ((tickN a c).2.1).call.entries :: Row k108 108 v2 ((tickN a c).2.1).pieces :: Row (Kd.int .i64) 3 u3 ((tickN a c).2.1).sweep :: Row k42 42 v4 ((tickN a c).2.1).out :: Blk g23 #[(.int .i64 1), (.slice AP (firstP n).length cP)] 45 :: Row k108 108 (.slice AP (firstP n).length cP) (firstP n) :: Blk g1 (callA x (.slice AX x.entries.length nX)) 50 :: [Old w])) := Aside0.mk h_; clear h_))
        have cf_49 : w47.cell? ⟨g37, 0, none⟩ = some (.int .i64 4) := S48.out.cell 1 0 rfl rfl
        go_upto_region 26 with (fail)
        clear cf_49
        go_upto_region 27 with (first | ((with_reducible refine wpl_ ?_); (refine gate_ (.load 47 (.tmp 17)) rfl ?_); refine st_load rfl 47 _ rfl rfl S48.out 0 rfl (pkA (chartPk n 0) (.slice none 0 0) (.slice none 0 0) (.slice none 0 0) none 0 none 0 AP cP (.slice none 0 0)).toList rfl Try.underlying47 rfl (by kernel_rfl) ?_) | (go_at_call 11; (refine (recvC (q := q + 2) (tick_inv HI.out.inv HQ.out.2.1) (by have := HI.out.q1; have := HQ.out; omega) HQ.out.2.2.1 w _ (Blk g44 (pkA (chartPk n 0) (.slice none 0 0) (.slice none 0 0) (.slice none 0 0) none 0 none 0 AP cP (.slice none 0 0)) 47 :: Blk g37 (pkL 4 (-7) 0 0 z38 P10 p10 P11 p11 P30 p30 P34 p34 P35 p35 P36 p36 P38 p38 P39 p39).toArray 47 :: Blk gk (pkL 4 (-7) 0 0 z38 P10 p10 P11 p11 P30 p30 P34 p34 P35 p35 P36 p36 P38 p38 P39 p39 ++ rk).toArray 47 :: Blk g23 #[(.int .i64 1), (.slice AP (firstP n).length cP)] 45 :: Row k108 108 (.slice AP (firstP n).length cP) (firstP n) :: Blk g1 (callA x (.slice AX x.entries.length nX)) 50 :: [Old w]) BC BA bl v1 v2 u3 v4 ((((((((((((((S48.out).bring 12 rfl).bring 12 rfl).bring 12 rfl).bring 5 rfl).bring 5 rfl).bring 5 rfl).bring 12 rfl).bring 12 rfl).bring 12 rfl).bring 12 rfl).bring 12 rfl).bring 12 rfl).bring 12 rfl) (chartPk n 0) (.slice none 0 0) (.slice none 0 0) (.slice none 0 0) (.slice none 0 0) none none AP 0 0 cP (fun W hW => ⟨⟨C_zero _ _ _, Nat.zero_le _⟩, ⟨C_zero _ _ _, Nat.zero_le _⟩, (hW.reads 4 rfl).1, (hW.reads 4 rfl).2⟩) (Nat.zero_le _) (Nat.zero_le _) (by show (firstP n).length ≤ 20; rw [first_len]; have := HNN.out; omega) rfl).mono ?_); rintro e1 w51 ⟨u2, u4, rfl, h_⟩; have S50 := Aside0.mk h_; clear h_))
        go_wp2_with (fail)
        refine round_unroll ?_
        go_upto_region 18 with (fail)
        go_upto_region 16 with (fail)
        go_wp2_with (fail)
        go_roundg (100 - (i + 1))
        case measure => have := HLT.out; omega
        case rel => exact ⟨i + 1, asked, by go_num, rfl, by have := HLT.out; omega, by have := HLT.out; omega, ⟨_, _, _, _, _, _, _, (by have h9 := stepA HCX.out HNN.out HEA.out 0; have h8 := HIZ.out; rw [h8]; exact h9), ((((S50.out).erase 9).erase 8).erase 7)⟩⟩
       ·have HIA := Aside0.mk hia
        have HB := Aside0.mk hb
        clear hia hb
        obtain ⟨tg, g, xc, d1, d2, d3, d4, d5, d6, d7, d8, d9, d10⟩ := tickB HCX.out HNN.out HI.out HB.out HWK.out HQ.out.2.2.2
        have HL := Aside0.mk d2
        have HD := Aside0.mk d1
        have HPB := Aside0.mk (show replyPk tg g xc.f2 xc.f1 ⟨0, xc.f2, 0, [], [], []⟩ = replyPk tg (tickN a c).1.group ((k + 1 : Nat) : Int) 7 (rep (k + 1)) by rw [d3, d4, d8]; rfl)
        have HPC0 := Aside0.mk (fun (N : Int) => show replyPk tg g xc.f2 xc.f1 ⟨15, 0, N, [], [], []⟩ = replyPk tg (tickN a c).1.group ((k + 1 : Nat) : Int) 7 ⟨15, 0, N, [], [], []⟩ by rw [d3, d4, d8])
        clear d1 d2 d3 d4 d5 d6 d7 d8 d9 d10
        go_upto_region 17 with (fail)
        go_wp2_with (first | (go_at_call 9; (refine (tick1 (q := q) HI.out.inv HQ.out.1 w _ (Blk g23 #[(.int .i64 1), (.slice AP (firstP n).length cP)] 45 :: Row k108 108 (.slice AP (firstP n).length cP) (firstP n) :: Blk g1 (callA x (.slice AX x.entries.length nX)) 50 :: [Old w]) BC BA bl v1 v2 v3 v4 (S33.out) 2 (-7) tg g xc HD.out HL.out).mono ?_); rintro e1 w53 ⟨u3, gk, nk, P10, p10, P11, p11, P30, p30, P34, p34, P35, p35, P36, p36, P38, p38, P39, p39, rk, rfl, h_⟩; have S52 := Aside0.mk h_; clear h_))
        refine wp_loop_round ?_
        refine round_unroll ?_
        go_upto_region 18 with (fail)
        go_upto_region 19 with (fail)
        go_upto_region 20 with (first | ((with_reducible refine wpl_ ?_); (refine gate_ (.load 47 (.tmp 84)) rfl ?_); refine st_load rfl 47 _ rfl rfl S52.out 0 rfl (pkL 2 (-7) tg g xc P10 p10 P11 p11 P30 p30 P34 p34 P35 p35 P36 p36 P38 p38 P39 p39) rfl Try.underlying47 rfl (by kernel_rfl) ?_) | ((with_reducible refine wpl_ ?_); (refine gate_dst (N := 16) rfl ?_); refine st_box ?hg (N := 16) ?hd (pkA z47 (.slice none 0 0) (.slice none 0 0) (.slice none 0 0) none 0 none 0 none 0 (.slice none 0 0)) 47 ?hr S52.out ?_; (case hd => rfl); (case hg => rfl); (case hr => first | (go_simp; done) | (go_simp; rfl)); intro g54 w55 hg_ h_ hb_; have S56 := Aside0.mk h_; have BS56 := Aside0.mk hb_; have GS56 := Aside0.mk hg_; clear h_ hb_ hg_) | ((with_reducible refine wpl_ ?_); (refine gate_ (.store 47 (.tmp 16) (.tmp 85)) rfl ?_); refine st_store rfl rfl 47 _ _ rfl rfl rfl (seg := (pkL 2 (-7) tg g xc P10 p10 P11 p11 P30 p30 P34 p34 P35 p35 P36 p36 P38 p38 P39 p39)) rfl (by kernel_rfl) (by rfl) S56.out 0 rfl (Nat.le_of_ble_eq_true rfl) ?_; intro w57 h_; have S58 : Aside0 (St w w57 (Blk g54 (pkL 2 (-7) tg g xc P10 p10 P11 p11 P30 p30 P34 p34 P35 p35 P36 p36 P38 p38 P39 p39).toArray 47 :: Blk gk (pkL 2 (-7) tg g xc P10 p10 P11 p11 P30 p30 P34 p34 P35 p35 P36 p36 P38 p38 P39 p39 ++ rk).toArray 47 :: Blk BC (cliA BA (tickN a c).2.1 v1 v2 u3 v4) 91 :: Blk BA (askA (tickN a c).1 bl) 97 :: MapT bl (q + 2) ((tickN a c).1).lead :: Row k106 106 v1 ((tickN a c).2.1).call.entries :: Row k108 108 v2 ((tickN a c).2.1).pieces :: Row (Kd.int .i64) 3 u3 ((tickN a c).2.1).sweep :: Row k42 42 v4 ((tickN a c).2.1).out :: Blk g23 #[(.int .i64 1), (.slice AP (firstP n).length cP)] 45 :: Row k108 108 (.slice AP (firstP n).length cP) (firstP n) :: Blk g1 (callA x (.slice AX x.entries.length nX)) 50 :: [Old w])) := Aside0.mk h_; clear h_))
        have cf_59 : w57.cell? ⟨g54, 2, none⟩ = some (.int .i64 tg) := S58.out.cell 0 2 rfl rfl
        have cf_60 : w57.cell? ⟨g54, 1, none⟩ = some (.int .i64 (-7)) := S58.out.cell 0 1 rfl rfl
        go_upto_region 21 with (first | ((with_reducible refine wpl_ ?_); (refine gate_ (.load 45 (.tmp 11)) rfl ?_); refine st_load rfl 45 _ rfl rfl S58.out 9 rfl [(.int .i64 1), (.slice AP (firstP n).length cP)] rfl Try.underlying45 rfl (by kernel_rfl) ?_) | ((with_reducible refine wpl_ ?_); (refine gate_dst (N := 17) rfl ?_); refine st_box ?hg (N := 17) ?hd (pkA z47 (.slice none 0 0) (.slice none 0 0) (.slice none 0 0) none 0 none 0 none 0 (.slice none 0 0)) 47 ?hr S58.out ?_; (case hd => rfl); (case hg => rfl); (case hr => first | (go_simp; done) | (go_simp; rfl)); intro g61 w62 hg_ h_ hb_; clear cf_59 cf_60; have S63 := Aside0.mk h_; have BS63 := Aside0.mk hb_; have GS63 := Aside0.mk hg_; clear h_ hb_ hg_) | ((with_reducible refine wpl_ ?_); (refine gate_ (.store 47 (.tmp 17) (.tmp 91)) rfl ?_); refine st_store rfl rfl 47 _ _ rfl rfl rfl (seg := (pkA (chartPk n tg) (.slice none 0 0) (.slice none 0 0) (.slice none 0 0) none 0 none 0 AP cP (.slice none 0 0)).toList) rfl (by kernel_rfl) (by rfl) S63.out 0 rfl (Nat.le_of_ble_eq_true rfl) ?_; intro w64 h_; have S65 : Aside0 (St w w64 (Blk g61 (pkA (chartPk n tg) (.slice none 0 0) (.slice none 0 0) (.slice none 0 0) none 0 none 0 AP cP (.slice none 0 0)) 47 :: Blk g54 (pkL 2 (-7) tg g xc P10 p10 P11 p11 P30 p30 P34 p34 P35 p35 P36 p36 P38 p38 P39 p39).toArray 47 :: Blk gk (pkL 2 (-7) tg g xc P10 p10 P11 p11 P30 p30 P34 p34 P35 p35 P36 p36 P38 p38 P39 p39 ++ rk).toArray 47 :: Blk BC (cliA BA (tickN a c).2.1 v1 v2 u3 v4) 91 :: Blk BA (askA (tickN a c).1 bl) 97 :: MapT bl (q + 2) ((tickN a c).1).lead :: Row k106 106 v1 ((tickN a c).2.1).call.entries :: Row k108 108 v2 ((tickN a c).2.1).pieces :: Row (Kd.int .i64) 3 u3 ((tickN a c).2.1).sweep :: Row k42 42 v4 ((tickN a c).2.1).out :: Blk g23 #[(.int .i64 1), (.slice AP (firstP n).length cP)] 45 :: Row k108 108 (.slice AP (firstP n).length cP) (firstP n) :: Blk g1 (callA x (.slice AX x.entries.length nX)) 50 :: [Old w])) := Aside0.mk h_; clear h_))
        have cf_66 : w64.cell? ⟨g54, 0, none⟩ = some (.int .i64 2) := S65.out.cell 1 0 rfl rfl
        go_upto_region 22 with (fail)
        clear cf_66
        have cf_67 : w64.cell? ⟨g54, 2, none⟩ = some (.int .i64 tg) := S65.out.cell 1 2 rfl rfl
        have cf_68 : w64.cell? ⟨g54, 1, none⟩ = some (.int .i64 (-7)) := S65.out.cell 1 1 rfl rfl
        have cf_69 : w64.cell? ⟨g54, 3, none⟩ = some (.int .i64 g) := S65.out.cell 1 3 rfl rfl
        have cf_70 : w64.cell? ⟨g54, 13, none⟩ = some (.int .i64 xc.f1) := S65.out.cell 1 13 rfl rfl
        have cf_71 : w64.cell? ⟨g54, 14, none⟩ = some (.int .i64 xc.f2) := S65.out.cell 1 14 rfl rfl
        go_upto_region 23 with (first | ((with_reducible refine wpl_ ?_); (refine gate_ (.store 47 (.tmp 17) (.tmp 112)) rfl ?_); refine st_store rfl rfl 47 _ _ rfl rfl rfl (seg := (pkA (replyPk tg g xc.f2 xc.f1 ⟨0, xc.f2, 0, [], [], []⟩) (.slice none 0 0) (.slice none 0 0) (.slice none 0 0) none 0 none 0 none 0 (.slice none 0 0)).toList) rfl (by kernel_rfl) (by rfl) S65.out 0 rfl (Nat.le_of_ble_eq_true rfl) ?_; intro w72 h_; clear cf_67 cf_68 cf_69 cf_70 cf_71; have S73 : Aside0 (St w w72 (Blk g61 (pkA (replyPk tg g xc.f2 xc.f1 ⟨0, xc.f2, 0, [], [], []⟩) (.slice none 0 0) (.slice none 0 0) (.slice none 0 0) none 0 none 0 none 0 (.slice none 0 0)) 47 :: Blk g54 (pkL 2 (-7) tg g xc P10 p10 P11 p11 P30 p30 P34 p34 P35 p35 P36 p36 P38 p38 P39 p39).toArray 47 :: Blk gk (pkL 2 (-7) tg g xc P10 p10 P11 p11 P30 p30 P34 p34 P35 p35 P36 p36 P38 p38 P39 p39 ++ rk).toArray 47 :: Blk BC (cliA BA (tickN a c).2.1 v1 v2 u3 v4) 91 :: Blk BA (askA (tickN a c).1 bl) 97 :: MapT bl (q + 2) ((tickN a c).1).lead :: Row k106 106 v1 ((tickN a c).2.1).call.entries :: Row k108 108 v2 ((tickN a c).2.1).pieces :: Row (Kd.int .i64) 3 u3 ((tickN a c).2.1).sweep :: Row k42 42 v4 ((tickN a c).2.1).out :: Blk g23 #[(.int .i64 1), (.slice AP (firstP n).length cP)] 45 :: Row k108 108 (.slice AP (firstP n).length cP) (firstP n) :: Blk g1 (callA x (.slice AX x.entries.length nX)) 50 :: [Old w])) := Aside0.mk h_; clear h_))
        rcases Nat.lt_or_ge asked wrong.length with hlw | hlw
        ·have HLW := Aside0.mk hlw
         have ta_ : decide ((asked : Int) < (wrong.length : Int)) = true := decide_eq_true (by omega)
         have tb_ : decide (asked < wrong.length) = true := decide_eq_true (by omega)
         clear hlw
         obtain ⟨ad, e0, hc⟩ := wrong_at HW.out asked HLW.out
         have E0 := Aside0.mk e0
         generalize wrong.getD asked 0 = wv at hc
         have HWV := Aside0.mk hc
         have HPC := Aside0.mk (HPC0.out wv)
         clear e0 hc
         rcases Decidable.em (0 < wv) with q74 | q74
         ·have t75 : decide (0 < wv) = true := decide_eq_true q74
          have Xq74 := Aside0.mk q74
          clear q74
          go_upto_region 23 with (fail)
          have cf_77 : w72.cell? (ad.add asked) = some (.int .i64 wv) := pw_cell_below (S73.out.toBelow 13 rfl) HWV.out
          go_upto_region 24 with (first | ((with_reducible refine wpl_ ?_); (refine gate_dst (N := 120) rfl ?_); refine unguard (by rfl) ?_; refine index_at (ad := ad) (len := wrong.length) (cap := c2) (i := (asked : Int)) rfl 63 _ _ rfl (by rw [← E0.out]; rfl) rfl (by omega) (by have := HLW.out; omega) Try.underlying63 (sz := 1) (by kernel_rfl) ?_; rw [Int.toNat_natCast, Nat.mul_one]))
          clear cf_77
          have cf_78 : w72.cell? (ad.add asked) = some (.int .i64 wv) := pw_cell_below (S73.out.toBelow 13 rfl) HWV.out
          go_upto_region 25 with (first | ((with_reducible refine wpl_ ?_); (refine gate_dst (N := 126) rfl ?_); refine index_at (ad := ad) (len := wrong.length) (cap := c2) (i := (asked : Int)) rfl 63 _ _ rfl (by rw [← E0.out]; rfl) rfl (by omega) (by have := HLW.out; omega) Try.underlying63 (sz := 1) (by kernel_rfl) ?_; rw [Int.toNat_natCast, Nat.mul_one]) | ((with_reducible refine wpl_ ?_); (refine gate_ (.store 42 (.tmp 129) (.tmp 128)) rfl ?_); refine st_store rfl rfl 42 _ _ rfl rfl rfl (seg := [(.int .i64 15), (.int .i64 0), (.int .i64 wv), (.slice none 0 0), (.slice none 0 0), (.slice none 0 0)]) rfl (by kernel_rfl) (by rfl) S73.out 0 rfl (Nat.le_of_ble_eq_true rfl) ?_; intro w79 h_; clear cf_78; have S80 : Aside0 (St w w79 (Blk g61 (pkA (replyPk tg g xc.f2 xc.f1 ⟨15, 0, wv, [], [], []⟩) (.slice none 0 0) (.slice none 0 0) (.slice none 0 0) none 0 none 0 none 0 (.slice none 0 0)) 47 :: Blk g54 (pkL 2 (-7) tg g xc P10 p10 P11 p11 P30 p30 P34 p34 P35 p35 P36 p36 P38 p38 P39 p39).toArray 47 :: Blk gk (pkL 2 (-7) tg g xc P10 p10 P11 p11 P30 p30 P34 p34 P35 p35 P36 p36 P38 p38 P39 p39 ++ rk).toArray 47 :: Blk BC (cliA BA (tickN a c).2.1 v1 v2 u3 v4) 91 :: Blk BA (askA (tickN a c).1 bl) 97 :: MapT bl (q + 2) ((tickN a c).1).lead :: Row k106 106 v1 ((tickN a c).2.1).call.entries :: Row k108 108 v2 ((tickN a c).2.1).pieces :: Row (Kd.int .i64) 3 u3 ((tickN a c).2.1).sweep :: Row k42 42 v4 ((tickN a c).2.1).out :: Blk g23 #[(.int .i64 1), (.slice AP (firstP n).length cP)] 45 :: Row k108 108 (.slice AP (firstP n).length cP) (firstP n) :: Blk g1 (callA x (.slice AX x.entries.length nX)) 50 :: [Old w])) := Aside0.mk h_; clear h_))
          go_upto_region 26 with (fail)
          go_upto_region 27 with (first | ((with_reducible refine wpl_ ?_); (refine gate_ (.load 47 (.tmp 17)) rfl ?_); refine st_load rfl 47 _ rfl rfl S80.out 0 rfl (pkA (replyPk tg g xc.f2 xc.f1 ⟨15, 0, wv, [], [], []⟩) (.slice none 0 0) (.slice none 0 0) (.slice none 0 0) none 0 none 0 none 0 (.slice none 0 0)).toList rfl Try.underlying47 rfl (by kernel_rfl) ?_) | (go_at_call 11; (refine (recvC (q := q + 2) (tick_inv HI.out.inv HQ.out.2.1) (by have := HI.out.q1; have := HQ.out; omega) HQ.out.2.2.1 w _ (Blk g61 (pkA (replyPk tg g xc.f2 xc.f1 ⟨15, 0, wv, [], [], []⟩) (.slice none 0 0) (.slice none 0 0) (.slice none 0 0) none 0 none 0 none 0 (.slice none 0 0)) 47 :: Blk g54 (pkL 2 (-7) tg g xc P10 p10 P11 p11 P30 p30 P34 p34 P35 p35 P36 p36 P38 p38 P39 p39).toArray 47 :: Blk gk (pkL 2 (-7) tg g xc P10 p10 P11 p11 P30 p30 P34 p34 P35 p35 P36 p36 P38 p38 P39 p39 ++ rk).toArray 47 :: Blk g23 #[(.int .i64 1), (.slice AP (firstP n).length cP)] 45 :: Row k108 108 (.slice AP (firstP n).length cP) (firstP n) :: Blk g1 (callA x (.slice AX x.entries.length nX)) 50 :: [Old w]) BC BA bl v1 v2 u3 v4 ((((((((((((((S80.out).bring 12 rfl).bring 12 rfl).bring 12 rfl).bring 5 rfl).bring 5 rfl).bring 5 rfl).bring 12 rfl).bring 12 rfl).bring 12 rfl).bring 12 rfl).bring 12 rfl).bring 12 rfl).bring 12 rfl) (replyPk tg g xc.f2 xc.f1 ⟨15, 0, wv, [], [], []⟩) (.slice none 0 0) (.slice none 0 0) (.slice none 0 0) (.slice none 0 0) none none none 0 0 0 (fun W hW => ⟨⟨C_zero _ _ _, Nat.zero_le _⟩, ⟨C_zero _ _ _, Nat.zero_le _⟩, C_zero _ _ _, Nat.zero_le _⟩) (Nat.zero_le _) (Nat.zero_le _) (Nat.zero_le _) rfl).mono ?_); rintro e1 w82 ⟨u2, u4, rfl, h_⟩; have S81 := Aside0.mk h_; clear h_))
          go_wp2_with (fail)
          refine round_unroll ?_
          go_upto_region 18 with (fail)
          go_upto_region 16 with (fail)
          go_wp2_with (fail)
          go_roundg (100 - (i + 1))
          case measure => have := HLT.out; omega
          case rel => exact ⟨i + 1, asked + 1, by go_num, idx_up (i := asked) (n := 1000) (by have := HIA.out; have := HQ.out; omega) (by decide), by have := HLT.out; omega, by have := HLT.out; omega, ⟨_, _, _, _, _, _, _, (by rw [HPC.out]; exact stepC HCX.out HNN.out HI.out HIA.out HB.out HWK.out HQ.out.2.2.2 tg wv HLW.out), ((((S81.out).erase 9).erase 8).erase 7)⟩⟩
         ·have t75 : decide (0 < wv) = false := decide_eq_false q74
          have Xq74 := Aside0.mk q74
          clear q74
          go_upto_region 23 with (fail)
          have cf_83 : w72.cell? (ad.add asked) = some (.int .i64 wv) := pw_cell_below (S73.out.toBelow 13 rfl) HWV.out
          go_upto_region 25 with (first | ((with_reducible refine wpl_ ?_); (refine gate_dst (N := 120) rfl ?_); refine unguard (by rfl) ?_; refine index_at (ad := ad) (len := wrong.length) (cap := c2) (i := (asked : Int)) rfl 63 _ _ rfl (by rw [← E0.out]; rfl) rfl (by omega) (by have := HLW.out; omega) Try.underlying63 (sz := 1) (by kernel_rfl) ?_; rw [Int.toNat_natCast, Nat.mul_one]))
          clear cf_83
          go_upto_region 26 with (fail)
          go_upto_region 27 with (first | ((with_reducible refine wpl_ ?_); (refine gate_ (.load 47 (.tmp 17)) rfl ?_); refine st_load rfl 47 _ rfl rfl S73.out 0 rfl (pkA (replyPk tg g xc.f2 xc.f1 ⟨0, xc.f2, 0, [], [], []⟩) (.slice none 0 0) (.slice none 0 0) (.slice none 0 0) none 0 none 0 none 0 (.slice none 0 0)).toList rfl Try.underlying47 rfl (by kernel_rfl) ?_) | (go_at_call 11; (refine (recvC (q := q + 2) (tick_inv HI.out.inv HQ.out.2.1) (by have := HI.out.q1; have := HQ.out; omega) HQ.out.2.2.1 w _ (Blk g61 (pkA (replyPk tg g xc.f2 xc.f1 ⟨0, xc.f2, 0, [], [], []⟩) (.slice none 0 0) (.slice none 0 0) (.slice none 0 0) none 0 none 0 none 0 (.slice none 0 0)) 47 :: Blk g54 (pkL 2 (-7) tg g xc P10 p10 P11 p11 P30 p30 P34 p34 P35 p35 P36 p36 P38 p38 P39 p39).toArray 47 :: Blk gk (pkL 2 (-7) tg g xc P10 p10 P11 p11 P30 p30 P34 p34 P35 p35 P36 p36 P38 p38 P39 p39 ++ rk).toArray 47 :: Blk g23 #[(.int .i64 1), (.slice AP (firstP n).length cP)] 45 :: Row k108 108 (.slice AP (firstP n).length cP) (firstP n) :: Blk g1 (callA x (.slice AX x.entries.length nX)) 50 :: [Old w]) BC BA bl v1 v2 u3 v4 ((((((((((((((S73.out).bring 12 rfl).bring 12 rfl).bring 12 rfl).bring 5 rfl).bring 5 rfl).bring 5 rfl).bring 12 rfl).bring 12 rfl).bring 12 rfl).bring 12 rfl).bring 12 rfl).bring 12 rfl).bring 12 rfl) (replyPk tg g xc.f2 xc.f1 ⟨0, xc.f2, 0, [], [], []⟩) (.slice none 0 0) (.slice none 0 0) (.slice none 0 0) (.slice none 0 0) none none none 0 0 0 (fun W hW => ⟨⟨C_zero _ _ _, Nat.zero_le _⟩, ⟨C_zero _ _ _, Nat.zero_le _⟩, C_zero _ _ _, Nat.zero_le _⟩) (Nat.zero_le _) (Nat.zero_le _) (Nat.zero_le _) rfl).mono ?_); rintro e1 w85 ⟨u2, u4, rfl, h_⟩; have S84 := Aside0.mk h_; clear h_))
          go_wp2_with (fail)
          refine round_unroll ?_
          go_upto_region 18 with (fail)
          go_upto_region 16 with (fail)
          go_wp2_with (fail)
          go_roundg (100 - (i + 1))
          case measure => have := HLT.out; omega
          case rel => exact ⟨i + 1, asked + 1, by go_num, idx_up (i := asked) (n := 1000) (by have := HIA.out; have := HQ.out; omega) (by decide), by have := HLT.out; omega, by have := HLT.out; omega, ⟨_, _, _, _, _, _, _, (by rw [HPB.out]; exact stepB HCX.out HNN.out HI.out HIA.out HB.out HWK.out HQ.out.2.2.2 tg), ((((S84.out).erase 9).erase 8).erase 7)⟩⟩
        ·have HLW := Aside0.mk hlw
         have ta_ : decide ((asked : Int) < (wrong.length : Int)) = false := decide_eq_false (by omega)
         have tb_ : decide (asked < wrong.length) = false := decide_eq_false (by omega)
         clear hlw
         go_upto_region 23 with (fail)
         go_upto_region 25 with (fail)
         go_upto_region 26 with (fail)
         go_upto_region 27 with (first | ((with_reducible refine wpl_ ?_); (refine gate_ (.load 47 (.tmp 17)) rfl ?_); refine st_load rfl 47 _ rfl rfl S73.out 0 rfl (pkA (replyPk tg g xc.f2 xc.f1 ⟨0, xc.f2, 0, [], [], []⟩) (.slice none 0 0) (.slice none 0 0) (.slice none 0 0) none 0 none 0 none 0 (.slice none 0 0)).toList rfl Try.underlying47 rfl (by kernel_rfl) ?_) | (go_at_call 11; (refine (recvC (q := q + 2) (tick_inv HI.out.inv HQ.out.2.1) (by have := HI.out.q1; have := HQ.out; omega) HQ.out.2.2.1 w _ (Blk g61 (pkA (replyPk tg g xc.f2 xc.f1 ⟨0, xc.f2, 0, [], [], []⟩) (.slice none 0 0) (.slice none 0 0) (.slice none 0 0) none 0 none 0 none 0 (.slice none 0 0)) 47 :: Blk g54 (pkL 2 (-7) tg g xc P10 p10 P11 p11 P30 p30 P34 p34 P35 p35 P36 p36 P38 p38 P39 p39).toArray 47 :: Blk gk (pkL 2 (-7) tg g xc P10 p10 P11 p11 P30 p30 P34 p34 P35 p35 P36 p36 P38 p38 P39 p39 ++ rk).toArray 47 :: Blk g23 #[(.int .i64 1), (.slice AP (firstP n).length cP)] 45 :: Row k108 108 (.slice AP (firstP n).length cP) (firstP n) :: Blk g1 (callA x (.slice AX x.entries.length nX)) 50 :: [Old w]) BC BA bl v1 v2 u3 v4 ((((((((((((((S73.out).bring 12 rfl).bring 12 rfl).bring 12 rfl).bring 5 rfl).bring 5 rfl).bring 5 rfl).bring 12 rfl).bring 12 rfl).bring 12 rfl).bring 12 rfl).bring 12 rfl).bring 12 rfl).bring 12 rfl) (replyPk tg g xc.f2 xc.f1 ⟨0, xc.f2, 0, [], [], []⟩) (.slice none 0 0) (.slice none 0 0) (.slice none 0 0) (.slice none 0 0) none none none 0 0 0 (fun W hW => ⟨⟨C_zero _ _ _, Nat.zero_le _⟩, ⟨C_zero _ _ _, Nat.zero_le _⟩, C_zero _ _ _, Nat.zero_le _⟩) (Nat.zero_le _) (Nat.zero_le _) (Nat.zero_le _) rfl).mono ?_); rintro e1 w87 ⟨u2, u4, rfl, h_⟩; have S86 := Aside0.mk h_; clear h_))
         go_wp2_with (fail)
         refine round_unroll ?_
         go_upto_region 18 with (fail)
         go_upto_region 16 with (fail)
         go_wp2_with (fail)
         go_roundg (100 - (i + 1))
         case measure => have := HLT.out; omega
         case rel => exact ⟨i + 1, asked + 1, by go_num, idx_up (i := asked) (n := 1000) (by have := HIA.out; have := HQ.out; omega) (by decide), by have := HLT.out; omega, by have := HLT.out; omega, ⟨_, _, _, _, _, _, _, (by rw [HPB.out]; exact stepB HCX.out HNN.out HI.out HIA.out HB.out HWK.out HQ.out.2.2.2 tg), ((((S86.out).erase 9).erase 8).erase 7)⟩⟩
      ·have t32 : decide (i < 100) = false := decide_eq_false (by omega)
       have t30 : decide ((i : Int) < 100) = false := decide_eq_false q29
       have Xq29 := Aside0.mk q29
       clear q29
       go_upto_region 15 with (fail)
       go_wp2_with (first | (go_at_call 16; (refine (busyT w _ (Blk g23 #[(.int .i64 1), (.slice AP (firstP n).length cP)] 45 :: Row k108 108 (.slice AP (firstP n).length cP) (firstP n) :: Blk g1 (callA x (.slice AX x.entries.length nX)) 50 :: [Old w]) BC BA bl q a c v1 v2 v3 v4 (SI.out) (by have := HI.out.id7; omega)).mono ?_); rintro e1 w89 ⟨rfl, h_⟩; have S88 := Aside0.mk h_; clear h_))
       have HI100 := Aside0.mk (show i = 100 by have := Xq29.out; have := HQ.out; omega)
       rcases HI.out.ph with hA | ⟨hia, k, hb⟩
       ·exact absurd hA.1 (by have := HI100.out; omega)
       ·have HB := Aside0.mk hb
        have HIA := Aside0.mk hia
        clear hia hb
        have H20 := Aside0.mk (show 20 < wrong.length by have h1 := HB.out.asked1; have h2 := HB.out.on q28; have h3 := (tot_pos HCX.out HNN.out).2; have h4 := HI100.out; have h5 := HIA.out; omega)
        have tw_ : decide ((20 : Int) < (wrong.length : Int)) = true := decide_eq_true (by have := H20.out; omega)
        have tv_ : decide (20 < wrong.length) = true := decide_eq_true H20.out
        go_upto_region 28 with (fail)
        go_upto_region 29 with (first | (go_at_call 17; (refine (resultE w _ (Blk g23 #[(.int .i64 1), (.slice AP (firstP n).length cP)] 45 :: Row k108 108 (.slice AP (firstP n).length cP) (firstP n) :: Blk g1 (callA x (.slice AX x.entries.length nX)) 50 :: [Old w]) BC BA bl q a c v1 v2 v3 v4 (S88.out) (by have := HI.out.id7; omega) k HB.out.out (by have := HI.out.inv.out1; have := HQ.out; omega) HI.out.st true q28).mono ?_); rintro e1 w91 ⟨AR, cR, rfl, h_⟩; have S90 := Aside0.mk h_; clear h_))
        have cf_92 : w91.cell? ⟨g1, 5, none⟩ = some (.slice AX x.entries.length nX) := S90.out.cell 10 5 rfl rfl
        rcases Decidable.em ((x.entries.length : Int) = 0) with q93 | q93
        ·have t96 : decide (x.entries.length = 0) = true := decide_eq_true (by omega)
         have t96b : (x.entries.length == 0) = true := beq_iff_eq.2 (by omega)
         have t94 : ((x.entries.length : Int) == 0) = true := beq_iff_eq.2 q93
         have u95 : ((x.entries.length : Int) != 0) = false := by rw [bne, t94]; rfl
         have Xq93 := Aside0.mk q93
         clear q93
         go_upto_region 30 with (fail)
         clear cf_92
         go_upto_region 31 with (fail)
         go_upto_region 32 with (fail)
         go_upto_region 33 with (first | (go_at_call 16; (refine (busyT w _ (Row kRep 42 (.slice AR (outs k).length cR) (outs k) :: Blk g23 #[(.int .i64 1), (.slice AP (firstP n).length cP)] 45 :: Row k108 108 (.slice AP (firstP n).length cP) (firstP n) :: Blk g1 (callA x (.slice AX x.entries.length nX)) 50 :: [Old w]) BC BA bl q a c v1 v2 v3 v4 ((((((((((((S90.out).bring 10 rfl).bring 10 rfl).bring 10 rfl).bring 3 rfl).bring 10 rfl).bring 10 rfl).bring 10 rfl).bring 10 rfl).bring 10 rfl).bring 10 rfl).bring 10 rfl) (by have := HI.out.id7; omega)).mono ?_); rintro e1 w98 ⟨rfl, h_⟩; have S97 := Aside0.mk h_; clear h_))
         go_wp2_with (first | (go_at_call 14; (with_reducible refine (worksT w _ _ S97.out).mono ?_); rintro e1 w100 ⟨rfl, h_⟩; have S99 := Aside0.mk h_; clear h_))
         try go_ret
         refine HPOST.out _ _ ?_
         exact ⟨rfl, S99.out.toBelow 11 rfl⟩
        ·have t96 : decide (x.entries.length = 0) = false := decide_eq_false (by omega)
         have t96b : (x.entries.length == 0) = false := beq_eq_false_iff_ne.2 (by omega)
         have t94 : ((x.entries.length : Int) == 0) = false := beq_eq_false_iff_ne.2 q93
         have u95 : ((x.entries.length : Int) != 0) = true := by rw [bne, t94]; rfl
         have Xq93 := Aside0.mk q93
         clear q93
         go_upto_region 30 with (fail)
         clear cf_92
         go_upto_region 32 with (fail)
         go_upto_region 33 with (first | (go_at_call 16; (refine (busyT w _ (Row kRep 42 (.slice AR (outs k).length cR) (outs k) :: Blk g23 #[(.int .i64 1), (.slice AP (firstP n).length cP)] 45 :: Row k108 108 (.slice AP (firstP n).length cP) (firstP n) :: Blk g1 (callA x (.slice AX x.entries.length nX)) 50 :: [Old w]) BC BA bl q a c v1 v2 v3 v4 ((((((((((((S90.out).bring 10 rfl).bring 10 rfl).bring 10 rfl).bring 3 rfl).bring 10 rfl).bring 10 rfl).bring 10 rfl).bring 10 rfl).bring 10 rfl).bring 10 rfl).bring 10 rfl) (by have := HI.out.id7; omega)).mono ?_); rintro e1 w102 ⟨rfl, h_⟩; have S101 := Aside0.mk h_; clear h_))
         go_wp2_with (first | (go_at_call 14; (with_reducible refine (worksT w _ _ S101.out).mono ?_); rintro e1 w104 ⟨rfl, h_⟩; have S103 := Aside0.mk h_; clear h_))
         try go_ret
         refine HPOST.out _ _ ?_
         exact ⟨rfl, S103.out.toBelow 11 rfl⟩
     ·have Xq28 := Aside0.mk q28
      go_upto_region 15 with (fail)
      go_wp2_with (first | (go_at_call 16; (refine (busyT w _ (Blk g23 #[(.int .i64 1), (.slice AP (firstP n).length cP)] 45 :: Row k108 108 (.slice AP (firstP n).length cP) (firstP n) :: Blk g1 (callA x (.slice AX x.entries.length nX)) 50 :: [Old w]) BC BA bl q a c v1 v2 v3 v4 (SI.out) (by have := HI.out.id7; omega)).mono ?_); rintro e1 w106 ⟨rfl, h_⟩; have S105 := Aside0.mk h_; clear h_))
      rcases HI.out.ph with hA | ⟨hia, k, hb⟩
      ·exact absurd hA.2.2.1 (by rw [q28]; decide)
      ·have HB := Aside0.mk hb
       have HIA := Aside0.mk hia
       clear hia hb
       have HK := Aside0.mk (HB.out.off q28)
       go_upto_region 28 with (fail)
       go_upto_region 29 with (first | (go_at_call 17; (refine (resultE w _ (Blk g23 #[(.int .i64 1), (.slice AP (firstP n).length cP)] 45 :: Row k108 108 (.slice AP (firstP n).length cP) (firstP n) :: Blk g1 (callA x (.slice AX x.entries.length nX)) 50 :: [Old w]) BC BA bl q a c v1 v2 v3 v4 (S105.out) (by have := HI.out.id7; omega) k HB.out.out (by have := HI.out.inv.out1; have := HQ.out; omega) HI.out.st false q28).mono ?_); rintro e1 w108 ⟨AR, cR, rfl, h_⟩; have S107 := Aside0.mk h_; clear h_))
       have cf_109 : w108.cell? ⟨g1, 5, none⟩ = some (.slice AX x.entries.length nX) := S107.out.cell 10 5 rfl rfl
       rcases Decidable.em ((x.entries.length : Int) = 0) with q110 | q110
       ·have t113 : decide (x.entries.length = 0) = true := decide_eq_true (by omega)
        have t113b : (x.entries.length == 0) = true := beq_iff_eq.2 (by omega)
        have t111 : ((x.entries.length : Int) == 0) = true := beq_iff_eq.2 q110
        have u112 : ((x.entries.length : Int) != 0) = false := by rw [bne, t111]; rfl
        have Xq110 := Aside0.mk q110
        clear q110
        go_upto_region 30 with (fail)
        clear cf_109
        go_upto_region 31 with (fail)
        go_upto_region 32 with (fail)
        go_upto_region 34 with (first | (go_at_call 16; (refine (busyT w _ (Row kRep 42 (.slice AR (outs k).length cR) (outs k) :: Blk g23 #[(.int .i64 1), (.slice AP (firstP n).length cP)] 45 :: Row k108 108 (.slice AP (firstP n).length cP) (firstP n) :: Blk g1 (callA x (.slice AX x.entries.length nX)) 50 :: [Old w]) BC BA bl q a c v1 v2 v3 v4 ((((((((((((S107.out).bring 10 rfl).bring 10 rfl).bring 10 rfl).bring 3 rfl).bring 10 rfl).bring 10 rfl).bring 10 rfl).bring 10 rfl).bring 10 rfl).bring 10 rfl).bring 10 rfl) (by have := HI.out.id7; omega)).mono ?_); rintro e1 w115 ⟨rfl, h_⟩; have S114 := Aside0.mk h_; clear h_))
        go_wp2_with (fail)
        go_loopg [157] (outs k).length (fun kq v157 w' => ∃ j : Nat, v157 = .int .i64 j ∧ j ≤ (outs k).length ∧ (outs k).length - j ≤ kq ∧ Aside0 (St w w' [Row kRep 42 (.slice AR (outs k).length cR) (outs k), Old w]))
        case atStart => exact ⟨0, rfl, Nat.zero_le _, Nat.le_refl _, ⟨(((((((((((S114.out).erase 10).erase 9).erase 8).erase 6).erase 5).erase 4).erase 3).erase 2).erase 1).erase 0)⟩⟩
        case round =>
         obtain ⟨j, rfl, hj, hg2, SR⟩ := hrel
         rcases Decidable.em ((j : Int) < ((outs k).length : Int)) with q116 | q116
         ·have t119 : decide (j < (outs k).length) = true := decide_eq_true (by omega)
          have t117 : decide ((j : Int) < ((outs k).length : Int)) = true := decide_eq_true q116
          have Xq116 := Aside0.mk q116
          clear q116
          go_upto_region 35 with (fail)
          go_upto_region 36 with (fail)
          have HLJ := Aside0.mk (show j < (outs k).length by have := Xq116.out; omega)
          obtain ⟨gR, eR, r3, q3, r4, q4, r5, q5, hyR⟩ := rep_at SR.out 0 rfl j HLJ.out
          have ERR := Aside0.mk eR
          clear eR
          have HRY := Aside0.mk hyR
          clear hyR
          have HFR := Aside0.mk (outs_get (k := k) (j := j) (by rw [← outs_len k]; exact HLJ.out))
          generalize (outs k).getD j z42 = rr at HRY HFR
          have HWJ := Aside0.mk (show wrap64 ((j : Int) + 1) = (j : Int) + 1 by have h1 := HLJ.out; rw [outs_len] at h1; have := HB.out.step; have := HI.out.inv.step1; have := HQ.out; unfold wrap64; omega)
          have tr_ : (rr.f1 == (j : Int) + 1) = true := beq_iff_eq.2 (by have := HFR.out; omega)
          have tr2_ : (rr.f1 != (j : Int) + 1) = false := by rw [bne, tr_]; rfl
          go_upto_region 37 with (first | ((with_reducible refine wpl_ ?_); (refine gate_dst (N := 160) rfl ?_); refine index_at (ad := gR) (len := (outs k).length) (cap := cR) (i := (j : Int)) rfl 66 _ _ rfl (by rw [← ERR.out]; rfl) rfl (by omega) (by have := HLJ.out; omega) Try.underlying66 (sz := 6) (by kernel_rfl) ?_; rw [Int.toNat_natCast]) | ((with_reducible refine wpl_ ?_); (refine gate_ (.load 42 (.tmp 160)) rfl ?_); refine load_at rfl 42 _ rfl _ rfl [(.int .i64 rr.f0), (.int .i64 rr.f1), (.int .i64 rr.f2), (.slice r3 rr.f3.length q3), (.slice r4 rr.f4.length q4), (.slice r5 rr.f5.length q5)] HRY.out Try.underlying42 rfl (by kernel_rfl) ?_) | ((with_reducible refine wpl_ ?_); (refine gate_dst (N := 22) rfl ?_); refine st_box ?hg (N := 22) ?hd #[(.int .i64 0), (.int .i64 0), (.int .i64 0), (.slice none 0 0), (.slice none 0 0), (.slice none 0 0)] 42 ?hr SR.out ?_; (case hd => rfl); (case hg => rfl); (case hr => first | (go_simp; done) | (go_simp; rfl)); intro g120 w121 hg_ h_ hb_; have S122 := Aside0.mk h_; have BS122 := Aside0.mk hb_; have GS122 := Aside0.mk hg_; clear h_ hb_ hg_) | ((with_reducible refine wpl_ ?_); (refine gate_ (.store 42 (.tmp 22) (.tmp 161)) rfl ?_); refine st_store rfl rfl 42 _ _ rfl rfl rfl (seg := [(.int .i64 rr.f0), (.int .i64 rr.f1), (.int .i64 rr.f2), (.slice r3 rr.f3.length q3), (.slice r4 rr.f4.length q4), (.slice r5 rr.f5.length q5)]) rfl (by kernel_rfl) (by rfl) S122.out 0 rfl (Nat.le_of_ble_eq_true rfl) ?_; intro w123 h_; have S124 : Aside0 (St w w123 (Blk g120 #[(.int .i64 rr.f0), (.int .i64 rr.f1), (.int .i64 rr.f2), (.slice r3 rr.f3.length q3), (.slice r4 rr.f4.length q4), (.slice r5 rr.f5.length q5)] 42 :: Row kRep 42 (.slice AR (outs k).length cR) (outs k) :: [Old w])) := Aside0.mk h_; clear h_))
          have hwj_ := HWJ.out
          have cf_125 : w123.cell? ⟨g120, 1, none⟩ = some (.int .i64 rr.f1) := S124.out.cell 0 1 rfl rfl
          go_upto_region 39 with (fail)
          clear cf_125
          go_wp2_with (fail)
          clear hwj_
          go_roundg ((outs k).length - (j + 1))
          case measure => have := HLJ.out; omega
          case rel => exact ⟨j + 1, idx_up HLJ.out (by rw [outs_len]; have := HB.out.step; have := HI.out.inv.step1; have := HQ.out; omega), by have := HLJ.out; omega, by have := HLJ.out; omega, ⟨((S124.out).erase 0)⟩⟩
         ·have t119 : decide (j < (outs k).length) = false := decide_eq_false (by omega)
          have t117 : decide ((j : Int) < ((outs k).length : Int)) = false := decide_eq_false q116
          have Xq116 := Aside0.mk q116
          clear q116
          go_upto_region 35 with (fail)
          go_upto_region 40 with (fail)
          have HWT := Aside0.mk (want_n HCX.out (by have := Xq110.out; omega) HK.out)
          have tk_ : (((outs k).length : Int) == (n : Int)) = true := beq_iff_eq.2 (by rw [outs_len]; have := HWT.out; omega)
          skip
          go_upto_region 40 with (fail)
          go_wp2_with (first | (go_at_call 14; (with_reducible refine (worksT w _ _ SR.out).mono ?_); rintro e1 w127 ⟨rfl, h_⟩; have S126 := Aside0.mk h_; clear h_))
          try go_ret
          refine HPOST.out _ _ ?_
          exact ⟨rfl, S126.out.toBelow 1 rfl⟩
       ·have t113 : decide (x.entries.length = 0) = false := decide_eq_false (by omega)
        have t113b : (x.entries.length == 0) = false := beq_eq_false_iff_ne.2 (by omega)
        have t111 : ((x.entries.length : Int) == 0) = false := beq_eq_false_iff_ne.2 q110
        have u112 : ((x.entries.length : Int) != 0) = true := by rw [bne, t111]; rfl
        have Xq110 := Aside0.mk q110
        clear q110
        go_upto_region 30 with (fail)
        clear cf_109
        go_upto_region 32 with (fail)
        go_upto_region 34 with (first | (go_at_call 16; (refine (busyT w _ (Row kRep 42 (.slice AR (outs k).length cR) (outs k) :: Blk g23 #[(.int .i64 1), (.slice AP (firstP n).length cP)] 45 :: Row k108 108 (.slice AP (firstP n).length cP) (firstP n) :: Blk g1 (callA x (.slice AX x.entries.length nX)) 50 :: [Old w]) BC BA bl q a c v1 v2 v3 v4 ((((((((((((S107.out).bring 10 rfl).bring 10 rfl).bring 10 rfl).bring 3 rfl).bring 10 rfl).bring 10 rfl).bring 10 rfl).bring 10 rfl).bring 10 rfl).bring 10 rfl).bring 10 rfl) (by have := HI.out.id7; omega)).mono ?_); rintro e1 w129 ⟨rfl, h_⟩; have S128 := Aside0.mk h_; clear h_))
        go_wp2_with (fail)
        go_loopg [157] (outs k).length (fun kq v157 w' => ∃ j : Nat, v157 = .int .i64 j ∧ j ≤ (outs k).length ∧ (outs k).length - j ≤ kq ∧ Aside0 (St w w' [Row kRep 42 (.slice AR (outs k).length cR) (outs k), Old w]))
        case atStart => exact ⟨0, rfl, Nat.zero_le _, Nat.le_refl _, ⟨(((((((((((S128.out).erase 10).erase 9).erase 8).erase 6).erase 5).erase 4).erase 3).erase 2).erase 1).erase 0)⟩⟩
        case round =>
         obtain ⟨j, rfl, hj, hg2, SR⟩ := hrel
         rcases Decidable.em ((j : Int) < ((outs k).length : Int)) with q130 | q130
         ·have t133 : decide (j < (outs k).length) = true := decide_eq_true (by omega)
          have t131 : decide ((j : Int) < ((outs k).length : Int)) = true := decide_eq_true q130
          have Xq130 := Aside0.mk q130
          clear q130
          go_upto_region 35 with (fail)
          go_upto_region 36 with (fail)
          have HLJ := Aside0.mk (show j < (outs k).length by have := Xq130.out; omega)
          obtain ⟨gR, eR, r3, q3, r4, q4, r5, q5, hyR⟩ := rep_at SR.out 0 rfl j HLJ.out
          have ERR := Aside0.mk eR
          clear eR
          have HRY := Aside0.mk hyR
          clear hyR
          have HFR := Aside0.mk (outs_get (k := k) (j := j) (by rw [← outs_len k]; exact HLJ.out))
          generalize (outs k).getD j z42 = rr at HRY HFR
          have HWJ := Aside0.mk (show wrap64 ((j : Int) + 1) = (j : Int) + 1 by have h1 := HLJ.out; rw [outs_len] at h1; have := HB.out.step; have := HI.out.inv.step1; have := HQ.out; unfold wrap64; omega)
          have tr_ : (rr.f1 == (j : Int) + 1) = true := beq_iff_eq.2 (by have := HFR.out; omega)
          have tr2_ : (rr.f1 != (j : Int) + 1) = false := by rw [bne, tr_]; rfl
          go_upto_region 37 with (first | ((with_reducible refine wpl_ ?_); (refine gate_dst (N := 160) rfl ?_); refine index_at (ad := gR) (len := (outs k).length) (cap := cR) (i := (j : Int)) rfl 66 _ _ rfl (by rw [← ERR.out]; rfl) rfl (by omega) (by have := HLJ.out; omega) Try.underlying66 (sz := 6) (by kernel_rfl) ?_; rw [Int.toNat_natCast]) | ((with_reducible refine wpl_ ?_); (refine gate_ (.load 42 (.tmp 160)) rfl ?_); refine load_at rfl 42 _ rfl _ rfl [(.int .i64 rr.f0), (.int .i64 rr.f1), (.int .i64 rr.f2), (.slice r3 rr.f3.length q3), (.slice r4 rr.f4.length q4), (.slice r5 rr.f5.length q5)] HRY.out Try.underlying42 rfl (by kernel_rfl) ?_) | ((with_reducible refine wpl_ ?_); (refine gate_dst (N := 22) rfl ?_); refine st_box ?hg (N := 22) ?hd #[(.int .i64 0), (.int .i64 0), (.int .i64 0), (.slice none 0 0), (.slice none 0 0), (.slice none 0 0)] 42 ?hr SR.out ?_; (case hd => rfl); (case hg => rfl); (case hr => first | (go_simp; done) | (go_simp; rfl)); intro g134 w135 hg_ h_ hb_; have S136 := Aside0.mk h_; have BS136 := Aside0.mk hb_; have GS136 := Aside0.mk hg_; clear h_ hb_ hg_) | ((with_reducible refine wpl_ ?_); (refine gate_ (.store 42 (.tmp 22) (.tmp 161)) rfl ?_); refine st_store rfl rfl 42 _ _ rfl rfl rfl (seg := [(.int .i64 rr.f0), (.int .i64 rr.f1), (.int .i64 rr.f2), (.slice r3 rr.f3.length q3), (.slice r4 rr.f4.length q4), (.slice r5 rr.f5.length q5)]) rfl (by kernel_rfl) (by rfl) S136.out 0 rfl (Nat.le_of_ble_eq_true rfl) ?_; intro w137 h_; have S138 : Aside0 (St w w137 (Blk g134 #[(.int .i64 rr.f0), (.int .i64 rr.f1), (.int .i64 rr.f2), (.slice r3 rr.f3.length q3), (.slice r4 rr.f4.length q4), (.slice r5 rr.f5.length q5)] 42 :: Row kRep 42 (.slice AR (outs k).length cR) (outs k) :: [Old w])) := Aside0.mk h_; clear h_))
          have hwj_ := HWJ.out
          have cf_139 : w137.cell? ⟨g134, 1, none⟩ = some (.int .i64 rr.f1) := S138.out.cell 0 1 rfl rfl
          go_upto_region 39 with (fail)
          clear cf_139
          go_wp2_with (fail)
          clear hwj_
          go_roundg ((outs k).length - (j + 1))
          case measure => have := HLJ.out; omega
          case rel => exact ⟨j + 1, idx_up HLJ.out (by rw [outs_len]; have := HB.out.step; have := HI.out.inv.step1; have := HQ.out; omega), by have := HLJ.out; omega, by have := HLJ.out; omega, ⟨((S138.out).erase 0)⟩⟩
         ·have t133 : decide (j < (outs k).length) = false := decide_eq_false (by omega)
          have t131 : decide ((j : Int) < ((outs k).length : Int)) = false := decide_eq_false q130
          have Xq130 := Aside0.mk q130
          clear q130
          go_upto_region 35 with (fail)
          go_upto_region 40 with (fail)
          have HWT := Aside0.mk (want_e HCX.out (by have := Xq110.out; omega) HK.out)
          have tk_ : (((outs k).length : Int) == (x.entries.length : Int)) = true := beq_iff_eq.2 (by rw [outs_len]; have := HWT.out; omega)
          skip
          go_upto_region 40 with (fail)
          go_wp2_with (first | (go_at_call 14; (with_reducible refine (worksT w _ _ SR.out).mono ?_); rintro e1 w141 ⟨rfl, h_⟩; have S140 := Aside0.mk h_; clear h_))
          try go_ret
          refine HPOST.out _ _ ?_
          exact ⟨rfl, S140.out.toBelow 1 rfl⟩
   ·have HCX := Aside0.mk hcx
    clear hcx
    go_upto_region 8 with (fail)
    go_upto_region 9 with (first | ((with_reducible refine wpl_ ?_); (refine gate_ (.load 50 (.tmp 4)) rfl ?_); refine st_load rfl 50 _ rfl rfl SC.out 0 rfl [(.int .i64 x.kind), (.int .i64 x.queue), (.int .i64 x.max), (.int .i64 x.secs), (.string x.attempt), (.slice AX x.entries.length nX)] rfl Try.underlying50 rfl (by kernel_rfl) ?_) | (go_at_call 12; (try simp only [kw1, kw2, nw1, nw2]); (refine (start0 w _ (Blk g1 (callA x (.slice AX x.entries.length nX)) 50 :: Row k106 106 (.slice AX x.entries.length nX) x.entries :: [Old w]) BC BA bl (.slice none 0 0) (.slice none 0 0) (.slice none 0 0) (.slice none 0 0) ((((((((((SC.out).bring 1 rfl).bring 1 rfl).bring 8 rfl).bring 8 rfl).bring 8 rfl).bring 8 rfl).bring 8 rfl).bring 8 rfl).bring 8 rfl) x AX nX (SC.out.reads 1 rfl).2 (fun W hW => (hW.reads 1 rfl).1) HX.out.l12 2 (by rw [start_no HCX.out])).mono ?_); rintro e1 w143 ⟨u1, u3, u4, rfl, h_⟩; have S142 := Aside0.mk h_; clear h_))
    go_upto_region 10 with (fail)
    go_wp2_with (first | (go_at_call 14; (try simp only [kw1, kw2, nw1, nw2]); (with_reducible refine (worksT w _ _ S142.out).mono ?_); rintro e1 w145 ⟨rfl, h_⟩; have S144 := Aside0.mk h_; clear h_))
    try go_ret
    refine HPOST.out _ _ ?_
    exact ⟨rfl, S144.out.toBelow 9 rfl⟩
 ·have t14 : (K0 == 2) = false := beq_eq_false_iff_ne.2 q13
  have u15 : (K0 != 2) = true := by rw [bne, t14]; rfl
  have Xq13 := Aside0.mk q13
  clear q13
  go_upto_region 4 with (first | ((with_reducible refine wpl_ ?_); (refine gate_ (.store 3 (.tmp 35) (.tmp 34)) rfl ?_); (try simp only [kw1, kw2, nw1, nw2]); refine st_store rfl rfl 3 _ _ rfl rfl rfl (seg := [(.int .i64 K0)]) rfl (by kernel_rfl) (by rfl) S9.out 8 rfl (Nat.le_of_ble_eq_true rfl) ?_; intro w11 h_; clear cf_10; have S12 : Aside0 (St w w11 (Row k106 106 (.slice AF (callOf y).entries.length nF) (callOf y).entries :: Blk BC (cliA BA newCl (.slice none 0 0) (.slice none 0 0) (.slice none 0 0) (.slice none 0 0)) 91 :: Blk BA (askA (newAs 7 3 2) bl) 97 :: MapT bl (0) ((newAs 7 3 2)).lead :: Row k106 106 (.slice none 0 0) (newCl).call.entries :: Row k108 108 (.slice none 0 0) (newCl).pieces :: Row (Kd.int .i64) 3 (.slice none 0 0) (newCl).sweep :: Row k42 42 (.slice none 0 0) (newCl).out :: Blk g1 (callA { callOf y with kind := K0 } (.slice AF (callOf y).entries.length nF)) 50 :: [Old w])) := Aside0.mk h_; clear h_))
  have cf_146 : w11.cell? ⟨g1, 0, none⟩ = some (.int .i64 K0) := S12.out.cell 8 0 rfl rfl
  go_upto_if 43 with (fail)
  clear cf_146
  go_cut [6] (fun v6 w' => ∃ (x : Ca) (AX : Option Addr) (nX : Nat), v6 = .bool false ∧ XOk x ∧ Aside0 (St w w' (Blk g1 (callA x (.slice AX x.entries.length nX)) 50 :: Row k106 106 (.slice AX x.entries.length nX) x.entries :: Blk BC (cliA BA newCl (.slice none 0 0) (.slice none 0 0) (.slice none 0 0) (.slice none 0 0)) 91 :: Blk BA (askA (newAs 7 3 2) bl) 97 :: MapT bl (0) ((newAs 7 3 2)).lead :: Row k106 106 (.slice none 0 0) (newCl).call.entries :: Row k108 108 (.slice none 0 0) (newCl).pieces :: Row (Kd.int .i64) 3 (.slice none 0 0) (newCl).sweep :: Row k42 42 (.slice none 0 0) (newCl).out :: [Old w])))
  case first =>
   rcases Decidable.em (K0 = 5) with q147 | q147
   ·have t148 : (K0 == 5) = true := beq_iff_eq.2 q147
    have u149 : (K0 != 5) = false := by rw [bne, t148]; rfl
    have Xq147 := Aside0.mk q147
    clear q147
    go_upto_region 5 with (fail)
    go_wp2_with (first | ((with_reducible refine wpl_ ?_); (refine gate_ (.store 48 (.tmp 44) (.const (.slice none 0 0))) rfl ?_); (try simp only [kw1, kw2, nw1, nw2]); refine st_store rfl rfl 48 _ _ rfl rfl rfl (seg := [(.slice none 0 0)]) rfl (by kernel_rfl) (by rfl) S12.out 8 rfl (Nat.le_of_ble_eq_true rfl) ?_; intro w150 h_; have S151 : Aside0 (St w w150 (Row k106 106 (.slice AF (callOf y).entries.length nF) (callOf y).entries :: Blk BC (cliA BA newCl (.slice none 0 0) (.slice none 0 0) (.slice none 0 0) (.slice none 0 0)) 91 :: Blk BA (askA (newAs 7 3 2) bl) 97 :: MapT bl (0) ((newAs 7 3 2)).lead :: Row k106 106 (.slice none 0 0) (newCl).call.entries :: Row k108 108 (.slice none 0 0) (newCl).pieces :: Row (Kd.int .i64) 3 (.slice none 0 0) (newCl).sweep :: Row k42 42 (.slice none 0 0) (newCl).out :: Blk g1 (callA { callOf y with kind := K0, entries := [] } (.slice none 0 0)) 50 :: [Old w])) := Aside0.mk h_; clear h_))
    have SN := Aside0.mk (S151.out.nilRow k106 106)
    go_meet
    exact ⟨{ callOf y with kind := K0, entries := [] }, none, 0, rfl, ⟨Nat.zero_le _, fun _ h => (by cases h)⟩, ⟨(((((((((((SN.out).erase 1).bring 7 rfl).bring 7 rfl).bring 7 rfl).bring 7 rfl).bring 7 rfl).bring 7 rfl).bring 7 rfl).bring 7 rfl).bring 8 rfl)⟩⟩
   ·have t148 : (K0 == 5) = false := beq_eq_false_iff_ne.2 q147
    have u149 : (K0 != 5) = true := by rw [bne, t148]; rfl
    have Xq147 := Aside0.mk q147
    clear q147
    go_wp2_with (fail)
    go_meet
    exact ⟨{ callOf y with kind := K0 }, AF, nF, rfl, ⟨call_len y, HE.out⟩, ⟨((((((((((S12.out).bring 7 rfl).bring 7 rfl).bring 7 rfl).bring 7 rfl).bring 7 rfl).bring 7 rfl).bring 7 rfl).bring 7 rfl).bring 8 rfl)⟩⟩
  case rest =>
   obtain ⟨x, AX, nX, rfl, hX, SC⟩ := hcut
   have HX := Aside0.mk hX
   clear hX
   go_upto_region 6 with (fail)
   go_upto_region 8 with (fail)
   rcases Classical.em (callOk x) with hcx | hcx
   ·have HCX := Aside0.mk hcx
    clear hcx
    go_upto_region 8 with (fail)
    go_upto_region 9 with (first | ((with_reducible refine wpl_ ?_); (refine gate_ (.load 50 (.tmp 4)) rfl ?_); refine st_load rfl 50 _ rfl rfl SC.out 0 rfl [(.int .i64 x.kind), (.int .i64 x.queue), (.int .i64 x.max), (.int .i64 x.secs), (.string x.attempt), (.slice AX x.entries.length nX)] rfl Try.underlying50 rfl (by kernel_rfl) ?_) | (go_at_call 12; (try simp only [kw1, kw2, nw1, nw2]); (refine (start0 w _ (Blk g1 (callA x (.slice AX x.entries.length nX)) 50 :: Row k106 106 (.slice AX x.entries.length nX) x.entries :: [Old w]) BC BA bl (.slice none 0 0) (.slice none 0 0) (.slice none 0 0) (.slice none 0 0) ((((((((((SC.out).bring 1 rfl).bring 1 rfl).bring 8 rfl).bring 8 rfl).bring 8 rfl).bring 8 rfl).bring 8 rfl).bring 8 rfl).bring 8 rfl) x AX nX (SC.out.reads 1 rfl).2 (fun W hW => (hW.reads 1 rfl).1) HX.out.l12 0 (by rw [start_ok HCX.out])).mono ?_); rintro e1 w153 ⟨u1, u3, u4, rfl, h_⟩; have S152 := Aside0.mk h_; clear h_))
    go_upto_region 11 with (fail)
    go_upto_region 12 with (fail)
    go_upto_region 13 with (first | (go_at_call 15; (try simp only [kw1, kw2, nw1, nw2]); (refine (firstT w _ _ S152.out (first_f HNN.out).choose (n : Int) 1 (firstP n) 0 (first_f HNN.out).choose_spec).mono ?_); rintro e1 w155 ⟨AP, cP, rfl, h_⟩; have S154 := Aside0.mk h_; clear h_) | ((with_reducible refine wpl_ ?_); (refine gate_dst (N := 11) rfl ?_); (try simp only [kw1, kw2, nw1, nw2]); refine st_box ?hg (N := 11) ?hd #[(.int .i64 0), (.slice none 0 0)] 45 ?hr S154.out ?_; (case hd => rfl); (case hg => rfl); (case hr => first | (go_simp; done) | (go_simp; rfl)); intro g156 w157 hg_ h_ hb_; have S158 := Aside0.mk h_; have BS158 := Aside0.mk hb_; have GS158 := Aside0.mk hg_; clear h_ hb_ hg_) | ((with_reducible refine wpl_ ?_); (refine gate_ (.store 45 (.tmp 11) (.tmp 69)) rfl ?_); (try simp only [kw1, kw2, nw1, nw2]); refine st_store rfl rfl 45 _ _ rfl rfl rfl (seg := [(.int .i64 1), (.slice AP (firstP n).length cP)]) rfl (by kernel_rfl) (by rfl) S158.out 0 rfl (Nat.le_of_ble_eq_true rfl) ?_; intro w159 h_; have S160 : Aside0 (St w w159 (Blk g156 #[(.int .i64 1), (.slice AP (firstP n).length cP)] 45 :: Row k108 108 (.slice AP (firstP n).length cP) (firstP n) :: Blk BC (cliA BA (startV newCl x).2 u1 (.slice none 0 0) u3 u4) 91 :: Blk BA (askA (newAs 7 3 2) bl) 97 :: MapT bl (0) ((newAs 7 3 2)).lead :: Row k106 106 u1 ((startV newCl x).2).call.entries :: Row k108 108 (.slice none 0 0) ((startV newCl x).2).pieces :: Row (Kd.int .i64) 3 u3 ((startV newCl x).2).sweep :: Row k42 42 u4 ((startV newCl x).2).out :: Blk g1 (callA x (.slice AX x.entries.length nX)) 50 :: Row k106 106 (.slice AX x.entries.length nX) x.entries :: [Old w])) := Aside0.mk h_; clear h_))
    go_upto_region 14 with (fail)
    go_wp2_with (fail)
    clear kw1 kw2 nw1 nw2
    go_loopg [13, 14] 100 (fun kq v13 v14 w' => ∃ (i asked : Nat), v14 = .int .i64 i ∧ v13 = .int .i64 asked ∧ i ≤ 100 ∧ 100 - i ≤ kq ∧ Aside0 (StE w w' x n wrong.length BC BA bl g156 AP cP g1 AX nX i asked))
    case atStart => exact ⟨0, 0, rfl, rfl, by omega, by omega, ⟨_, _, 0, _, _, _, _, start_EI HCX.out HX.out.ents n wrong.length, ((((((((((((S160.out).erase 10).bring 9 rfl).bring 2 rfl).bring 2 rfl).bring 9 rfl).bring 9 rfl).bring 9 rfl).bring 9 rfl).bring 9 rfl).bring 9 rfl).bring 9 rfl)⟩⟩
    case round =>
     obtain ⟨i, asked, rfl, rfl, hi, hg, HS⟩ := hrel
     obtain ⟨a, c, q, v1, v2, v3, v4, hE, h_⟩ := HS.out
     have HI := Aside0.mk hE
     have HQ := Aside0.mk (show q + 1 < 100000 ∧ q + 2 < 100000 ∧ i < 10000 ∧ i ≤ 100 by have := hE.q1; omega)
     have SI := Aside0.mk h_
     clear hE h_ HS
     rcases Bool.eq_false_or_eq_true c.works with q161 | q161
     ·have Xq161 := Aside0.mk q161
      rcases Decidable.em ((i : Int) < 100) with q162 | q162
      ·have t165 : decide (i < 100) = true := decide_eq_true (by omega)
       have t163 : decide ((i : Int) < 100) = true := decide_eq_true q162
       have Xq162 := Aside0.mk q162
       clear q162
       go_upto_region 15 with (fail)
       go_upto_region 17 with (first | (go_at_call 16; (refine (busyT w _ (Blk g156 #[(.int .i64 1), (.slice AP (firstP n).length cP)] 45 :: Row k108 108 (.slice AP (firstP n).length cP) (firstP n) :: Blk g1 (callA x (.slice AX x.entries.length nX)) 50 :: [Old w]) BC BA bl q a c v1 v2 v3 v4 (SI.out) (by have := HI.out.id7; omega)).mono ?_); rintro e1 w167 ⟨rfl, h_⟩; have S166 := Aside0.mk h_; clear h_))
       have HLT := Aside0.mk (show i < 100 by have := Xq162.out; omega)
       have HWK := Aside0.mk (show c.works = true from q161)
       rcases HI.out.ph with hA | ⟨hia, k, hb⟩
       ·have HIZ := Aside0.mk hA.1
        have HEA := Aside0.mk (show EI x n wrong.length 0 asked a c q by have h9 := HI.out; rw [HIZ.out] at h9; exact h9)
        clear hA
        have HL := Aside0.mk (tickA HEA.out).2.2
        go_upto_region 17 with (fail)
        go_wp2_with (first | (go_at_call 9; (refine (tick1 (q := q) HI.out.inv HQ.out.1 w _ (Blk g156 #[(.int .i64 1), (.slice AP (firstP n).length cP)] 45 :: Row k108 108 (.slice AP (firstP n).length cP) (firstP n) :: Blk g1 (callA x (.slice AX x.entries.length nX)) 50 :: [Old w]) BC BA bl v1 v2 v3 v4 (S166.out) 4 (-7) 0 0 z38 rfl HL.out).mono ?_); rintro e1 w169 ⟨u3, gk, nk, P10, p10, P11, p11, P30, p30, P34, p34, P35, p35, P36, p36, P38, p38, P39, p39, rk, rfl, h_⟩; have S168 := Aside0.mk h_; clear h_))
        refine wp_loop_round ?_
        refine round_unroll ?_
        go_upto_region 18 with (fail)
        go_upto_region 19 with (fail)
        go_upto_region 20 with (first | ((with_reducible refine wpl_ ?_); (refine gate_ (.load 47 (.tmp 84)) rfl ?_); refine st_load rfl 47 _ rfl rfl S168.out 0 rfl (pkL 4 (-7) 0 0 z38 P10 p10 P11 p11 P30 p30 P34 p34 P35 p35 P36 p36 P38 p38 P39 p39) rfl Try.underlying47 rfl (by kernel_rfl) ?_) | ((with_reducible refine wpl_ ?_); (refine gate_dst (N := 16) rfl ?_); refine st_box ?hg (N := 16) ?hd (pkA z47 (.slice none 0 0) (.slice none 0 0) (.slice none 0 0) none 0 none 0 none 0 (.slice none 0 0)) 47 ?hr S168.out ?_; (case hd => rfl); (case hg => rfl); (case hr => first | (go_simp; done) | (go_simp; rfl)); intro g170 w171 hg_ h_ hb_; have S172 := Aside0.mk h_; have BS172 := Aside0.mk hb_; have GS172 := Aside0.mk hg_; clear h_ hb_ hg_) | ((with_reducible refine wpl_ ?_); (refine gate_ (.store 47 (.tmp 16) (.tmp 85)) rfl ?_); refine st_store rfl rfl 47 _ _ rfl rfl rfl (seg := (pkL 4 (-7) 0 0 z38 P10 p10 P11 p11 P30 p30 P34 p34 P35 p35 P36 p36 P38 p38 P39 p39)) rfl (by kernel_rfl) (by rfl) S172.out 0 rfl (Nat.le_of_ble_eq_true rfl) ?_; intro w173 h_; have S174 : Aside0 (St w w173 (Blk g170 (pkL 4 (-7) 0 0 z38 P10 p10 P11 p11 P30 p30 P34 p34 P35 p35 P36 p36 P38 p38 P39 p39).toArray 47 :: Blk gk (pkL 4 (-7) 0 0 z38 P10 p10 P11 p11 P30 p30 P34 p34 P35 p35 P36 p36 P38 p38 P39 p39 ++ rk).toArray 47 :: Blk BC (cliA BA (tickN a c).2.1 v1 v2 u3 v4) 91 :: Blk BA (askA (tickN a c).1 bl) 97 :: MapT bl (q + 2) ((tickN a c).1).lead :: Row k106 106 v1 ((tickN a c).2.1).call.entries :: Row k108 108 v2 ((tickN a c).2.1).pieces :: Row (Kd.int .i64) 3 u3 ((tickN a c).2.1).sweep :: Row k42 42 v4 ((tickN a c).2.1).out :: Blk g156 #[(.int .i64 1), (.slice AP (firstP n).length cP)] 45 :: Row k108 108 (.slice AP (firstP n).length cP) (firstP n) :: Blk g1 (callA x (.slice AX x.entries.length nX)) 50 :: [Old w])) := Aside0.mk h_; clear h_))
        have cf_175 : w173.cell? ⟨g170, 2, none⟩ = some (.int .i64 0) := S174.out.cell 0 2 rfl rfl
        have cf_176 : w173.cell? ⟨g170, 1, none⟩ = some (.int .i64 (-7)) := S174.out.cell 0 1 rfl rfl
        go_upto_region 21 with (first | ((with_reducible refine wpl_ ?_); (refine gate_ (.load 45 (.tmp 11)) rfl ?_); refine st_load rfl 45 _ rfl rfl S174.out 9 rfl [(.int .i64 1), (.slice AP (firstP n).length cP)] rfl Try.underlying45 rfl (by kernel_rfl) ?_) | ((with_reducible refine wpl_ ?_); (refine gate_dst (N := 17) rfl ?_); refine st_box ?hg (N := 17) ?hd (pkA z47 (.slice none 0 0) (.slice none 0 0) (.slice none 0 0) none 0 none 0 none 0 (.slice none 0 0)) 47 ?hr S174.out ?_; (case hd => rfl); (case hg => rfl); (case hr => first | (go_simp; done) | (go_simp; rfl)); intro g177 w178 hg_ h_ hb_; clear cf_175 cf_176; have S179 := Aside0.mk h_; have BS179 := Aside0.mk hb_; have GS179 := Aside0.mk hg_; clear h_ hb_ hg_) | ((with_reducible refine wpl_ ?_); (refine gate_ (.store 47 (.tmp 17) (.tmp 91)) rfl ?_); refine st_store rfl rfl 47 _ _ rfl rfl rfl (seg := (pkA (chartPk n 0) (.slice none 0 0) (.slice none 0 0) (.slice none 0 0) none 0 none 0 AP cP (.slice none 0 0)).toList) rfl (by kernel_rfl) (by rfl) S179.out 0 rfl (Nat.le_of_ble_eq_true rfl) ?_; intro w180 h_; have S181 : Aside0 (St w w180 (Blk g177 (pkA (chartPk n 0) (.slice none 0 0) (.slice none 0 0) (.slice none 0 0) none 0 none 0 AP cP (.slice none 0 0)) 47 :: Blk g170 (pkL 4 (-7) 0 0 z38 P10 p10 P11 p11 P30 p30 P34 p34 P35 p35 P36 p36 P38 p38 P39 p39).toArray 47 :: Blk gk (pkL 4 (-7) 0 0 z38 P10 p10 P11 p11 P30 p30 P34 p34 P35 p35 P36 p36 P38 p38 P39 p39 ++ rk).toArray 47 :: Blk BC (cliA BA (tickN a c).2.1 v1 v2 u3 v4) 91 :: Blk BA (askA (tickN a c).1 bl) 97 :: MapT bl (q + 2) ((tickN a c).1).lead :: Row k106 106 v1 ((tickN a c).2.1).call.entries :: Row k108 108 v2 ((tickN a c).2.1).pieces :: Row (Kd.int .i64) 3 u3 ((tickN a c).2.1).sweep :: Row k42 42 v4 ((tickN a c).2.1).out :: Blk g156 #[(.int .i64 1), (.slice AP (firstP n).length cP)] 45 :: Row k108 108 (.slice AP (firstP n).length cP) (firstP n) :: Blk g1 (callA x (.slice AX x.entries.length nX)) 50 :: [Old w])) := Aside0.mk h_; clear h_))
        have cf_182 : w180.cell? ⟨g170, 0, none⟩ = some (.int .i64 4) := S181.out.cell 1 0 rfl rfl
        go_upto_region 26 with (fail)
        clear cf_182
        go_upto_region 27 with (first | ((with_reducible refine wpl_ ?_); (refine gate_ (.load 47 (.tmp 17)) rfl ?_); refine st_load rfl 47 _ rfl rfl S181.out 0 rfl (pkA (chartPk n 0) (.slice none 0 0) (.slice none 0 0) (.slice none 0 0) none 0 none 0 AP cP (.slice none 0 0)).toList rfl Try.underlying47 rfl (by kernel_rfl) ?_) | (go_at_call 11; (refine (recvC (q := q + 2) (tick_inv HI.out.inv HQ.out.2.1) (by have := HI.out.q1; have := HQ.out; omega) HQ.out.2.2.1 w _ (Blk g177 (pkA (chartPk n 0) (.slice none 0 0) (.slice none 0 0) (.slice none 0 0) none 0 none 0 AP cP (.slice none 0 0)) 47 :: Blk g170 (pkL 4 (-7) 0 0 z38 P10 p10 P11 p11 P30 p30 P34 p34 P35 p35 P36 p36 P38 p38 P39 p39).toArray 47 :: Blk gk (pkL 4 (-7) 0 0 z38 P10 p10 P11 p11 P30 p30 P34 p34 P35 p35 P36 p36 P38 p38 P39 p39 ++ rk).toArray 47 :: Blk g156 #[(.int .i64 1), (.slice AP (firstP n).length cP)] 45 :: Row k108 108 (.slice AP (firstP n).length cP) (firstP n) :: Blk g1 (callA x (.slice AX x.entries.length nX)) 50 :: [Old w]) BC BA bl v1 v2 u3 v4 ((((((((((((((S181.out).bring 12 rfl).bring 12 rfl).bring 12 rfl).bring 5 rfl).bring 5 rfl).bring 5 rfl).bring 12 rfl).bring 12 rfl).bring 12 rfl).bring 12 rfl).bring 12 rfl).bring 12 rfl).bring 12 rfl) (chartPk n 0) (.slice none 0 0) (.slice none 0 0) (.slice none 0 0) (.slice none 0 0) none none AP 0 0 cP (fun W hW => ⟨⟨C_zero _ _ _, Nat.zero_le _⟩, ⟨C_zero _ _ _, Nat.zero_le _⟩, (hW.reads 4 rfl).1, (hW.reads 4 rfl).2⟩) (Nat.zero_le _) (Nat.zero_le _) (by show (firstP n).length ≤ 20; rw [first_len]; have := HNN.out; omega) rfl).mono ?_); rintro e1 w184 ⟨u2, u4, rfl, h_⟩; have S183 := Aside0.mk h_; clear h_))
        go_wp2_with (fail)
        refine round_unroll ?_
        go_upto_region 18 with (fail)
        go_upto_region 16 with (fail)
        go_wp2_with (fail)
        go_roundg (100 - (i + 1))
        case measure => have := HLT.out; omega
        case rel => exact ⟨i + 1, asked, by go_num, rfl, by have := HLT.out; omega, by have := HLT.out; omega, ⟨_, _, _, _, _, _, _, (by have h9 := stepA HCX.out HNN.out HEA.out 0; have h8 := HIZ.out; rw [h8]; exact h9), ((((S183.out).erase 9).erase 8).erase 7)⟩⟩
       ·have HIA := Aside0.mk hia
        have HB := Aside0.mk hb
        clear hia hb
        obtain ⟨tg, g, xc, d1, d2, d3, d4, d5, d6, d7, d8, d9, d10⟩ := tickB HCX.out HNN.out HI.out HB.out HWK.out HQ.out.2.2.2
        have HL := Aside0.mk d2
        have HD := Aside0.mk d1
        have HPB := Aside0.mk (show replyPk tg g xc.f2 xc.f1 ⟨0, xc.f2, 0, [], [], []⟩ = replyPk tg (tickN a c).1.group ((k + 1 : Nat) : Int) 7 (rep (k + 1)) by rw [d3, d4, d8]; rfl)
        have HPC0 := Aside0.mk (fun (N : Int) => show replyPk tg g xc.f2 xc.f1 ⟨15, 0, N, [], [], []⟩ = replyPk tg (tickN a c).1.group ((k + 1 : Nat) : Int) 7 ⟨15, 0, N, [], [], []⟩ by rw [d3, d4, d8])
        clear d1 d2 d3 d4 d5 d6 d7 d8 d9 d10
        go_upto_region 17 with (fail)
        go_wp2_with (first | (go_at_call 9; (refine (tick1 (q := q) HI.out.inv HQ.out.1 w _ (Blk g156 #[(.int .i64 1), (.slice AP (firstP n).length cP)] 45 :: Row k108 108 (.slice AP (firstP n).length cP) (firstP n) :: Blk g1 (callA x (.slice AX x.entries.length nX)) 50 :: [Old w]) BC BA bl v1 v2 v3 v4 (S166.out) 2 (-7) tg g xc HD.out HL.out).mono ?_); rintro e1 w186 ⟨u3, gk, nk, P10, p10, P11, p11, P30, p30, P34, p34, P35, p35, P36, p36, P38, p38, P39, p39, rk, rfl, h_⟩; have S185 := Aside0.mk h_; clear h_))
        refine wp_loop_round ?_
        refine round_unroll ?_
        go_upto_region 18 with (fail)
        go_upto_region 19 with (fail)
        go_upto_region 20 with (first | ((with_reducible refine wpl_ ?_); (refine gate_ (.load 47 (.tmp 84)) rfl ?_); refine st_load rfl 47 _ rfl rfl S185.out 0 rfl (pkL 2 (-7) tg g xc P10 p10 P11 p11 P30 p30 P34 p34 P35 p35 P36 p36 P38 p38 P39 p39) rfl Try.underlying47 rfl (by kernel_rfl) ?_) | ((with_reducible refine wpl_ ?_); (refine gate_dst (N := 16) rfl ?_); refine st_box ?hg (N := 16) ?hd (pkA z47 (.slice none 0 0) (.slice none 0 0) (.slice none 0 0) none 0 none 0 none 0 (.slice none 0 0)) 47 ?hr S185.out ?_; (case hd => rfl); (case hg => rfl); (case hr => first | (go_simp; done) | (go_simp; rfl)); intro g187 w188 hg_ h_ hb_; have S189 := Aside0.mk h_; have BS189 := Aside0.mk hb_; have GS189 := Aside0.mk hg_; clear h_ hb_ hg_) | ((with_reducible refine wpl_ ?_); (refine gate_ (.store 47 (.tmp 16) (.tmp 85)) rfl ?_); refine st_store rfl rfl 47 _ _ rfl rfl rfl (seg := (pkL 2 (-7) tg g xc P10 p10 P11 p11 P30 p30 P34 p34 P35 p35 P36 p36 P38 p38 P39 p39)) rfl (by kernel_rfl) (by rfl) S189.out 0 rfl (Nat.le_of_ble_eq_true rfl) ?_; intro w190 h_; have S191 : Aside0 (St w w190 (Blk g187 (pkL 2 (-7) tg g xc P10 p10 P11 p11 P30 p30 P34 p34 P35 p35 P36 p36 P38 p38 P39 p39).toArray 47 :: Blk gk (pkL 2 (-7) tg g xc P10 p10 P11 p11 P30 p30 P34 p34 P35 p35 P36 p36 P38 p38 P39 p39 ++ rk).toArray 47 :: Blk BC (cliA BA (tickN a c).2.1 v1 v2 u3 v4) 91 :: Blk BA (askA (tickN a c).1 bl) 97 :: MapT bl (q + 2) ((tickN a c).1).lead :: Row k106 106 v1 ((tickN a c).2.1).call.entries :: Row k108 108 v2 ((tickN a c).2.1).pieces :: Row (Kd.int .i64) 3 u3 ((tickN a c).2.1).sweep :: Row k42 42 v4 ((tickN a c).2.1).out :: Blk g156 #[(.int .i64 1), (.slice AP (firstP n).length cP)] 45 :: Row k108 108 (.slice AP (firstP n).length cP) (firstP n) :: Blk g1 (callA x (.slice AX x.entries.length nX)) 50 :: [Old w])) := Aside0.mk h_; clear h_))
        have cf_192 : w190.cell? ⟨g187, 2, none⟩ = some (.int .i64 tg) := S191.out.cell 0 2 rfl rfl
        have cf_193 : w190.cell? ⟨g187, 1, none⟩ = some (.int .i64 (-7)) := S191.out.cell 0 1 rfl rfl
        go_upto_region 21 with (first | ((with_reducible refine wpl_ ?_); (refine gate_ (.load 45 (.tmp 11)) rfl ?_); refine st_load rfl 45 _ rfl rfl S191.out 9 rfl [(.int .i64 1), (.slice AP (firstP n).length cP)] rfl Try.underlying45 rfl (by kernel_rfl) ?_) | ((with_reducible refine wpl_ ?_); (refine gate_dst (N := 17) rfl ?_); refine st_box ?hg (N := 17) ?hd (pkA z47 (.slice none 0 0) (.slice none 0 0) (.slice none 0 0) none 0 none 0 none 0 (.slice none 0 0)) 47 ?hr S191.out ?_; (case hd => rfl); (case hg => rfl); (case hr => first | (go_simp; done) | (go_simp; rfl)); intro g194 w195 hg_ h_ hb_; clear cf_192 cf_193; have S196 := Aside0.mk h_; have BS196 := Aside0.mk hb_; have GS196 := Aside0.mk hg_; clear h_ hb_ hg_) | ((with_reducible refine wpl_ ?_); (refine gate_ (.store 47 (.tmp 17) (.tmp 91)) rfl ?_); refine st_store rfl rfl 47 _ _ rfl rfl rfl (seg := (pkA (chartPk n tg) (.slice none 0 0) (.slice none 0 0) (.slice none 0 0) none 0 none 0 AP cP (.slice none 0 0)).toList) rfl (by kernel_rfl) (by rfl) S196.out 0 rfl (Nat.le_of_ble_eq_true rfl) ?_; intro w197 h_; have S198 : Aside0 (St w w197 (Blk g194 (pkA (chartPk n tg) (.slice none 0 0) (.slice none 0 0) (.slice none 0 0) none 0 none 0 AP cP (.slice none 0 0)) 47 :: Blk g187 (pkL 2 (-7) tg g xc P10 p10 P11 p11 P30 p30 P34 p34 P35 p35 P36 p36 P38 p38 P39 p39).toArray 47 :: Blk gk (pkL 2 (-7) tg g xc P10 p10 P11 p11 P30 p30 P34 p34 P35 p35 P36 p36 P38 p38 P39 p39 ++ rk).toArray 47 :: Blk BC (cliA BA (tickN a c).2.1 v1 v2 u3 v4) 91 :: Blk BA (askA (tickN a c).1 bl) 97 :: MapT bl (q + 2) ((tickN a c).1).lead :: Row k106 106 v1 ((tickN a c).2.1).call.entries :: Row k108 108 v2 ((tickN a c).2.1).pieces :: Row (Kd.int .i64) 3 u3 ((tickN a c).2.1).sweep :: Row k42 42 v4 ((tickN a c).2.1).out :: Blk g156 #[(.int .i64 1), (.slice AP (firstP n).length cP)] 45 :: Row k108 108 (.slice AP (firstP n).length cP) (firstP n) :: Blk g1 (callA x (.slice AX x.entries.length nX)) 50 :: [Old w])) := Aside0.mk h_; clear h_))
        have cf_199 : w197.cell? ⟨g187, 0, none⟩ = some (.int .i64 2) := S198.out.cell 1 0 rfl rfl
        go_upto_region 22 with (fail)
        clear cf_199
        have cf_200 : w197.cell? ⟨g187, 2, none⟩ = some (.int .i64 tg) := S198.out.cell 1 2 rfl rfl
        have cf_201 : w197.cell? ⟨g187, 1, none⟩ = some (.int .i64 (-7)) := S198.out.cell 1 1 rfl rfl
        have cf_202 : w197.cell? ⟨g187, 3, none⟩ = some (.int .i64 g) := S198.out.cell 1 3 rfl rfl
        have cf_203 : w197.cell? ⟨g187, 13, none⟩ = some (.int .i64 xc.f1) := S198.out.cell 1 13 rfl rfl
        have cf_204 : w197.cell? ⟨g187, 14, none⟩ = some (.int .i64 xc.f2) := S198.out.cell 1 14 rfl rfl
        go_upto_region 23 with (first | ((with_reducible refine wpl_ ?_); (refine gate_ (.store 47 (.tmp 17) (.tmp 112)) rfl ?_); refine st_store rfl rfl 47 _ _ rfl rfl rfl (seg := (pkA (replyPk tg g xc.f2 xc.f1 ⟨0, xc.f2, 0, [], [], []⟩) (.slice none 0 0) (.slice none 0 0) (.slice none 0 0) none 0 none 0 none 0 (.slice none 0 0)).toList) rfl (by kernel_rfl) (by rfl) S198.out 0 rfl (Nat.le_of_ble_eq_true rfl) ?_; intro w205 h_; clear cf_200 cf_201 cf_202 cf_203 cf_204; have S206 : Aside0 (St w w205 (Blk g194 (pkA (replyPk tg g xc.f2 xc.f1 ⟨0, xc.f2, 0, [], [], []⟩) (.slice none 0 0) (.slice none 0 0) (.slice none 0 0) none 0 none 0 none 0 (.slice none 0 0)) 47 :: Blk g187 (pkL 2 (-7) tg g xc P10 p10 P11 p11 P30 p30 P34 p34 P35 p35 P36 p36 P38 p38 P39 p39).toArray 47 :: Blk gk (pkL 2 (-7) tg g xc P10 p10 P11 p11 P30 p30 P34 p34 P35 p35 P36 p36 P38 p38 P39 p39 ++ rk).toArray 47 :: Blk BC (cliA BA (tickN a c).2.1 v1 v2 u3 v4) 91 :: Blk BA (askA (tickN a c).1 bl) 97 :: MapT bl (q + 2) ((tickN a c).1).lead :: Row k106 106 v1 ((tickN a c).2.1).call.entries :: Row k108 108 v2 ((tickN a c).2.1).pieces :: Row (Kd.int .i64) 3 u3 ((tickN a c).2.1).sweep :: Row k42 42 v4 ((tickN a c).2.1).out :: Blk g156 #[(.int .i64 1), (.slice AP (firstP n).length cP)] 45 :: Row k108 108 (.slice AP (firstP n).length cP) (firstP n) :: Blk g1 (callA x (.slice AX x.entries.length nX)) 50 :: [Old w])) := Aside0.mk h_; clear h_))
        rcases Nat.lt_or_ge asked wrong.length with hlw | hlw
        ·have HLW := Aside0.mk hlw
         have ta_ : decide ((asked : Int) < (wrong.length : Int)) = true := decide_eq_true (by omega)
         have tb_ : decide (asked < wrong.length) = true := decide_eq_true (by omega)
         clear hlw
         obtain ⟨ad, e0, hc⟩ := wrong_at HW.out asked HLW.out
         have E0 := Aside0.mk e0
         generalize wrong.getD asked 0 = wv at hc
         have HWV := Aside0.mk hc
         have HPC := Aside0.mk (HPC0.out wv)
         clear e0 hc
         rcases Decidable.em (0 < wv) with q207 | q207
         ·have t208 : decide (0 < wv) = true := decide_eq_true q207
          have Xq207 := Aside0.mk q207
          clear q207
          go_upto_region 23 with (fail)
          have cf_210 : w205.cell? (ad.add asked) = some (.int .i64 wv) := pw_cell_below (S206.out.toBelow 13 rfl) HWV.out
          go_upto_region 24 with (first | ((with_reducible refine wpl_ ?_); (refine gate_dst (N := 120) rfl ?_); refine unguard (by rfl) ?_; refine index_at (ad := ad) (len := wrong.length) (cap := c2) (i := (asked : Int)) rfl 63 _ _ rfl (by rw [← E0.out]; rfl) rfl (by omega) (by have := HLW.out; omega) Try.underlying63 (sz := 1) (by kernel_rfl) ?_; rw [Int.toNat_natCast, Nat.mul_one]))
          clear cf_210
          have cf_211 : w205.cell? (ad.add asked) = some (.int .i64 wv) := pw_cell_below (S206.out.toBelow 13 rfl) HWV.out
          go_upto_region 25 with (first | ((with_reducible refine wpl_ ?_); (refine gate_dst (N := 126) rfl ?_); refine index_at (ad := ad) (len := wrong.length) (cap := c2) (i := (asked : Int)) rfl 63 _ _ rfl (by rw [← E0.out]; rfl) rfl (by omega) (by have := HLW.out; omega) Try.underlying63 (sz := 1) (by kernel_rfl) ?_; rw [Int.toNat_natCast, Nat.mul_one]) | ((with_reducible refine wpl_ ?_); (refine gate_ (.store 42 (.tmp 129) (.tmp 128)) rfl ?_); refine st_store rfl rfl 42 _ _ rfl rfl rfl (seg := [(.int .i64 15), (.int .i64 0), (.int .i64 wv), (.slice none 0 0), (.slice none 0 0), (.slice none 0 0)]) rfl (by kernel_rfl) (by rfl) S206.out 0 rfl (Nat.le_of_ble_eq_true rfl) ?_; intro w212 h_; clear cf_211; have S213 : Aside0 (St w w212 (Blk g194 (pkA (replyPk tg g xc.f2 xc.f1 ⟨15, 0, wv, [], [], []⟩) (.slice none 0 0) (.slice none 0 0) (.slice none 0 0) none 0 none 0 none 0 (.slice none 0 0)) 47 :: Blk g187 (pkL 2 (-7) tg g xc P10 p10 P11 p11 P30 p30 P34 p34 P35 p35 P36 p36 P38 p38 P39 p39).toArray 47 :: Blk gk (pkL 2 (-7) tg g xc P10 p10 P11 p11 P30 p30 P34 p34 P35 p35 P36 p36 P38 p38 P39 p39 ++ rk).toArray 47 :: Blk BC (cliA BA (tickN a c).2.1 v1 v2 u3 v4) 91 :: Blk BA (askA (tickN a c).1 bl) 97 :: MapT bl (q + 2) ((tickN a c).1).lead :: Row k106 106 v1 ((tickN a c).2.1).call.entries :: Row k108 108 v2 ((tickN a c).2.1).pieces :: Row (Kd.int .i64) 3 u3 ((tickN a c).2.1).sweep :: Row k42 42 v4 ((tickN a c).2.1).out :: Blk g156 #[(.int .i64 1), (.slice AP (firstP n).length cP)] 45 :: Row k108 108 (.slice AP (firstP n).length cP) (firstP n) :: Blk g1 (callA x (.slice AX x.entries.length nX)) 50 :: [Old w])) := Aside0.mk h_; clear h_))
          go_upto_region 26 with (fail)
          go_upto_region 27 with (first | ((with_reducible refine wpl_ ?_); (refine gate_ (.load 47 (.tmp 17)) rfl ?_); refine st_load rfl 47 _ rfl rfl S213.out 0 rfl (pkA (replyPk tg g xc.f2 xc.f1 ⟨15, 0, wv, [], [], []⟩) (.slice none 0 0) (.slice none 0 0) (.slice none 0 0) none 0 none 0 none 0 (.slice none 0 0)).toList rfl Try.underlying47 rfl (by kernel_rfl) ?_) | (go_at_call 11; (refine (recvC (q := q + 2) (tick_inv HI.out.inv HQ.out.2.1) (by have := HI.out.q1; have := HQ.out; omega) HQ.out.2.2.1 w _ (Blk g194 (pkA (replyPk tg g xc.f2 xc.f1 ⟨15, 0, wv, [], [], []⟩) (.slice none 0 0) (.slice none 0 0) (.slice none 0 0) none 0 none 0 none 0 (.slice none 0 0)) 47 :: Blk g187 (pkL 2 (-7) tg g xc P10 p10 P11 p11 P30 p30 P34 p34 P35 p35 P36 p36 P38 p38 P39 p39).toArray 47 :: Blk gk (pkL 2 (-7) tg g xc P10 p10 P11 p11 P30 p30 P34 p34 P35 p35 P36 p36 P38 p38 P39 p39 ++ rk).toArray 47 :: Blk g156 #[(.int .i64 1), (.slice AP (firstP n).length cP)] 45 :: Row k108 108 (.slice AP (firstP n).length cP) (firstP n) :: Blk g1 (callA x (.slice AX x.entries.length nX)) 50 :: [Old w]) BC BA bl v1 v2 u3 v4 ((((((((((((((S213.out).bring 12 rfl).bring 12 rfl).bring 12 rfl).bring 5 rfl).bring 5 rfl).bring 5 rfl).bring 12 rfl).bring 12 rfl).bring 12 rfl).bring 12 rfl).bring 12 rfl).bring 12 rfl).bring 12 rfl) (replyPk tg g xc.f2 xc.f1 ⟨15, 0, wv, [], [], []⟩) (.slice none 0 0) (.slice none 0 0) (.slice none 0 0) (.slice none 0 0) none none none 0 0 0 (fun W hW => ⟨⟨C_zero _ _ _, Nat.zero_le _⟩, ⟨C_zero _ _ _, Nat.zero_le _⟩, C_zero _ _ _, Nat.zero_le _⟩) (Nat.zero_le _) (Nat.zero_le _) (Nat.zero_le _) rfl).mono ?_); rintro e1 w215 ⟨u2, u4, rfl, h_⟩; have S214 := Aside0.mk h_; clear h_))
          go_wp2_with (fail)
          refine round_unroll ?_
          go_upto_region 18 with (fail)
          go_upto_region 16 with (fail)
          go_wp2_with (fail)
          go_roundg (100 - (i + 1))
          case measure => have := HLT.out; omega
          case rel => exact ⟨i + 1, asked + 1, by go_num, idx_up (i := asked) (n := 1000) (by have := HIA.out; have := HQ.out; omega) (by decide), by have := HLT.out; omega, by have := HLT.out; omega, ⟨_, _, _, _, _, _, _, (by rw [HPC.out]; exact stepC HCX.out HNN.out HI.out HIA.out HB.out HWK.out HQ.out.2.2.2 tg wv HLW.out), ((((S214.out).erase 9).erase 8).erase 7)⟩⟩
         ·have t208 : decide (0 < wv) = false := decide_eq_false q207
          have Xq207 := Aside0.mk q207
          clear q207
          go_upto_region 23 with (fail)
          have cf_216 : w205.cell? (ad.add asked) = some (.int .i64 wv) := pw_cell_below (S206.out.toBelow 13 rfl) HWV.out
          go_upto_region 25 with (first | ((with_reducible refine wpl_ ?_); (refine gate_dst (N := 120) rfl ?_); refine unguard (by rfl) ?_; refine index_at (ad := ad) (len := wrong.length) (cap := c2) (i := (asked : Int)) rfl 63 _ _ rfl (by rw [← E0.out]; rfl) rfl (by omega) (by have := HLW.out; omega) Try.underlying63 (sz := 1) (by kernel_rfl) ?_; rw [Int.toNat_natCast, Nat.mul_one]))
          clear cf_216
          go_upto_region 26 with (fail)
          go_upto_region 27 with (first | ((with_reducible refine wpl_ ?_); (refine gate_ (.load 47 (.tmp 17)) rfl ?_); refine st_load rfl 47 _ rfl rfl S206.out 0 rfl (pkA (replyPk tg g xc.f2 xc.f1 ⟨0, xc.f2, 0, [], [], []⟩) (.slice none 0 0) (.slice none 0 0) (.slice none 0 0) none 0 none 0 none 0 (.slice none 0 0)).toList rfl Try.underlying47 rfl (by kernel_rfl) ?_) | (go_at_call 11; (refine (recvC (q := q + 2) (tick_inv HI.out.inv HQ.out.2.1) (by have := HI.out.q1; have := HQ.out; omega) HQ.out.2.2.1 w _ (Blk g194 (pkA (replyPk tg g xc.f2 xc.f1 ⟨0, xc.f2, 0, [], [], []⟩) (.slice none 0 0) (.slice none 0 0) (.slice none 0 0) none 0 none 0 none 0 (.slice none 0 0)) 47 :: Blk g187 (pkL 2 (-7) tg g xc P10 p10 P11 p11 P30 p30 P34 p34 P35 p35 P36 p36 P38 p38 P39 p39).toArray 47 :: Blk gk (pkL 2 (-7) tg g xc P10 p10 P11 p11 P30 p30 P34 p34 P35 p35 P36 p36 P38 p38 P39 p39 ++ rk).toArray 47 :: Blk g156 #[(.int .i64 1), (.slice AP (firstP n).length cP)] 45 :: Row k108 108 (.slice AP (firstP n).length cP) (firstP n) :: Blk g1 (callA x (.slice AX x.entries.length nX)) 50 :: [Old w]) BC BA bl v1 v2 u3 v4 ((((((((((((((S206.out).bring 12 rfl).bring 12 rfl).bring 12 rfl).bring 5 rfl).bring 5 rfl).bring 5 rfl).bring 12 rfl).bring 12 rfl).bring 12 rfl).bring 12 rfl).bring 12 rfl).bring 12 rfl).bring 12 rfl) (replyPk tg g xc.f2 xc.f1 ⟨0, xc.f2, 0, [], [], []⟩) (.slice none 0 0) (.slice none 0 0) (.slice none 0 0) (.slice none 0 0) none none none 0 0 0 (fun W hW => ⟨⟨C_zero _ _ _, Nat.zero_le _⟩, ⟨C_zero _ _ _, Nat.zero_le _⟩, C_zero _ _ _, Nat.zero_le _⟩) (Nat.zero_le _) (Nat.zero_le _) (Nat.zero_le _) rfl).mono ?_); rintro e1 w218 ⟨u2, u4, rfl, h_⟩; have S217 := Aside0.mk h_; clear h_))
          go_wp2_with (fail)
          refine round_unroll ?_
          go_upto_region 18 with (fail)
          go_upto_region 16 with (fail)
          go_wp2_with (fail)
          go_roundg (100 - (i + 1))
          case measure => have := HLT.out; omega
          case rel => exact ⟨i + 1, asked + 1, by go_num, idx_up (i := asked) (n := 1000) (by have := HIA.out; have := HQ.out; omega) (by decide), by have := HLT.out; omega, by have := HLT.out; omega, ⟨_, _, _, _, _, _, _, (by rw [HPB.out]; exact stepB HCX.out HNN.out HI.out HIA.out HB.out HWK.out HQ.out.2.2.2 tg), ((((S217.out).erase 9).erase 8).erase 7)⟩⟩
        ·have HLW := Aside0.mk hlw
         have ta_ : decide ((asked : Int) < (wrong.length : Int)) = false := decide_eq_false (by omega)
         have tb_ : decide (asked < wrong.length) = false := decide_eq_false (by omega)
         clear hlw
         go_upto_region 23 with (fail)
         go_upto_region 25 with (fail)
         go_upto_region 26 with (fail)
         go_upto_region 27 with (first | ((with_reducible refine wpl_ ?_); (refine gate_ (.load 47 (.tmp 17)) rfl ?_); refine st_load rfl 47 _ rfl rfl S206.out 0 rfl (pkA (replyPk tg g xc.f2 xc.f1 ⟨0, xc.f2, 0, [], [], []⟩) (.slice none 0 0) (.slice none 0 0) (.slice none 0 0) none 0 none 0 none 0 (.slice none 0 0)).toList rfl Try.underlying47 rfl (by kernel_rfl) ?_) | (go_at_call 11; (refine (recvC (q := q + 2) (tick_inv HI.out.inv HQ.out.2.1) (by have := HI.out.q1; have := HQ.out; omega) HQ.out.2.2.1 w _ (Blk g194 (pkA (replyPk tg g xc.f2 xc.f1 ⟨0, xc.f2, 0, [], [], []⟩) (.slice none 0 0) (.slice none 0 0) (.slice none 0 0) none 0 none 0 none 0 (.slice none 0 0)) 47 :: Blk g187 (pkL 2 (-7) tg g xc P10 p10 P11 p11 P30 p30 P34 p34 P35 p35 P36 p36 P38 p38 P39 p39).toArray 47 :: Blk gk (pkL 2 (-7) tg g xc P10 p10 P11 p11 P30 p30 P34 p34 P35 p35 P36 p36 P38 p38 P39 p39 ++ rk).toArray 47 :: Blk g156 #[(.int .i64 1), (.slice AP (firstP n).length cP)] 45 :: Row k108 108 (.slice AP (firstP n).length cP) (firstP n) :: Blk g1 (callA x (.slice AX x.entries.length nX)) 50 :: [Old w]) BC BA bl v1 v2 u3 v4 ((((((((((((((S206.out).bring 12 rfl).bring 12 rfl).bring 12 rfl).bring 5 rfl).bring 5 rfl).bring 5 rfl).bring 12 rfl).bring 12 rfl).bring 12 rfl).bring 12 rfl).bring 12 rfl).bring 12 rfl).bring 12 rfl) (replyPk tg g xc.f2 xc.f1 ⟨0, xc.f2, 0, [], [], []⟩) (.slice none 0 0) (.slice none 0 0) (.slice none 0 0) (.slice none 0 0) none none none 0 0 0 (fun W hW => ⟨⟨C_zero _ _ _, Nat.zero_le _⟩, ⟨C_zero _ _ _, Nat.zero_le _⟩, C_zero _ _ _, Nat.zero_le _⟩) (Nat.zero_le _) (Nat.zero_le _) (Nat.zero_le _) rfl).mono ?_); rintro e1 w220 ⟨u2, u4, rfl, h_⟩; have S219 := Aside0.mk h_; clear h_))
         go_wp2_with (fail)
         refine round_unroll ?_
         go_upto_region 18 with (fail)
         go_upto_region 16 with (fail)
         go_wp2_with (fail)
         go_roundg (100 - (i + 1))
         case measure => have := HLT.out; omega
         case rel => exact ⟨i + 1, asked + 1, by go_num, idx_up (i := asked) (n := 1000) (by have := HIA.out; have := HQ.out; omega) (by decide), by have := HLT.out; omega, by have := HLT.out; omega, ⟨_, _, _, _, _, _, _, (by rw [HPB.out]; exact stepB HCX.out HNN.out HI.out HIA.out HB.out HWK.out HQ.out.2.2.2 tg), ((((S219.out).erase 9).erase 8).erase 7)⟩⟩
      ·have t165 : decide (i < 100) = false := decide_eq_false (by omega)
       have t163 : decide ((i : Int) < 100) = false := decide_eq_false q162
       have Xq162 := Aside0.mk q162
       clear q162
       go_upto_region 15 with (fail)
       go_wp2_with (first | (go_at_call 16; (refine (busyT w _ (Blk g156 #[(.int .i64 1), (.slice AP (firstP n).length cP)] 45 :: Row k108 108 (.slice AP (firstP n).length cP) (firstP n) :: Blk g1 (callA x (.slice AX x.entries.length nX)) 50 :: [Old w]) BC BA bl q a c v1 v2 v3 v4 (SI.out) (by have := HI.out.id7; omega)).mono ?_); rintro e1 w222 ⟨rfl, h_⟩; have S221 := Aside0.mk h_; clear h_))
       have HI100 := Aside0.mk (show i = 100 by have := Xq162.out; have := HQ.out; omega)
       rcases HI.out.ph with hA | ⟨hia, k, hb⟩
       ·exact absurd hA.1 (by have := HI100.out; omega)
       ·have HB := Aside0.mk hb
        have HIA := Aside0.mk hia
        clear hia hb
        have H20 := Aside0.mk (show 20 < wrong.length by have h1 := HB.out.asked1; have h2 := HB.out.on q161; have h3 := (tot_pos HCX.out HNN.out).2; have h4 := HI100.out; have h5 := HIA.out; omega)
        have tw_ : decide ((20 : Int) < (wrong.length : Int)) = true := decide_eq_true (by have := H20.out; omega)
        have tv_ : decide (20 < wrong.length) = true := decide_eq_true H20.out
        go_upto_region 28 with (fail)
        go_upto_region 29 with (first | (go_at_call 17; (refine (resultE w _ (Blk g156 #[(.int .i64 1), (.slice AP (firstP n).length cP)] 45 :: Row k108 108 (.slice AP (firstP n).length cP) (firstP n) :: Blk g1 (callA x (.slice AX x.entries.length nX)) 50 :: [Old w]) BC BA bl q a c v1 v2 v3 v4 (S221.out) (by have := HI.out.id7; omega) k HB.out.out (by have := HI.out.inv.out1; have := HQ.out; omega) HI.out.st true q161).mono ?_); rintro e1 w224 ⟨AR, cR, rfl, h_⟩; have S223 := Aside0.mk h_; clear h_))
        have cf_225 : w224.cell? ⟨g1, 5, none⟩ = some (.slice AX x.entries.length nX) := S223.out.cell 10 5 rfl rfl
        rcases Decidable.em ((x.entries.length : Int) = 0) with q226 | q226
        ·have t229 : decide (x.entries.length = 0) = true := decide_eq_true (by omega)
         have t229b : (x.entries.length == 0) = true := beq_iff_eq.2 (by omega)
         have t227 : ((x.entries.length : Int) == 0) = true := beq_iff_eq.2 q226
         have u228 : ((x.entries.length : Int) != 0) = false := by rw [bne, t227]; rfl
         have Xq226 := Aside0.mk q226
         clear q226
         go_upto_region 30 with (fail)
         clear cf_225
         go_upto_region 31 with (fail)
         go_upto_region 32 with (fail)
         go_upto_region 33 with (first | (go_at_call 16; (refine (busyT w _ (Row kRep 42 (.slice AR (outs k).length cR) (outs k) :: Blk g156 #[(.int .i64 1), (.slice AP (firstP n).length cP)] 45 :: Row k108 108 (.slice AP (firstP n).length cP) (firstP n) :: Blk g1 (callA x (.slice AX x.entries.length nX)) 50 :: [Old w]) BC BA bl q a c v1 v2 v3 v4 ((((((((((((S223.out).bring 10 rfl).bring 10 rfl).bring 10 rfl).bring 3 rfl).bring 10 rfl).bring 10 rfl).bring 10 rfl).bring 10 rfl).bring 10 rfl).bring 10 rfl).bring 10 rfl) (by have := HI.out.id7; omega)).mono ?_); rintro e1 w231 ⟨rfl, h_⟩; have S230 := Aside0.mk h_; clear h_))
         go_wp2_with (first | (go_at_call 14; (with_reducible refine (worksT w _ _ S230.out).mono ?_); rintro e1 w233 ⟨rfl, h_⟩; have S232 := Aside0.mk h_; clear h_))
         try go_ret
         refine HPOST.out _ _ ?_
         exact ⟨rfl, S232.out.toBelow 11 rfl⟩
        ·have t229 : decide (x.entries.length = 0) = false := decide_eq_false (by omega)
         have t229b : (x.entries.length == 0) = false := beq_eq_false_iff_ne.2 (by omega)
         have t227 : ((x.entries.length : Int) == 0) = false := beq_eq_false_iff_ne.2 q226
         have u228 : ((x.entries.length : Int) != 0) = true := by rw [bne, t227]; rfl
         have Xq226 := Aside0.mk q226
         clear q226
         go_upto_region 30 with (fail)
         clear cf_225
         go_upto_region 32 with (fail)
         go_upto_region 33 with (first | (go_at_call 16; (refine (busyT w _ (Row kRep 42 (.slice AR (outs k).length cR) (outs k) :: Blk g156 #[(.int .i64 1), (.slice AP (firstP n).length cP)] 45 :: Row k108 108 (.slice AP (firstP n).length cP) (firstP n) :: Blk g1 (callA x (.slice AX x.entries.length nX)) 50 :: [Old w]) BC BA bl q a c v1 v2 v3 v4 ((((((((((((S223.out).bring 10 rfl).bring 10 rfl).bring 10 rfl).bring 3 rfl).bring 10 rfl).bring 10 rfl).bring 10 rfl).bring 10 rfl).bring 10 rfl).bring 10 rfl).bring 10 rfl) (by have := HI.out.id7; omega)).mono ?_); rintro e1 w235 ⟨rfl, h_⟩; have S234 := Aside0.mk h_; clear h_))
         go_wp2_with (first | (go_at_call 14; (with_reducible refine (worksT w _ _ S234.out).mono ?_); rintro e1 w237 ⟨rfl, h_⟩; have S236 := Aside0.mk h_; clear h_))
         try go_ret
         refine HPOST.out _ _ ?_
         exact ⟨rfl, S236.out.toBelow 11 rfl⟩
     ·have Xq161 := Aside0.mk q161
      go_upto_region 15 with (fail)
      go_wp2_with (first | (go_at_call 16; (refine (busyT w _ (Blk g156 #[(.int .i64 1), (.slice AP (firstP n).length cP)] 45 :: Row k108 108 (.slice AP (firstP n).length cP) (firstP n) :: Blk g1 (callA x (.slice AX x.entries.length nX)) 50 :: [Old w]) BC BA bl q a c v1 v2 v3 v4 (SI.out) (by have := HI.out.id7; omega)).mono ?_); rintro e1 w239 ⟨rfl, h_⟩; have S238 := Aside0.mk h_; clear h_))
      rcases HI.out.ph with hA | ⟨hia, k, hb⟩
      ·exact absurd hA.2.2.1 (by rw [q161]; decide)
      ·have HB := Aside0.mk hb
       have HIA := Aside0.mk hia
       clear hia hb
       have HK := Aside0.mk (HB.out.off q161)
       go_upto_region 28 with (fail)
       go_upto_region 29 with (first | (go_at_call 17; (refine (resultE w _ (Blk g156 #[(.int .i64 1), (.slice AP (firstP n).length cP)] 45 :: Row k108 108 (.slice AP (firstP n).length cP) (firstP n) :: Blk g1 (callA x (.slice AX x.entries.length nX)) 50 :: [Old w]) BC BA bl q a c v1 v2 v3 v4 (S238.out) (by have := HI.out.id7; omega) k HB.out.out (by have := HI.out.inv.out1; have := HQ.out; omega) HI.out.st false q161).mono ?_); rintro e1 w241 ⟨AR, cR, rfl, h_⟩; have S240 := Aside0.mk h_; clear h_))
       have cf_242 : w241.cell? ⟨g1, 5, none⟩ = some (.slice AX x.entries.length nX) := S240.out.cell 10 5 rfl rfl
       rcases Decidable.em ((x.entries.length : Int) = 0) with q243 | q243
       ·have t246 : decide (x.entries.length = 0) = true := decide_eq_true (by omega)
        have t246b : (x.entries.length == 0) = true := beq_iff_eq.2 (by omega)
        have t244 : ((x.entries.length : Int) == 0) = true := beq_iff_eq.2 q243
        have u245 : ((x.entries.length : Int) != 0) = false := by rw [bne, t244]; rfl
        have Xq243 := Aside0.mk q243
        clear q243
        go_upto_region 30 with (fail)
        clear cf_242
        go_upto_region 31 with (fail)
        go_upto_region 32 with (fail)
        go_upto_region 34 with (first | (go_at_call 16; (refine (busyT w _ (Row kRep 42 (.slice AR (outs k).length cR) (outs k) :: Blk g156 #[(.int .i64 1), (.slice AP (firstP n).length cP)] 45 :: Row k108 108 (.slice AP (firstP n).length cP) (firstP n) :: Blk g1 (callA x (.slice AX x.entries.length nX)) 50 :: [Old w]) BC BA bl q a c v1 v2 v3 v4 ((((((((((((S240.out).bring 10 rfl).bring 10 rfl).bring 10 rfl).bring 3 rfl).bring 10 rfl).bring 10 rfl).bring 10 rfl).bring 10 rfl).bring 10 rfl).bring 10 rfl).bring 10 rfl) (by have := HI.out.id7; omega)).mono ?_); rintro e1 w248 ⟨rfl, h_⟩; have S247 := Aside0.mk h_; clear h_))
        go_wp2_with (fail)
        go_loopg [157] (outs k).length (fun kq v157 w' => ∃ j : Nat, v157 = .int .i64 j ∧ j ≤ (outs k).length ∧ (outs k).length - j ≤ kq ∧ Aside0 (St w w' [Row kRep 42 (.slice AR (outs k).length cR) (outs k), Old w]))
        case atStart => exact ⟨0, rfl, Nat.zero_le _, Nat.le_refl _, ⟨(((((((((((S247.out).erase 10).erase 9).erase 8).erase 6).erase 5).erase 4).erase 3).erase 2).erase 1).erase 0)⟩⟩
        case round =>
         obtain ⟨j, rfl, hj, hg2, SR⟩ := hrel
         rcases Decidable.em ((j : Int) < ((outs k).length : Int)) with q249 | q249
         ·have t252 : decide (j < (outs k).length) = true := decide_eq_true (by omega)
          have t250 : decide ((j : Int) < ((outs k).length : Int)) = true := decide_eq_true q249
          have Xq249 := Aside0.mk q249
          clear q249
          go_upto_region 35 with (fail)
          go_upto_region 36 with (fail)
          have HLJ := Aside0.mk (show j < (outs k).length by have := Xq249.out; omega)
          obtain ⟨gR, eR, r3, q3, r4, q4, r5, q5, hyR⟩ := rep_at SR.out 0 rfl j HLJ.out
          have ERR := Aside0.mk eR
          clear eR
          have HRY := Aside0.mk hyR
          clear hyR
          have HFR := Aside0.mk (outs_get (k := k) (j := j) (by rw [← outs_len k]; exact HLJ.out))
          generalize (outs k).getD j z42 = rr at HRY HFR
          have HWJ := Aside0.mk (show wrap64 ((j : Int) + 1) = (j : Int) + 1 by have h1 := HLJ.out; rw [outs_len] at h1; have := HB.out.step; have := HI.out.inv.step1; have := HQ.out; unfold wrap64; omega)
          have tr_ : (rr.f1 == (j : Int) + 1) = true := beq_iff_eq.2 (by have := HFR.out; omega)
          have tr2_ : (rr.f1 != (j : Int) + 1) = false := by rw [bne, tr_]; rfl
          go_upto_region 37 with (first | ((with_reducible refine wpl_ ?_); (refine gate_dst (N := 160) rfl ?_); refine index_at (ad := gR) (len := (outs k).length) (cap := cR) (i := (j : Int)) rfl 66 _ _ rfl (by rw [← ERR.out]; rfl) rfl (by omega) (by have := HLJ.out; omega) Try.underlying66 (sz := 6) (by kernel_rfl) ?_; rw [Int.toNat_natCast]) | ((with_reducible refine wpl_ ?_); (refine gate_ (.load 42 (.tmp 160)) rfl ?_); refine load_at rfl 42 _ rfl _ rfl [(.int .i64 rr.f0), (.int .i64 rr.f1), (.int .i64 rr.f2), (.slice r3 rr.f3.length q3), (.slice r4 rr.f4.length q4), (.slice r5 rr.f5.length q5)] HRY.out Try.underlying42 rfl (by kernel_rfl) ?_) | ((with_reducible refine wpl_ ?_); (refine gate_dst (N := 22) rfl ?_); refine st_box ?hg (N := 22) ?hd #[(.int .i64 0), (.int .i64 0), (.int .i64 0), (.slice none 0 0), (.slice none 0 0), (.slice none 0 0)] 42 ?hr SR.out ?_; (case hd => rfl); (case hg => rfl); (case hr => first | (go_simp; done) | (go_simp; rfl)); intro g253 w254 hg_ h_ hb_; have S255 := Aside0.mk h_; have BS255 := Aside0.mk hb_; have GS255 := Aside0.mk hg_; clear h_ hb_ hg_) | ((with_reducible refine wpl_ ?_); (refine gate_ (.store 42 (.tmp 22) (.tmp 161)) rfl ?_); refine st_store rfl rfl 42 _ _ rfl rfl rfl (seg := [(.int .i64 rr.f0), (.int .i64 rr.f1), (.int .i64 rr.f2), (.slice r3 rr.f3.length q3), (.slice r4 rr.f4.length q4), (.slice r5 rr.f5.length q5)]) rfl (by kernel_rfl) (by rfl) S255.out 0 rfl (Nat.le_of_ble_eq_true rfl) ?_; intro w256 h_; have S257 : Aside0 (St w w256 (Blk g253 #[(.int .i64 rr.f0), (.int .i64 rr.f1), (.int .i64 rr.f2), (.slice r3 rr.f3.length q3), (.slice r4 rr.f4.length q4), (.slice r5 rr.f5.length q5)] 42 :: Row kRep 42 (.slice AR (outs k).length cR) (outs k) :: [Old w])) := Aside0.mk h_; clear h_))
          have hwj_ := HWJ.out
          have cf_258 : w256.cell? ⟨g253, 1, none⟩ = some (.int .i64 rr.f1) := S257.out.cell 0 1 rfl rfl
          go_upto_region 39 with (fail)
          clear cf_258
          go_wp2_with (fail)
          clear hwj_
          go_roundg ((outs k).length - (j + 1))
          case measure => have := HLJ.out; omega
          case rel => exact ⟨j + 1, idx_up HLJ.out (by rw [outs_len]; have := HB.out.step; have := HI.out.inv.step1; have := HQ.out; omega), by have := HLJ.out; omega, by have := HLJ.out; omega, ⟨((S257.out).erase 0)⟩⟩
         ·have t252 : decide (j < (outs k).length) = false := decide_eq_false (by omega)
          have t250 : decide ((j : Int) < ((outs k).length : Int)) = false := decide_eq_false q249
          have Xq249 := Aside0.mk q249
          clear q249
          go_upto_region 35 with (fail)
          go_upto_region 40 with (fail)
          have HWT := Aside0.mk (want_n HCX.out (by have := Xq243.out; omega) HK.out)
          have tk_ : (((outs k).length : Int) == (n : Int)) = true := beq_iff_eq.2 (by rw [outs_len]; have := HWT.out; omega)
          skip
          go_upto_region 40 with (fail)
          go_wp2_with (first | (go_at_call 14; (with_reducible refine (worksT w _ _ SR.out).mono ?_); rintro e1 w260 ⟨rfl, h_⟩; have S259 := Aside0.mk h_; clear h_))
          try go_ret
          refine HPOST.out _ _ ?_
          exact ⟨rfl, S259.out.toBelow 1 rfl⟩
       ·have t246 : decide (x.entries.length = 0) = false := decide_eq_false (by omega)
        have t246b : (x.entries.length == 0) = false := beq_eq_false_iff_ne.2 (by omega)
        have t244 : ((x.entries.length : Int) == 0) = false := beq_eq_false_iff_ne.2 q243
        have u245 : ((x.entries.length : Int) != 0) = true := by rw [bne, t244]; rfl
        have Xq243 := Aside0.mk q243
        clear q243
        go_upto_region 30 with (fail)
        clear cf_242
        go_upto_region 32 with (fail)
        go_upto_region 34 with (first | (go_at_call 16; (refine (busyT w _ (Row kRep 42 (.slice AR (outs k).length cR) (outs k) :: Blk g156 #[(.int .i64 1), (.slice AP (firstP n).length cP)] 45 :: Row k108 108 (.slice AP (firstP n).length cP) (firstP n) :: Blk g1 (callA x (.slice AX x.entries.length nX)) 50 :: [Old w]) BC BA bl q a c v1 v2 v3 v4 ((((((((((((S240.out).bring 10 rfl).bring 10 rfl).bring 10 rfl).bring 3 rfl).bring 10 rfl).bring 10 rfl).bring 10 rfl).bring 10 rfl).bring 10 rfl).bring 10 rfl).bring 10 rfl) (by have := HI.out.id7; omega)).mono ?_); rintro e1 w262 ⟨rfl, h_⟩; have S261 := Aside0.mk h_; clear h_))
        go_wp2_with (fail)
        go_loopg [157] (outs k).length (fun kq v157 w' => ∃ j : Nat, v157 = .int .i64 j ∧ j ≤ (outs k).length ∧ (outs k).length - j ≤ kq ∧ Aside0 (St w w' [Row kRep 42 (.slice AR (outs k).length cR) (outs k), Old w]))
        case atStart => exact ⟨0, rfl, Nat.zero_le _, Nat.le_refl _, ⟨(((((((((((S261.out).erase 10).erase 9).erase 8).erase 6).erase 5).erase 4).erase 3).erase 2).erase 1).erase 0)⟩⟩
        case round =>
         obtain ⟨j, rfl, hj, hg2, SR⟩ := hrel
         rcases Decidable.em ((j : Int) < ((outs k).length : Int)) with q263 | q263
         ·have t266 : decide (j < (outs k).length) = true := decide_eq_true (by omega)
          have t264 : decide ((j : Int) < ((outs k).length : Int)) = true := decide_eq_true q263
          have Xq263 := Aside0.mk q263
          clear q263
          go_upto_region 35 with (fail)
          go_upto_region 36 with (fail)
          have HLJ := Aside0.mk (show j < (outs k).length by have := Xq263.out; omega)
          obtain ⟨gR, eR, r3, q3, r4, q4, r5, q5, hyR⟩ := rep_at SR.out 0 rfl j HLJ.out
          have ERR := Aside0.mk eR
          clear eR
          have HRY := Aside0.mk hyR
          clear hyR
          have HFR := Aside0.mk (outs_get (k := k) (j := j) (by rw [← outs_len k]; exact HLJ.out))
          generalize (outs k).getD j z42 = rr at HRY HFR
          have HWJ := Aside0.mk (show wrap64 ((j : Int) + 1) = (j : Int) + 1 by have h1 := HLJ.out; rw [outs_len] at h1; have := HB.out.step; have := HI.out.inv.step1; have := HQ.out; unfold wrap64; omega)
          have tr_ : (rr.f1 == (j : Int) + 1) = true := beq_iff_eq.2 (by have := HFR.out; omega)
          have tr2_ : (rr.f1 != (j : Int) + 1) = false := by rw [bne, tr_]; rfl
          go_upto_region 37 with (first | ((with_reducible refine wpl_ ?_); (refine gate_dst (N := 160) rfl ?_); refine index_at (ad := gR) (len := (outs k).length) (cap := cR) (i := (j : Int)) rfl 66 _ _ rfl (by rw [← ERR.out]; rfl) rfl (by omega) (by have := HLJ.out; omega) Try.underlying66 (sz := 6) (by kernel_rfl) ?_; rw [Int.toNat_natCast]) | ((with_reducible refine wpl_ ?_); (refine gate_ (.load 42 (.tmp 160)) rfl ?_); refine load_at rfl 42 _ rfl _ rfl [(.int .i64 rr.f0), (.int .i64 rr.f1), (.int .i64 rr.f2), (.slice r3 rr.f3.length q3), (.slice r4 rr.f4.length q4), (.slice r5 rr.f5.length q5)] HRY.out Try.underlying42 rfl (by kernel_rfl) ?_) | ((with_reducible refine wpl_ ?_); (refine gate_dst (N := 22) rfl ?_); refine st_box ?hg (N := 22) ?hd #[(.int .i64 0), (.int .i64 0), (.int .i64 0), (.slice none 0 0), (.slice none 0 0), (.slice none 0 0)] 42 ?hr SR.out ?_; (case hd => rfl); (case hg => rfl); (case hr => first | (go_simp; done) | (go_simp; rfl)); intro g267 w268 hg_ h_ hb_; have S269 := Aside0.mk h_; have BS269 := Aside0.mk hb_; have GS269 := Aside0.mk hg_; clear h_ hb_ hg_) | ((with_reducible refine wpl_ ?_); (refine gate_ (.store 42 (.tmp 22) (.tmp 161)) rfl ?_); refine st_store rfl rfl 42 _ _ rfl rfl rfl (seg := [(.int .i64 rr.f0), (.int .i64 rr.f1), (.int .i64 rr.f2), (.slice r3 rr.f3.length q3), (.slice r4 rr.f4.length q4), (.slice r5 rr.f5.length q5)]) rfl (by kernel_rfl) (by rfl) S269.out 0 rfl (Nat.le_of_ble_eq_true rfl) ?_; intro w270 h_; have S271 : Aside0 (St w w270 (Blk g267 #[(.int .i64 rr.f0), (.int .i64 rr.f1), (.int .i64 rr.f2), (.slice r3 rr.f3.length q3), (.slice r4 rr.f4.length q4), (.slice r5 rr.f5.length q5)] 42 :: Row kRep 42 (.slice AR (outs k).length cR) (outs k) :: [Old w])) := Aside0.mk h_; clear h_))
          have hwj_ := HWJ.out
          have cf_272 : w270.cell? ⟨g267, 1, none⟩ = some (.int .i64 rr.f1) := S271.out.cell 0 1 rfl rfl
          go_upto_region 39 with (fail)
          clear cf_272
          go_wp2_with (fail)
          clear hwj_
          go_roundg ((outs k).length - (j + 1))
          case measure => have := HLJ.out; omega
          case rel => exact ⟨j + 1, idx_up HLJ.out (by rw [outs_len]; have := HB.out.step; have := HI.out.inv.step1; have := HQ.out; omega), by have := HLJ.out; omega, by have := HLJ.out; omega, ⟨((S271.out).erase 0)⟩⟩
         ·have t266 : decide (j < (outs k).length) = false := decide_eq_false (by omega)
          have t264 : decide ((j : Int) < ((outs k).length : Int)) = false := decide_eq_false q263
          have Xq263 := Aside0.mk q263
          clear q263
          go_upto_region 35 with (fail)
          go_upto_region 40 with (fail)
          have HWT := Aside0.mk (want_e HCX.out (by have := Xq243.out; omega) HK.out)
          have tk_ : (((outs k).length : Int) == (x.entries.length : Int)) = true := beq_iff_eq.2 (by rw [outs_len]; have := HWT.out; omega)
          skip
          go_upto_region 40 with (fail)
          go_wp2_with (first | (go_at_call 14; (with_reducible refine (worksT w _ _ SR.out).mono ?_); rintro e1 w274 ⟨rfl, h_⟩; have S273 := Aside0.mk h_; clear h_))
          try go_ret
          refine HPOST.out _ _ ?_
          exact ⟨rfl, S273.out.toBelow 1 rfl⟩
   ·have HCX := Aside0.mk hcx
    clear hcx
    go_upto_region 8 with (fail)
    go_upto_region 9 with (first | ((with_reducible refine wpl_ ?_); (refine gate_ (.load 50 (.tmp 4)) rfl ?_); refine st_load rfl 50 _ rfl rfl SC.out 0 rfl [(.int .i64 x.kind), (.int .i64 x.queue), (.int .i64 x.max), (.int .i64 x.secs), (.string x.attempt), (.slice AX x.entries.length nX)] rfl Try.underlying50 rfl (by kernel_rfl) ?_) | (go_at_call 12; (try simp only [kw1, kw2, nw1, nw2]); (refine (start0 w _ (Blk g1 (callA x (.slice AX x.entries.length nX)) 50 :: Row k106 106 (.slice AX x.entries.length nX) x.entries :: [Old w]) BC BA bl (.slice none 0 0) (.slice none 0 0) (.slice none 0 0) (.slice none 0 0) ((((((((((SC.out).bring 1 rfl).bring 1 rfl).bring 8 rfl).bring 8 rfl).bring 8 rfl).bring 8 rfl).bring 8 rfl).bring 8 rfl).bring 8 rfl) x AX nX (SC.out.reads 1 rfl).2 (fun W hW => (hW.reads 1 rfl).1) HX.out.l12 2 (by rw [start_no HCX.out])).mono ?_); rintro e1 w276 ⟨u1, u3, u4, rfl, h_⟩; have S275 := Aside0.mk h_; clear h_))
    go_upto_region 10 with (fail)
    go_wp2_with (first | (go_at_call 14; (try simp only [kw1, kw2, nw1, nw2]); (with_reducible refine (worksT w _ _ S275.out).mono ?_); rintro e1 w278 ⟨rfl, h_⟩; have S277 := Aside0.mk h_; clear h_))
    try go_ret
    refine HPOST.out _ _ ?_
    exact ⟨rfl, S277.out.toBelow 9 rfl⟩
end Go.Proofs.Ytonedijkgddepaa.P
