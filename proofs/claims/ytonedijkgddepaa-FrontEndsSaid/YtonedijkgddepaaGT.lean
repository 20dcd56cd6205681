/- front.Client, by hand: Tick, over what lies in memory. No conditions. -/
import Derived.Test.YtonedijkgddepaaSq
import Derived.Test.YtonedijkgddepaaSepG
namespace Go.Proofs.Ytonedijkgddepaa.P
open Go.Sq
open Go.RowKit Go.Maps Go.Proofs.YtonedijkgddepaaW.PrintWords Go.Proofs.YtonedijkgddepaaW.PrintLast Go.Proofs.YtonedijkgddepaaW.PrintMore
set_option linter.unusedVariables false
set_option linter.unusedSimpArgs false
/-- What a client sends; a', c': what its asker and it are behind asking for the next step. -/
def cliTickV (a : As) (c : Cl) (a' : As) (c' : Cl) : As × Cl × List S47 :=
 if c.works = true then (if c.wants = true then (a, { c with at_ := (c.at_ + 1).tmod a.nodes }, [mapPk a.id c.at_])
  else if a.busy = true then ((tickV a).1, c, (tickV a).2) else ((tickV a').1, c', (tickV a').2)) else (a, c, [])
def TickT (w0 : World) (L : List Thing) (BC BA bl q : Nat) (v1 v2 v4 : Value) (x : As × Cl × List S47) (e' : Ending) (w' : World) : Prop := ∃ v3 A n, e' = .returned (.slice A x.2.2.length n) ∧ St w0 w' (cliT BC BA bl q x.1 x.2.1 v1 v2 v3 v4 ++ Row k47 47 (.slice A x.2.2.length n) x.2.2 :: L)
/-- What 'next' does. -/
abbrev NextDoes (w0 : World) (L : List Thing) (BC BA bl q : Nat) (a : As) (c : Cl) (v1 v2 v3 v4 : Value) (a' : As) (c' : Cl) : Prop :=
 ∀ W, St w0 W (cliT BC BA bl q a c v1 v2 v3 v4 ++ L) → Calls Try.prog 36 #[.pointer (some ⟨BC, 0, none⟩)] W fun e W' => e = .returned (.tuple #[]) ∧ ∃ v3', St w0 W' (cliT BC BA bl (q + 1) a' c' v1 v2 v3' v4 ++ L)
set_option maxHeartbeats 4000000 in
set_option maxRecDepth 100000 in
theorem cliTickT (w0 w : World) (L : List Thing) (BC BA bl q : Nat) (a : As) (c : Cl) (v1 v2 v3 v4 : Value) (h : St w0 w (cliT BC BA bl q a c v1 v2 v3 v4 ++ L)) (hk : a.ok q) (hat : 0 ≤ c.at_ ∧ c.at_ ≤ 1000) (a' : As) (c' : Cl) (hk' : a'.ok (q + 1)) (hn : c.works = true → c.wants = false → a.busy = false → NextDoes w0 L BC BA bl q a c v1 v2 v3 v4 a' c') :
  Calls Try.prog 9 #[.pointer (some ⟨BC, 0, none⟩)] w fun e' w' => TickT w0 L BC BA bl (q + 2) v1 v2 v4 (cliTickV a c a' c') e' w' := by
 have H := Aside0.mk h
 have HK := Aside0.mk hk
 have HK2 := Aside0.mk hk'
 have HI := Aside0.mk (show a.id ≠ 0 by have := hk.id1; omega)
 have HN := Aside0.mk hn
 have hw1 : wrap64 (c.at_ + 1) = c.at_ + 1 := by unfold wrap64; omega
 have hz : (a.nodes == 0) = false := beq_eq_false_iff_ne.2 (by have := hk.nodes1; omega)
 have hz2 : a.nodes ≠ 0 := by have := hk.nodes1; omega
 have hng := neg_w hk.id1
 clear h hk hk' hn hat
 refine calls_hide fun R HPOST => ?_
 go_enter Try.func9, Try.ntmps9
 go_upto_region 0 with (fail)
 rcases Bool.eq_false_or_eq_true c.works with q1 | q1
 ·have Xq1 := Aside0.mk q1
  go_upto_region 1 with (fail)
  rcases Bool.eq_false_or_eq_true c.wants with q5 | q5
  ·have Xq5 := Aside0.mk q5
   go_upto_region 3 with (first | (go_at_call 35; (try simp only [hw1, hng]); (with_reducible refine (cliNobody _ 0 BC BA bl q a c v1 v2 v3 v4 (cli_in (L := L) (H.out)) HI.out).mono ?_); rintro e1 w3 ⟨rfl, hw_⟩; have S2 := Aside0.mk (H.out.same hw_); clear hw_; have c4 : w3.cell? ⟨BC, 7, none⟩ = some (.bool true) := (show w3.cell? ⟨BC, 7, none⟩ = some (.bool c.works) from S2.out.cell 0 7 rfl rfl).trans (by rw [q1])))
   clear c4
   have c6 : w3.cell? ⟨BC, 9, none⟩ = some (.bool true) := (show w3.cell? ⟨BC, 9, none⟩ = some (.bool c.wants) from S2.out.cell 0 9 rfl rfl).trans (by rw [q5])
   go_upto_region 4 with (fail)
   clear c6
   have c7 : w3.cell? ⟨BC, 10, none⟩ = some (.int .i64 c.at_) := S2.out.cell 0 10 rfl rfl
   go_upto_region 5 with (fail)
   clear c7
   have S9 := Aside0.mk S2.out.drew
   refine start_ (n := 17) (S := fun w' => St w0 w' (Blk BC (cliA BA c v1 v2 v3 v4) 91 :: Blk BA (askA a bl) 97 :: MapT bl q a.lead :: Row k106 106 v1 c.call.entries :: Row k108 108 v2 c.pieces :: Row (Kd.int .i64) 3 v3 c.sweep :: Row k42 42 v4 c.out :: L)) (ds := [16]) (bits 17 0) (by kernel_rfl) rfl rfl (S2.out).drew (fun hHeld => ?_)
   generalize w3.drew = w8 at S9 hHeld ⊢
   refine pu 0 21 (bits 17 1) ?_ rfl rfl (by kernel_rfl) (fun _ _ _ h => h) (by rfl) ?_ ?_ ?_ ?_
   rotate_left
   ·intro w'; go_simp; with_reducible rfl
   rotate_left
   ·simp only [Act.put, sqA, sqB, sqC, i64_w, i32_w]; rfl
   refine pu 1 22 (bits 17 3) ?_ rfl rfl (by kernel_rfl) (fun _ _ _ h => h) (by rfl) ?_ ?_ ?_ ?_
   rotate_left
   ·intro w'; go_simp; with_reducible rfl
   rotate_left
   ·simp only [Act.put, sqA, sqB, sqC, i64_w, i32_w]; rfl
   refine pu 2 23 (bits 17 7) ?_ rfl rfl (by kernel_rfl) (fun _ _ _ h => h) (by rfl) ?_ ?_ ?_ ?_
   rotate_left
   ·intro w'; go_simp; with_reducible rfl
   rotate_left
   ·simp only [Act.put, sqA, sqB, sqC, i64_w, i32_w]; rfl
   refine pu 3 24 (bits 17 15) ?_ rfl rfl (by kernel_rfl) (fun _ _ _ h => h) (by rfl) ?_ ?_ ?_ ?_
   rotate_left
   ·intro w'; go_simp; with_reducible rfl
   rotate_left
   ·simp only [Act.put, sqA, sqB, sqC, i64_w, i32_w]; rfl
   refine pu 6 27 (bits 17 79) ?_ rfl rfl (by kernel_rfl) (fun _ _ _ h => h) (by rfl) ?_ ?_ ?_ ?_
   rotate_left
   ·intro w'; go_simp; with_reducible rfl
   rotate_left
   ·simp only [Act.put, sqA, sqB, sqC, i64_w, i32_w]; rfl
   refine pu 7 28 (bits 17 207) ?_ rfl rfl (by kernel_rfl) (fun _ _ _ h => h) (by rfl) ?_ ?_ ?_ ?_
   rotate_left
   ·intro w'; go_simp; with_reducible rfl
   rotate_left
   ·simp only [Act.put, sqA, sqB, sqC, i64_w, i32_w]; rfl
   refine pu 8 29 (bits 17 463) ?_ rfl rfl (by kernel_rfl) (fun _ _ _ h => h) (by rfl) ?_ ?_ ?_ ?_
   rotate_left
   ·intro w'; go_simp; with_reducible rfl
   rotate_left
   ·simp only [Act.put, sqA, sqB, sqC, i64_w, i32_w]; rfl
   refine tk 4 25 (bits 17 479) ?_ rfl rfl (by kernel_rfl) (fun _ _ _ h => h) (by rfl) ?_ hHeld ?_ ?_ ?_
   rotate_left
   ·intro w' hw'; have s0 : w'.cell? ⟨BC, 10, none⟩ = some (.int .i64 c.at_) := hw'.cell 0 10 rfl rfl; go_simp; with_reducible rfl
   rotate_left
   ·simp only [Act.put, sqA, sqB, sqC, i64_w, i32_w]; rfl
   refine pu 5 26 (bits 17 511) ?_ rfl rfl (by kernel_rfl) (fun _ _ _ h => h) (by rfl) ?_ ?_ ?_ ?_
   rotate_left
   ·intro w'; go_simp; with_reducible rfl
   rotate_left
   ·simp only [Act.put, sqA, sqB, sqC, i64_w, i32_w]; rfl
   refine tk 9 30 (bits 17 1023) ?_ rfl rfl (by kernel_rfl) (fun _ _ _ h => h) (by rfl) ?_ hHeld ?_ ?_ ?_
   rotate_left
   ·intro w' hw'; have s0 : w'.cell? ⟨BC, 0, none⟩ = some (.pointer (some ⟨BA, 0, none⟩)) := hw'.cell 0 0 rfl rfl; go_simp; with_reducible rfl
   rotate_left
   ·simp only [Act.put, sqA, sqB, sqC, i64_w, i32_w]; rfl
   refine pu 10 31 (bits 17 2047) ?_ rfl rfl (by kernel_rfl) (fun _ _ _ h => h) (by rfl) ?_ ?_ ?_ ?_
   rotate_left
   ·intro w'; go_simp; with_reducible rfl
   rotate_left
   ·simp only [Act.put, sqA, sqB, sqC, i64_w, i32_w]; rfl
   refine pu 11 32 (bits 17 4095) ?_ rfl rfl (by kernel_rfl) (fun _ _ _ h => h) (by rfl) ?_ ?_ ?_ ?_
   rotate_left
   ·intro w'; go_simp; with_reducible rfl
   rotate_left
   ·simp only [Act.put, sqA, sqB, sqC, i64_w, i32_w]; rfl
   refine tk 12 33 (bits 17 8191) ?_ rfl rfl (by kernel_rfl) (fun _ _ _ h => h) (by rfl) ?_ hHeld ?_ ?_ ?_
   rotate_left
   ·intro w' hw'; have s0 : w'.cell? ⟨BA, 1, none⟩ = some (.int .i64 a.nodes) := hw'.cell 1 1 rfl rfl; go_simp; with_reducible rfl
   rotate_left
   ·simp only [Act.put, sqA, sqB, sqC, i64_w, i32_w]; rfl
   refine pu 13 34 (bits 17 16383) ?_ rfl rfl (by kernel_rfl) (fun _ _ _ h => h) (by rfl) ?_ ?_ ?_ ?_
   rotate_left
   ·intro w'; go_simp; with_reducible rfl
   rotate_left
   ·simp only [Act.put, sqA, sqB, sqC, i64_w, i32_w]; rfl
   refine pu 14 35 (bits 17 32767) ?_ rfl rfl (by kernel_rfl) (fun _ _ _ h => h) (by rfl) ?_ ?_ ?_ ?_
   rotate_left
   ·intro w'; go_simp; with_reducible rfl
   rotate_left
   ·simp only [Act.put, sqA, sqB, sqC, i64_w, i32_w]; rfl
   refine pu 15 36 (bits 17 65535) ?_ rfl rfl (by kernel_rfl) (fun _ _ _ h => h) (by rfl) ?_ ?_ ?_ ?_
   rotate_left
   ·intro w'; go_simp; with_reducible rfl
   rotate_left
   ·simp only [Act.put, sqA, sqB, sqC, i64_w, i32_w]; rfl
   refine last_ (i := 16) (N := none) (bits 17 131071) rfl rfl (by kernel_rfl) (by decide) (fun K hK => ?_)
   refine st_store_step (by rfl) rfl 3 _ _ rfl rfl rfl (seg := [(.int .i64 ((c.at_ + 1).tmod a.nodes))]) rfl (by kernel_rfl) (by rfl) S9.out 0 rfl (Nat.le_of_ble_eq_true rfl) ?_
   intro w10 h_ hu_
   have S11 : Aside0 (St w0 w10 (Blk BC (cliA BA { c with at_ := ((c.at_ + 1).tmod a.nodes) } v1 v2 v3 v4) 91 :: Blk BA (askA a bl) 97 :: MapT bl q a.lead :: Row k106 106 v1 c.call.entries :: Row k108 108 v2 c.pieces :: Row (Kd.int .i64) 3 v3 c.sweep :: Row k42 42 v4 c.out :: L)) := Aside0.mk h_
   clear h_ hu_
   refine hK.out _ _ ?_
   clear hK K
   refine done_ (by kernel_rfl) ?_
   clear hHeld
   go_upto_region 6 with (fail)
   have c12 : w10.cell? ⟨BC, 0, none⟩ = some (.pointer (some ⟨BA, 0, none⟩)) := S11.out.cell 0 0 rfl rfl
   have c13 : w10.cell? ⟨BA, 0, none⟩ = some (.int .i64 a.id) := S11.out.cell 1 0 rfl rfl
   go_wp2_with (first | ((with_reducible refine gate_dst (N := 47) rfl ?_); (try simp only [hw1, hng]); refine st_lit ?hg (N := 47) ?hd #[(.int .i64 4), (.int .i64 (-a.id)), (.int .i64 c.at_), (.int .i64 0), (.int .i64 0), (.int .i64 0), (.int .i64 0), (.int .i64 0), (.int .i64 0), (.int .i64 0), (.slice none 0 0), (.slice none 0 0), (.int .i64 0), (.int .i64 0), (.int .i64 0), (.int .i64 0), (.int .i64 0), (.string (⟨#[]⟩ : ByteArray)), (.string (⟨#[]⟩ : ByteArray)), (.string (⟨#[]⟩ : ByteArray)), (.string (⟨#[]⟩ : ByteArray)), (.int .i64 0), (.int .i64 0), (.int .i64 0), (.string (⟨#[]⟩ : ByteArray)), (.int .i64 0), (.int .i64 0), (.int .i64 0), (.int .i64 0), (.int .i64 0), (.slice none 0 0), (.int .i64 0), (.int .i64 0), (.int .i64 0), (.slice none 0 0), (.slice none 0 0), (.slice none 0 0), (.int .i64 0), (.slice none 0 0), (.slice none 0 0)] 47 1 ?hr S11.out ?_; (case hd => rfl); (case hg => rfl); (case hr => first | (go_simp; done) | (go_simp; rfl) | (go_simp; exact ⟨rfl, rfl⟩)); intro g14 w15 hg_ h_ hb_; clear c12 c13; have S16 := Aside0.mk h_; have BS16 := Aside0.mk hb_; have GS16 := Aside0.mk hg_; clear h_ hb_ hg_))
   try go_ret
   have S99 := Aside0.mk (S16.out.mono0 (fun S hS => blkRow (d := k47) (x := mapPk a.id c.at_) hS (k47_mkM _ _ _ (mapPk a.id c.at_) (Kd.R_nil _ _ _ _ _) (Kd.R_nil _ _ _ _ _) (Kd.R_nil _ _ _ _ _) (Kd.R_nil _ _ _ _ _) (Kd.R_nil _ _ _ _ _) (Kd.R_nil _ _ _ _ _) (Kd.R_nil _ _ _ _ _) (Kd.R_nil _ _ _ _ _)) rfl))
   have HV := Aside0.mk (show cliTickV a c a' c' = (a, { c with at_ := (c.at_ + 1).tmod a.nodes }, [mapPk a.id c.at_]) by unfold cliTickV; rw [if_pos q1, if_pos q5])
   refine HPOST.out _ _ ?_
   unfold TickT
   rw [HV.out]
   exact ⟨_, _, _, rfl, ((((((((((S99.out).bring 0 rfl).bring 7 rfl).bring 7 rfl).bring 7 rfl).bring 7 rfl).bring 7 rfl).bring 7 rfl).bring 7 rfl)).mono2 (fun S => MapT_mono (by omega))⟩
  ·have Xq5 := Aside0.mk q5
   go_upto_region 3 with (first | (go_at_call 35; (try simp only [hw1, hng]); (with_reducible refine (cliNobody _ 0 BC BA bl q a c v1 v2 v3 v4 (cli_in (L := L) (H.out)) HI.out).mono ?_); rintro e1 w3 ⟨rfl, hw_⟩; have S2 := Aside0.mk (H.out.same hw_); clear hw_; have c4 : w3.cell? ⟨BC, 7, none⟩ = some (.bool true) := (show w3.cell? ⟨BC, 7, none⟩ = some (.bool c.works) from S2.out.cell 0 7 rfl rfl).trans (by rw [q1])))
   clear c4
   have c17 : w3.cell? ⟨BC, 9, none⟩ = some (.bool false) := (show w3.cell? ⟨BC, 9, none⟩ = some (.bool c.wants) from S2.out.cell 0 9 rfl rfl).trans (by rw [q5])
   rcases Bool.eq_false_or_eq_true a.busy with q18 | q18
   ·have Xq18 := Aside0.mk q18
    go_upto_region 7 with (fail)
    clear c17
    have c19 : w3.cell? ⟨BC, 0, none⟩ = some (.pointer (some ⟨BA, 0, none⟩)) := S2.out.cell 0 0 rfl rfl
    have c20 : w3.cell? ⟨BA, 24, none⟩ = some (.bool true) := (show w3.cell? ⟨BA, 24, none⟩ = some (.bool a.busy) from S2.out.cell 1 24 rfl rfl).trans (by rw [q18])
    go_upto_region 9 with (fail)
    clear c19 c20
    have c21 : w3.cell? ⟨BC, 0, none⟩ = some (.pointer (some ⟨BA, 0, none⟩)) := S2.out.cell 0 0 rfl rfl
    go_wp2_with (first | (go_at_call 22; (try simp only [hw1, hng]); (with_reducible refine (askTickT w0 _ (Blk BC (cliA BA c v1 v2 v3 v4) 91 :: Row k106 106 v1 c.call.entries :: Row k108 108 v2 c.pieces :: Row (Kd.int .i64) 3 v3 c.sweep :: Row k42 42 v4 c.out :: L) BA bl q a ((((((((S2.out).bring 6 rfl).bring 6 rfl).bring 6 rfl).bring 6 rfl).bring 4 rfl).bring 6 rfl).bring 6 rfl) HK.out).mono ?_); rintro e1 w23 ⟨vk, rfl, h_⟩; clear c21; obtain ⟨Ak, nk, rfl, _, _⟩ := h_.row 2 rfl; have S22 := Aside0.mk h_; clear h_))
    try go_ret
    have HV := Aside0.mk (show cliTickV a c a' c' = ((tickV a).1, c, (tickV a).2) by unfold cliTickV; rw [if_pos q1, if_neg (by rw [q5]; decide), if_pos q18])
    refine HPOST.out _ _ ?_
    unfold TickT
    rw [HV.out]
    exact ⟨_, _, _, rfl, ((((((((((S22.out).bring 2 rfl).bring 7 rfl).bring 7 rfl).bring 7 rfl).bring 7 rfl).bring 6 rfl).bring 6 rfl).bring 7 rfl)).mono2 (fun S => MapT_mono (by omega))⟩
   ·have Xq18 := Aside0.mk q18
    go_upto_region 7 with (fail)
    clear c17
    have c24 : w3.cell? ⟨BC, 0, none⟩ = some (.pointer (some ⟨BA, 0, none⟩)) := S2.out.cell 0 0 rfl rfl
    have c25 : w3.cell? ⟨BA, 24, none⟩ = some (.bool false) := (show w3.cell? ⟨BA, 24, none⟩ = some (.bool a.busy) from S2.out.cell 1 24 rfl rfl).trans (by rw [q18])
    go_upto_region 8 with (fail)
    clear c24 c25
    go_upto_region 9 with (first | (go_at_call 36; (try simp only [hw1, hng]); (refine (HN.out q1 q5 q18 _ S2.out).mono ?_); rintro e1 w27 ⟨rfl, vN, h_⟩; have S26 := Aside0.mk h_; clear h_))
    have c28 : w27.cell? ⟨BC, 0, none⟩ = some (.pointer (some ⟨BA, 0, none⟩)) := S26.out.cell 0 0 rfl rfl
    go_wp2_with (first | (go_at_call 22; (try simp only [hw1, hng]); (with_reducible refine (askTickT w0 _ (Blk BC (cliA BA c' v1 v2 vN v4) 91 :: Row k106 106 v1 c'.call.entries :: Row k108 108 v2 c'.pieces :: Row (Kd.int .i64) 3 vN c'.sweep :: Row k42 42 v4 c'.out :: L) BA bl (q + 1) a' ((((((((S26.out).bring 6 rfl).bring 6 rfl).bring 6 rfl).bring 6 rfl).bring 4 rfl).bring 6 rfl).bring 6 rfl) HK2.out).mono ?_); rintro e1 w30 ⟨vk, rfl, h_⟩; clear c28; obtain ⟨Ak, nk, rfl, _, _⟩ := h_.row 2 rfl; have S29 := Aside0.mk h_; clear h_))
    try go_ret
    have HV := Aside0.mk (show cliTickV a c a' c' = ((tickV a').1, c', (tickV a').2) by unfold cliTickV; rw [if_pos q1, if_neg (by rw [q5]; decide), if_neg (by rw [q18]; decide)])
    refine HPOST.out _ _ ?_
    unfold TickT
    rw [HV.out]
    exact ⟨_, _, _, rfl, ((((((((((S29.out).bring 2 rfl).bring 7 rfl).bring 7 rfl).bring 7 rfl).bring 7 rfl).bring 6 rfl).bring 6 rfl).bring 7 rfl)).mono2 (fun S => MapT_mono (by omega))⟩
 ·have Xq1 := Aside0.mk q1
  go_upto_region 1 with (fail)
  go_upto_region 2 with (first | (go_at_call 35; (try simp only [hw1, hng]); (with_reducible refine (cliNobody _ 0 BC BA bl q a c v1 v2 v3 v4 (cli_in (L := L) (H.out)) HI.out).mono ?_); rintro e1 w32 ⟨rfl, hw_⟩; have S31 := Aside0.mk (H.out.same hw_); clear hw_; have c33 : w32.cell? ⟨BC, 7, none⟩ = some (.bool false) := (show w32.cell? ⟨BC, 7, none⟩ = some (.bool c.works) from S31.out.cell 0 7 rfl rfl).trans (by rw [q1])))
  clear c33
  go_wp2_with (fail)
  try go_ret
  have S99 := Aside0.mk (S31.out.nilRow k47 47)
  have HV := Aside0.mk (show cliTickV a c a' c' = (a, c, []) by unfold cliTickV; rw [if_neg (by rw [q1]; decide)])
  refine HPOST.out _ _ ?_
  unfold TickT
  rw [HV.out]
  exact ⟨_, _, _, rfl, ((((((((((S99.out).bring 0 rfl).bring 7 rfl).bring 7 rfl).bring 7 rfl).bring 7 rfl).bring 7 rfl).bring 7 rfl).bring 7 rfl)).mono2 (fun S => MapT_mono (by omega))⟩
end Go.Proofs.Ytonedijkgddepaa.P
