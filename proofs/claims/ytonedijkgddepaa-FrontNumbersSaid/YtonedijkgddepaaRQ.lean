/- The law FrontNumbers, by hand: it returns true. No conditions. -/
import Derived.Test.YtonedijkgddepaaSq
import Derived.Test.YtonedijkgddepaaHOp
import Derived.Test.YtonedijkgddepaaWFoot
namespace Go.Proofs.Ytonedijkgddepaa.P
open Go.Sq
open Go.RowKit Go.Maps Go.Proofs.YtonedijkgddepaaW.PrintWords Go.Proofs.YtonedijkgddepaaW.PrintLast Go.Proofs.YtonedijkgddepaaW.PrintMore
set_option linter.unusedVariables false
set_option linter.unusedSimpArgs false

theorem nheap33 : Kd.Heap k33 := Kd.heap_iso _ (Kd.heap_pair (Kd.heap_int _) (Kd.heap_pair Kd.heap_string (Kd.heap_pair (Kd.heap_int _) (Kd.heap_int _))))
theorem nheap35 : Kd.Heap k35 := Kd.heap_iso _ (Kd.heap_pair (Kd.heap_int _) (Kd.heap_int _))
theorem nheap108 : Kd.Heap k108 := Kd.heap_iso _ (Kd.heap_pair nheap35 (Kd.heap_int _))
theorem nheap115 : Kd.Heap k115 := Kd.heap_iso _ (Kd.heap_pair nheap33 (Kd.heap_pair Kd.heap_string (Kd.heap_int _)))
theorem nheap106 : Kd.Heap k106 := Kd.heap_iso _ (Kd.heap_pair Kd.heap_string (Kd.heap_pair Kd.heap_string (Kd.heap_pair Kd.heap_string nheap33)))
theorem Mem.oldN {w w0 : World} {L : List Thing} (h : Mem w L) (n : Nat) (hx : L[n]? = some (Old w0)) : ∀ k, k < w0.heap.size → w.heap[k]? = w0.heap[k]? := by
 obtain ⟨S, hs⟩ := h
 obtain ⟨_, _, h1, _⟩ := hs.perm (perm_bring L n _ hx)
 exact h1.2.2
def own0 (p : S47) : S47 := { p with f2 := -3 }
def own1 (p : S47) (g : Int) : S47 := { p with f2 := -3, f3 := g }
def own2 (p : S47) (g : Int) : S47 := { p with f2 := -3, f3 := g, f5 := { p.f5 with f1 := 3 } }
def own3 (p : S47) (g l : Int) : S47 := { p with f2 := -3, f3 := g, f5 := { p.f5 with f1 := 3, f2 := l } }
def callOf (y : S50) : Ca := ⟨y.f0, y.f1, y.f2, y.f3, y.f4, y.f5.take 12⟩
theorem nodes_ok (n : Int) : confOk 3 (1 + (n.tmod 5 + 5).tmod 5) 2 := by
 have h1 := Int.tmod_lt_of_pos n (show (0 : Int) < 5 by decide)
 have h2 := Int.lt_tmod_of_pos n (show (0 : Int) < 5 by decide)
 have h3 := Int.tmod_nonneg (a := n.tmod 5 + 5) 5 (by omega)
 have h4 := Int.tmod_lt_of_pos (n.tmod 5 + 5) (show (0 : Int) < 5 by decide)
 unfold confOk
 omega
theorem fewer_f (y : S50) (hl : y.f5.length ≤ 2000000000000) : racewaylaw18_fewer.f y.f0 y.f1 y.f2 y.f3 y.f4 y.f5 = some (y.f0, y.f1, y.f2, y.f3, y.f4, y.f5.take 12) := by
 unfold racewaylaw18_fewer.f
 have h0 : 0 ≤ mn (y.f5.length : Int) 12 := by unfold mn; split <;> omega
 have h1 : mn (y.f5.length : Int) 12 ≤ (y.f5.length : Int) := by unfold mn; split <;> omega
 have h2 : y.f5.take (mn (y.f5.length : Int) 12).toNat = y.f5.take 12 := by
  unfold mn
  split
  ·rfl
  ·rw [Int.toNat_natCast, List.take_of_length_le (Nat.le_refl _), List.take_of_length_le (by omega)]
 simp only [Option.bind_some, if_pos h0, if_pos h1, h2]
 rw [if_pos (by rw [List.length_nil, List.length_take]; omega)]
 rfl
theorem wpl_ {P : Program} {ops : Array Oper} {rest : List Oper} {a : Act} {Q : Exit → Act → World → Prop} {W : World} (h : wpList P ops Q rest a W) : wpList P ops Q rest a W := h
structure PkN (P : S47) : Prop where
 f4 : P.f6.f4 = []
 l3 : P.f6.f3.length ≤ 12
 l5 : P.f6.f5.length ≤ 12
 l7 : P.f7.f1.length ≤ 20
theorem few_lens (p : S47) : (fewV p).f6.f3.length ≤ 12 ∧ (fewV p).f6.f5.length ≤ 12 ∧ (fewV p).f7.f1.length ≤ 20 := by
 unfold fewV
 simp only [List.length_take]
 omega
theorem pkn (p : S47) : PkN (fewV p) := ⟨rfl, (few_lens p).1, (few_lens p).2.1, (few_lens p).2.2⟩
theorem pkn0 {p : S47} (h : PkN p) : PkN (own0 p) := ⟨h.f4, h.l3, h.l5, h.l7⟩
theorem pkn3 {p : S47} (h : PkN p) (g l : Int) : PkN (own3 p g l) := ⟨h.f4, h.l3, h.l5, h.l7⟩
/-- An act of a row that came in, its entries too. -/
theorem act_at5 {w : World} {A : Option Addr} {n : Nat} {xs : List S52} (h : Kd.C k52 w A n xs) (i : Nat) (h1 : i < n) : ∃ (ad : Addr) (A10 : Option Addr) (c10 : Nat) (A11 : Option Addr) (c11 : Nat) (A30 : Option Addr) (c30 : Nat) (A34 : Option Addr) (c34 : Nat) (A35 : Option Addr) (c35 : Nat) (A36 : Option Addr) (c36 : Nat) (A38 : Option Addr) (c38 : Nat) (A39 : Option Addr) (c39 : Nat) (A47 : Option Addr) (c47 : Nat), A = some ad ∧
  (∀ j v, (actL (xs.getD i z52) A10 c10 A11 c11 A30 c30 A34 c34 A35 c35 A36 c36 A38 c38 A39 c39 A47 c47)[j]? = some v → w.cell? ((ad.add (i * 48)).add j) = some v) ∧ ((xs.getD i z52).f2.f6.f3.length ≤ c34 ∧ k115.C w A34 (xs.getD i z52).f2.f6.f3.length (xs.getD i z52).f2.f6.f3 ∧ (xs.getD i z52).f2.f6.f5.length ≤ c36 ∧ k35.C w A36 (xs.getD i z52).f2.f6.f5.length (xs.getD i z52).f2.f6.f5 ∧ (xs.getD i z52).f2.f7.f1.length ≤ c38 ∧ k108.C w A38 (xs.getD i z52).f2.f7.f1.length (xs.getD i z52).f2.f7.f1) ∧ (xs.getD i z52).f3.f5.length ≤ c47 ∧ k106.C w A47 (xs.getD i z52).f3.f5.length (xs.getD i z52).f3.f5 := by
 obtain ⟨ad, c, e, _, hK, hc0⟩ := Kd.C_get h z52 (i : Int) (by omega) (by omega)
 rw [Int.toNat_natCast] at hK hc0
 obtain ⟨_, _, rfl, rfl, ⟨_, _, rfl, rfl, ⟨_, _, rfl, h2, h3⟩⟩⟩ := hK
 obtain ⟨A10, c10, A11, c11, A30, c30, A34, c34, A35, c35, A36, c36, A38, c38, A39, c39, rfl, l10, g10, l11, g11, l30, g30, l34, g34, l35, g35, l36, g36, l38, g38, l39, g39⟩ := k47_open h2
 obtain ⟨A5, c5, rfl, l5, g5⟩ := k50_open h3
 refine ⟨ad, A10, c10, A11, c11, A30, c30, A34, c34, A35, c35, A36, c36, A38, c38, A39, c39, A5, c5, e, fun j v hv => ?_, ⟨l34, g34, l36, g36, l38, g38⟩, l5, g5⟩
 have hc : ∀ j u, _ → w.cell? (ad.add (i * 48 + j)) = some u := hc0
 have e2 : (ad.add (i * 48)).add j = ad.add (i * 48 + j) := by
  rcases Nat.eq_zero_or_pos j with h0 | h0
  ·subst h0
   simp [Addr.add]
  ·have h3 : ¬ j = 0 := by omega
   have h4 : ¬ i * 48 + j = 0 := by omega
   unfold Addr.add
   rw [if_neg h3, if_neg h4]
   rcases Nat.eq_zero_or_pos i with h5 | h5
   ·subst h5
    simp
   ·have h6 : ¬ i * 48 = 0 := by omega
    rw [if_neg h6, Nat.add_assoc]
 rw [e2]
 exact hc j v hv
structure NInv (w w' : World) (BC BA bl gm i : Nat) (last : Int) (a : As) (c : Cl) (q qm : Nat) (M : List (Int × S38)) : Prop where
 inv : CInv a c q i
 num : NumI a M last
 id3 : a.id = 3
 q1 : q ≤ 2 * i
 m1 : qm ≤ i
/-- What holds at a round's start. -/
def StN (w w' : World) (BC BA bl gm i : Nat) (last : Int) : Prop := ∃ a c q qm M v1 v2 v3 v4, NInv w w' BC BA bl gm i last a c q qm M ∧ St w w' (cliT BC BA bl q a c v1 v2 v3 v4 ++ [MapV CmdP zCmd gm qm M, Old w])
theorem fewerC (w0 w : World) (L : List Thing) (h : St w0 w L) (y : S50) (A : Option Addr) (n : Nat) (hr : Kd.C k106 w A y.f5.length y.f5) (hn : y.f5.length ≤ n) (hl : y.f5.length ≤ 2000000000000) :
  Calls Try.prog 13 #[.agg #[.int .i64 y.f0, .int .i64 y.f1, .int .i64 y.f2, .int .i64 y.f3, .string y.f4, .slice A y.f5.length n]] w fun e' w' => ∃ A' n', e' = .returned (.agg (callA (callOf y) (.slice A' (callOf y).entries.length n'))) ∧ St w0 w' (Row k106 106 (.slice A' (callOf y).entries.length n') (callOf y).entries :: L) :=
 (racewaylaw18_fewer.calls y.f0 y.f1 y.f2 y.f3 y.f4 A n y.f5 _ _ _ _ _ _ w hr hn (fewer_f y hl)).mono (fun e' w' hp => by
  obtain ⟨v, rfl, hR, hb⟩ := hp
  obtain ⟨A', n', rfl⟩ := Kd.R_slice hR
  exact ⟨A', n', rfl, h.newRow hb hR⟩)
theorem startC {a : As} {c : Cl} {q k : Nat} (hI : CInv a c q k) (w0 w : World) (L : List Thing) (BC BA bl : Nat) (v1 v2 v3 v4 : Value) (h : St w0 w (cliT BC BA bl q a c v1 v2 v3 v4 ++ L)) (x : Ca) (A : Option Addr) (n : Nat) (hn : x.entries.length ≤ n) (hr : ∀ W, Mem W L → Kd.C k106 W A x.entries.length x.entries) (hl : x.entries.length ≤ 12) :
  Calls Try.prog 12 #[.pointer (some ⟨BC, 0, none⟩), .agg (callA x (.slice A x.entries.length n))] w fun e' w' => ∃ v1 v3 v4, e' = .returned (.int .i64 (startV c x).1) ∧ St w0 w' (cliT BC BA bl q a (startV c x).2 v1 v2 v3 v4 ++ L) :=
 cliStartT w0 w L BC BA bl q a c v1 v2 v3 v4 h (by have := hI.ok.id1; omega) x A n hn hr (by omega)
theorem call_ok {x : S52} (h : G52 x) : ∀ y ∈ (callOf x.f3).entries, entOk y := by
 intro y hy
 have h1 := h.2.2.2.2.2.2.2.2.2.2 y (List.mem_of_mem_take hy)
 exact ⟨h1.1, h1.2.2.2.2.1⟩
theorem call_len (y : S50) : (callOf y).entries.length ≤ 12 := by
 show (y.f5.take 12).length ≤ 12
 rw [List.length_take]; omega
theorem getD_mem (l : List S52) (i : Nat) (h : i < l.length) : l.getD i z52 ∈ l := by
 rw [List.getD_eq_getElem?_getD, List.getElem?_eq_getElem h]
 exact List.getElem_mem h
theorem G52_len {x : S52} (h : G52 x) : x.f3.f5.length ≤ 2000000000000 := by
 have h1 := h.2.2.2.2.2.2.2.2.1
 have h2 : Try.prog.bytesOf 106 = 88 := by kernel_rfl
 rw [h2] at h1
 omega
set_option maxHeartbeats 40000000 in
set_option maxRecDepth 100000 in
theorem frontNumbers.calls (w : World) (nodes : Int) (A1 : Option Addr) (n1 : Nat) (acts : List S52) (hr : Kd.C k52 w A1 acts.length acts) (hG : ∀ x ∈ acts, G52 x) :
  Calls Try.prog 3 #[.int .i64 nodes, .slice A1 acts.length n1] w fun e' w' => e' = .returned (.bool true) ∧ Below w.heap.size w w' := by
 have H := Aside0.mk (St.start w)
 have HR := Aside0.mk hr
 have HGA := Aside0.mk hG
 have hw1_ : wrap64 (nodes.tmod 5 + 5) = nodes.tmod 5 + 5 := by have h1 := Int.tmod_lt_of_pos nodes (show (0 : Int) < 5 by decide); have h2 := Int.lt_tmod_of_pos nodes (show (0 : Int) < 5 by decide); unfold wrap64; omega
 have hw2_ : wrap64 (1 + (nodes.tmod 5 + 5).tmod 5) = 1 + (nodes.tmod 5 + 5).tmod 5 := by have := nodes_ok nodes; unfold confOk at this; unfold wrap64; omega
 obtain ⟨N0, hN0⟩ : ∃ N0, 1 + (nodes.tmod 5 + 5).tmod 5 = N0 := ⟨_, rfl⟩
 have HC := Aside0.mk (show confOk 3 N0 2 from hN0 ▸ nodes_ok nodes)
 rw [hN0] at hw2_
 clear hr hG
 refine calls_hide fun R HPOST => ?_
 go_enter Try.func3, Try.ntmps3
 go_upto_region 0 with (fail)
 go_upto_region 1 with (fail)
 go_upto_region 2 with (first | (go_at_call 7; (try simp only [hwl, hn1_, hn2_]); (refine (newClientOk w _ _ H.out 3 N0 2 HC.out).mono ?_); rintro e1 w2 ⟨BC, BA, bl, rfl, h_⟩; have S1 := Aside0.mk h_; clear h_))
 go_upto_region 4 with (fail)
 go_upto_region 5 with (first | ((with_reducible refine wpl_ ?_); (refine gate_dst (N := 31) rfl ?_); refine st_makemap CmdP zCmd rfl 27 rfl S1.out ?_; intro gm w4 h_; have S3 := Aside0.mk h_; clear h_))
 go_upto_region 6 with (fail)
 go_wp2_with (fail)
 go_loopg [8, 9] 80 (fun kq v8 v9 w' => ∃ (i : Nat) (last : Int), v9 = .int .i64 i ∧ v8 = .int .i64 last ∧ i ≤ 80 ∧ 80 - i ≤ kq ∧ Aside0 (StN w w' BC BA bl gm i last))
 case atStart => exact ⟨0, 0, rfl, rfl, by omega, by omega, ⟨_, _, 0, 0, [], _, _, _, _, ⟨new_inv HC.out, ⟨rfl, Int.le_refl _, fun x hx => (by cases hx), fun h => absurd h (by decide), fun h => (by cases h), fun x hx => (by cases hx)⟩, rfl, Nat.le_refl _, Nat.le_refl _⟩, (((((((((S3.out).bring 0 rfl).bring 7 rfl).bring 7 rfl).bring 7 rfl).bring 7 rfl).bring 7 rfl).bring 7 rfl).bring 7 rfl)⟩⟩
 case round =>
  obtain ⟨i, last, rfl, rfl, hi, hg, HS⟩ := hrel
  obtain ⟨a, c, q, qm, M, v1, v2, v3, v4, hN, h_⟩ := HS.out
  have HI := Aside0.mk hN.inv
  have HN := Aside0.mk hN.num
  have HID := Aside0.mk hN.id3
  have HQ := Aside0.mk (show q + 1 < 100000 ∧ q + 2 < 100000 ∧ qm < 100000 ∧ i < 10000 by have := hN.q1; have := hN.m1; omega)
  have HQI := Aside0.mk (And.intro hN.q1 hN.m1)
  have SI := Aside0.mk h_
  clear hN h_ HS
  rcases Decidable.em ((i : Int) < (acts.length : Int)) with q5 | q5
  ·have t8 : decide (i < acts.length) = true := decide_eq_true (by omega)
   have t6 : decide ((i : Int) < (acts.length : Int)) = true := decide_eq_true q5
   have Xq5 := Aside0.mk q5
   clear q5
   rcases Decidable.em ((i : Int) < 80) with q9 | q9
   ·have t12 : decide (i < 80) = true := decide_eq_true (by omega)
    have t10 : decide ((i : Int) < 80) = true := decide_eq_true q9
    have Xq9 := Aside0.mk q9
    clear q9
    go_upto_region 7 with (fail)
    go_upto_region 9 with (fail)
    have HLT := Aside0.mk (show i < acts.length ∧ i < 80 by have h1 := Xq5.out; have h2 := Xq9.out; omega)
    have HG := Aside0.mk (HGA.out _ (getD_mem acts i HLT.out.1))
    obtain ⟨ad, A10, c10, A11, c11, A30, c30, A34, c34, A35, c35, A36, c36, A38, c38, A39, c39, A47, c47, e0, hy, hx1, hx5⟩ := act_at5 HR.out i HLT.out.1
    cases e0
    generalize acts.getD i z52 = x at hy hx1 hx5 HG
    have HX := Aside0.mk hx1
    have HC5 := Aside0.mk (And.intro hx5.1 (And.intro hx5.2 (show x.f3.f5.length ≤ 2000000000000 from G52_len HG.out)))
    have HY := Aside0.mk (fun j v hv => pw_cell_below (SI.out.toBelow 8 rfl) (hy j v hv))
    clear hy hx1 hx5
    go_upto_region 10 with (first | ((with_reducible refine wpl_ ?_); (refine gate_dst (N := 44) rfl ?_); refine index_at rfl 22 _ _ rfl rfl rfl (by omega) (by have := HLT.out.1; omega) Try.underlying22 (sz := 48) (by kernel_rfl) ?_; rw [Int.toNat_natCast]) | ((with_reducible refine wpl_ ?_); (refine gate_ (.load 52 (.tmp 44)) rfl ?_); refine load_at rfl 52 _ rfl _ rfl (actL x A10 c10 A11 c11 A30 c30 A34 c34 A35 c35 A36 c36 A38 c38 A39 c39 A47 c47) HY.out Try.underlying52 rfl (by kernel_rfl) ?_) | ((with_reducible refine wpl_ ?_); (refine gate_dst (N := 10) rfl ?_); (try simp only [hwl, hn1_, hn2_]); refine st_box ?hg (N := 10) ?hd (actL z52 none 0 none 0 none 0 none 0 none 0 none 0 none 0 none 0 none 0).toArray 52 ?hr SI.out ?_; (case hd => rfl); (case hg => rfl); (case hr => first | (go_simp; done) | (go_simp; rfl)); intro g13 w14 hg_ h_ hb_; have S15 := Aside0.mk h_; have BS15 := Aside0.mk hb_; have GS15 := Aside0.mk hg_; clear h_ hb_ hg_) | ((with_reducible refine wpl_ ?_); (refine gate_ (.store 52 (.tmp 10) (.tmp 45)) rfl ?_); (try simp only [hwl, hn1_, hn2_]); refine st_store rfl rfl 52 _ _ rfl rfl rfl (seg := (actL x A10 c10 A11 c11 A30 c30 A34 c34 A35 c35 A36 c36 A38 c38 A39 c39 A47 c47)) rfl (by kernel_rfl) (by rfl) S15.out 0 rfl (Nat.le_of_ble_eq_true rfl) ?_; intro w16 h_; have S17 : Aside0 (St w w16 (Blk g13 (actL x A10 c10 A11 c11 A30 c30 A34 c34 A35 c35 A36 c36 A38 c38 A39 c39 A47 c47).toArray 52 :: Blk BC (cliA BA c v1 v2 v3 v4) 91 :: Blk BA (askA a bl) 97 :: MapT bl (q) (a).lead :: Row k106 106 v1 (c).call.entries :: Row k108 108 v2 (c).pieces :: Row (Kd.int .i64) 3 v3 (c).sweep :: Row k42 42 v4 (c).out :: MapV CmdP zCmd gm (qm) M :: [Old w])) := Aside0.mk h_; clear h_))
    go_upto_region 11 with (first | ((with_reducible refine wpl_ ?_); (refine gate_ (.load 47 (.tmp 46)) rfl ?_); refine st_load rfl 47 _ rfl rfl S17.out 0 rfl [(.int .i64 x.f2.f0), (.int .i64 x.f2.f1), (.int .i64 x.f2.f2), (.int .i64 x.f2.f3), (.int .i64 x.f2.f4.f0), (.int .i64 x.f2.f4.f1), (.int .i64 x.f2.f4.f2), (.int .i64 x.f2.f4.f3), (.int .i64 x.f2.f4.f4), (.int .i64 x.f2.f4.f5), (.slice A10 x.f2.f4.f6.length c10), (.slice A11 x.f2.f4.f7.length c11), (.int .i64 x.f2.f5.f0), (.int .i64 x.f2.f5.f1), (.int .i64 x.f2.f5.f2), (.int .i64 x.f2.f5.f3), (.int .i64 x.f2.f5.f4), (.string x.f2.f5.f5), (.string x.f2.f5.f6), (.string x.f2.f5.f7), (.string x.f2.f5.f8), (.int .i64 x.f2.f5.f9), (.int .i64 x.f2.f5.f10), (.int .i64 x.f2.f5.f11.f0), (.string x.f2.f5.f11.f1), (.int .i64 x.f2.f5.f11.f2), (.int .i64 x.f2.f5.f11.f3), (.int .i64 x.f2.f5.f12.f0), (.int .i64 x.f2.f5.f12.f1), (.int .i64 x.f2.f5.f13), (.slice A30 x.f2.f5.f14.length c30), (.int .i64 x.f2.f6.f0), (.int .i64 x.f2.f6.f1), (.int .i64 x.f2.f6.f2), (.slice A34 x.f2.f6.f3.length c34), (.slice A35 x.f2.f6.f4.length c35), (.slice A36 x.f2.f6.f5.length c36), (.int .i64 x.f2.f7.f0), (.slice A38 x.f2.f7.f1.length c38), (.slice A39 x.f2.f8.length c39)] rfl Try.underlying47 rfl (by kernel_rfl) ?_) | (go_at_call 8; (try simp only [hwl, hn1_, hn2_]); (refine (fewT w _ _ S17.out x.f2 A10 A11 A30 A34 A35 A36 A38 A39 c10 c11 c30 c34 c35 c36 c38 c39 (fun W hW => ⟨nheap115.C (hW.oldN 9 rfl) HX.out.2.1, nheap35.C (hW.oldN 9 rfl) HX.out.2.2.2.1, nheap108.C (hW.oldN 9 rfl) HX.out.2.2.2.2.2⟩) HX.out.1 HX.out.2.2.1 HX.out.2.2.2.2.1).mono ?_); rintro e1 w19 ⟨A3, c3, A5, c5, A7, c7, rfl, h_⟩; have S18 := Aside0.mk h_; clear h_) | ((with_reducible refine wpl_ ?_); (refine gate_dst (N := 11) rfl ?_); (try simp only [hwl, hn1_, hn2_]); refine st_box ?hg (N := 11) ?hd (pkA z47 (.slice none 0 0) (.slice none 0 0) (.slice none 0 0) none 0 none 0 none 0 (.slice none 0 0)) 47 ?hr S18.out ?_; (case hd => rfl); (case hg => rfl); (case hr => first | (go_simp; done) | (go_simp; rfl)); intro g20 w21 hg_ h_ hb_; have S22 := Aside0.mk h_; have BS22 := Aside0.mk hb_; have GS22 := Aside0.mk hg_; clear h_ hb_ hg_) | ((with_reducible refine wpl_ ?_); (refine gate_ (.store 47 (.tmp 11) (.tmp 48)) rfl ?_); (try simp only [hwl, hn1_, hn2_]); refine st_store rfl rfl 47 _ _ rfl rfl rfl (seg := (pkA (fewV x.f2) (.slice none 0 0) (.slice none 0 0) (.slice none 0 0) A3 c3 A5 c5 A7 c7 (.slice A39 x.f2.f8.length c39)).toList) rfl (by kernel_rfl) (by rfl) S22.out 0 rfl (Nat.le_of_ble_eq_true rfl) ?_; intro w23 h_; have S24 : Aside0 (St w w23 (Blk g20 (pkA (fewV x.f2) (.slice none 0 0) (.slice none 0 0) (.slice none 0 0) A3 c3 A5 c5 A7 c7 (.slice A39 x.f2.f8.length c39)) 47 :: Row k115 115 (.slice A3 (fewV x.f2).f6.f3.length c3) (fewV x.f2).f6.f3 :: Row k35 35 (.slice A5 (fewV x.f2).f6.f5.length c5) (fewV x.f2).f6.f5 :: Row k108 108 (.slice A7 (fewV x.f2).f7.f1.length c7) (fewV x.f2).f7.f1 :: Blk g13 (actL x A10 c10 A11 c11 A30 c30 A34 c34 A35 c35 A36 c36 A38 c38 A39 c39 A47 c47).toArray 52 :: Blk BC (cliA BA c v1 v2 v3 v4) 91 :: Blk BA (askA a bl) 97 :: MapT bl (q) (a).lead :: Row k106 106 v1 (c).call.entries :: Row k108 108 v2 (c).pieces :: Row (Kd.int .i64) 3 v3 (c).sweep :: Row k42 42 v4 (c).out :: MapV CmdP zCmd gm (qm) M :: [Old w])) := Aside0.mk h_; clear h_))
    have cf_25 : w23.cell? ⟨g13, 1, none⟩ = some (.bool x.f1) := S24.out.cell 4 1 rfl rfl
    go_upto_if 50 with (fail)
    clear cf_25
    go_cut [11] (fun v11 w' => v11 = .pointer (some ⟨g20, 0, none⟩) ∧ ∃ P, PkN P ∧ Aside0 (St w w' (Blk g20 (pkA P (.slice none 0 0) (.slice none 0 0) (.slice none 0 0) A3 c3 A5 c5 A7 c7 (.slice A39 x.f2.f8.length c39)) 47 :: Row k115 115 (.slice A3 P.f6.f3.length c3) P.f6.f3 :: Row k35 35 (.slice A5 P.f6.f5.length c5) P.f6.f5 :: Row k108 108 (.slice A7 P.f7.f1.length c7) P.f7.f1 :: Blk g13 (actL x A10 c10 A11 c11 A30 c30 A34 c34 A35 c35 A36 c36 A38 c38 A39 c39 A47 c47).toArray 52 :: Blk BC (cliA BA c v1 v2 v3 v4) 91 :: Blk BA (askA a bl) 97 :: MapT bl (q) (a).lead :: Row k106 106 v1 (c).call.entries :: Row k108 108 v2 (c).pieces :: Row (Kd.int .i64) 3 v3 (c).sweep :: Row k42 42 v4 (c).out :: MapV CmdP zCmd gm (qm) M :: [Old w])))
    case first =>
     rcases Bool.eq_false_or_eq_true x.f1 with q26 | q26
     ·have Xq26 := Aside0.mk q26
      rw [q26]
      go_upto_region 12 with (fail)
      rcases Decidable.em (0 < last) with q29 | q29
      ·have t30 : decide (0 < last) = true := decide_eq_true q29
       have Xq29 := Aside0.mk q29
       clear q29
       go_upto_region 13 with (first | ((with_reducible refine wpl_ ?_); (refine gate_ (.store 3 (.tmp 51) (.const (.int .i64 (-3)))) rfl ?_); (try simp only [hwl, hn1_, hn2_]); refine st_store rfl rfl 3 _ _ rfl rfl rfl (seg := [(.int .i64 (-3))]) rfl (by kernel_rfl) (by rfl) S24.out 0 rfl (Nat.le_of_ble_eq_true rfl) ?_; intro w27 h_; have S28 : Aside0 (St w w27 (Blk g20 (pkA (own0 (fewV x.f2)) (.slice none 0 0) (.slice none 0 0) (.slice none 0 0) A3 c3 A5 c5 A7 c7 (.slice A39 x.f2.f8.length c39)) 47 :: Row k115 115 (.slice A3 (fewV x.f2).f6.f3.length c3) (fewV x.f2).f6.f3 :: Row k35 35 (.slice A5 (fewV x.f2).f6.f5.length c5) (fewV x.f2).f6.f5 :: Row k108 108 (.slice A7 (fewV x.f2).f7.f1.length c7) (fewV x.f2).f7.f1 :: Blk g13 (actL x A10 c10 A11 c11 A30 c30 A34 c34 A35 c35 A36 c36 A38 c38 A39 c39 A47 c47).toArray 52 :: Blk BC (cliA BA c v1 v2 v3 v4) 91 :: Blk BA (askA a bl) 97 :: MapT bl (q) (a).lead :: Row k106 106 v1 (c).call.entries :: Row k108 108 v2 (c).pieces :: Row (Kd.int .i64) 3 v3 (c).sweep :: Row k42 42 v4 (c).out :: MapV CmdP zCmd gm (qm) M :: [Old w])) := Aside0.mk h_; clear h_))
       go_upto_region 14 with (fail)
       go_wp2_with (first | ((with_reducible refine wpl_ ?_); (refine gate_ (.store 3 (.tmp 58) (.tmp 56)) rfl ?_); (try simp only [hwl, hn1_, hn2_]); refine st_store rfl rfl 3 _ _ rfl rfl rfl (seg := [(.int .i64 (1 + ((i : Int).tmod 2)))]) rfl (by kernel_rfl) (by rfl) S28.out 0 rfl (Nat.le_of_ble_eq_true rfl) ?_; intro w32 h_; have S33 : Aside0 (St w w32 (Blk g20 (pkA (own1 (fewV x.f2) (1 + (i : Int).tmod 2)) (.slice none 0 0) (.slice none 0 0) (.slice none 0 0) A3 c3 A5 c5 A7 c7 (.slice A39 x.f2.f8.length c39)) 47 :: Row k115 115 (.slice A3 (fewV x.f2).f6.f3.length c3) (fewV x.f2).f6.f3 :: Row k35 35 (.slice A5 (fewV x.f2).f6.f5.length c5) (fewV x.f2).f6.f5 :: Row k108 108 (.slice A7 (fewV x.f2).f7.f1.length c7) (fewV x.f2).f7.f1 :: Blk g13 (actL x A10 c10 A11 c11 A30 c30 A34 c34 A35 c35 A36 c36 A38 c38 A39 c39 A47 c47).toArray 52 :: Blk BC (cliA BA c v1 v2 v3 v4) 91 :: Blk BA (askA a bl) 97 :: MapT bl (q) (a).lead :: Row k106 106 v1 (c).call.entries :: Row k108 108 v2 (c).pieces :: Row (Kd.int .i64) 3 v3 (c).sweep :: Row k42 42 v4 (c).out :: MapV CmdP zCmd gm (qm) M :: [Old w])) := Aside0.mk h_; clear h_) | ((with_reducible refine wpl_ ?_); (refine gate_ (.store 3 (.tmp 60) (.const (.int .i64 3))) rfl ?_); (try simp only [hwl, hn1_, hn2_]); refine st_store rfl rfl 3 _ _ rfl rfl rfl (seg := [(.int .i64 3)]) rfl (by kernel_rfl) (by rfl) S33.out 0 rfl (Nat.le_of_ble_eq_true rfl) ?_; intro w34 h_; have S35 : Aside0 (St w w34 (Blk g20 (pkA (own2 (fewV x.f2) (1 + (i : Int).tmod 2)) (.slice none 0 0) (.slice none 0 0) (.slice none 0 0) A3 c3 A5 c5 A7 c7 (.slice A39 x.f2.f8.length c39)) 47 :: Row k115 115 (.slice A3 (fewV x.f2).f6.f3.length c3) (fewV x.f2).f6.f3 :: Row k35 35 (.slice A5 (fewV x.f2).f6.f5.length c5) (fewV x.f2).f6.f5 :: Row k108 108 (.slice A7 (fewV x.f2).f7.f1.length c7) (fewV x.f2).f7.f1 :: Blk g13 (actL x A10 c10 A11 c11 A30 c30 A34 c34 A35 c35 A36 c36 A38 c38 A39 c39 A47 c47).toArray 52 :: Blk BC (cliA BA c v1 v2 v3 v4) 91 :: Blk BA (askA a bl) 97 :: MapT bl (q) (a).lead :: Row k106 106 v1 (c).call.entries :: Row k108 108 v2 (c).pieces :: Row (Kd.int .i64) 3 v3 (c).sweep :: Row k42 42 v4 (c).out :: MapV CmdP zCmd gm (qm) M :: [Old w])) := Aside0.mk h_; clear h_) | ((with_reducible refine wpl_ ?_); (refine gate_ (.store 3 (.tmp 62) (.tmp 57)) rfl ?_); (try simp only [hwl, hn1_, hn2_]); refine st_store rfl rfl 3 _ _ rfl rfl rfl (seg := [(.int .i64 last)]) rfl (by kernel_rfl) (by rfl) S35.out 0 rfl (Nat.le_of_ble_eq_true rfl) ?_; intro w36 h_; have S37 : Aside0 (St w w36 (Blk g20 (pkA (own3 (fewV x.f2) (1 + (i : Int).tmod 2) last) (.slice none 0 0) (.slice none 0 0) (.slice none 0 0) A3 c3 A5 c5 A7 c7 (.slice A39 x.f2.f8.length c39)) 47 :: Row k115 115 (.slice A3 (fewV x.f2).f6.f3.length c3) (fewV x.f2).f6.f3 :: Row k35 35 (.slice A5 (fewV x.f2).f6.f5.length c5) (fewV x.f2).f6.f5 :: Row k108 108 (.slice A7 (fewV x.f2).f7.f1.length c7) (fewV x.f2).f7.f1 :: Blk g13 (actL x A10 c10 A11 c11 A30 c30 A34 c34 A35 c35 A36 c36 A38 c38 A39 c39 A47 c47).toArray 52 :: Blk BC (cliA BA c v1 v2 v3 v4) 91 :: Blk BA (askA a bl) 97 :: MapT bl (q) (a).lead :: Row k106 106 v1 (c).call.entries :: Row k108 108 v2 (c).pieces :: Row (Kd.int .i64) 3 v3 (c).sweep :: Row k42 42 v4 (c).out :: MapV CmdP zCmd gm (qm) M :: [Old w])) := Aside0.mk h_; clear h_))
       go_meet
       exact ⟨rfl, (own3 (fewV x.f2) (1 + (i : Int).tmod 2) last), pkn3 (pkn x.f2) _ _, ⟨(S37.out)⟩⟩
      ·have t30 : decide (0 < last) = false := decide_eq_false q29
       have Xq29 := Aside0.mk q29
       clear q29
       go_upto_region 13 with (first | ((with_reducible refine wpl_ ?_); (refine gate_ (.store 3 (.tmp 51) (.const (.int .i64 (-3)))) rfl ?_); (try simp only [hwl, hn1_, hn2_]); refine st_store rfl rfl 3 _ _ rfl rfl rfl (seg := [(.int .i64 (-3))]) rfl (by kernel_rfl) (by rfl) S24.out 0 rfl (Nat.le_of_ble_eq_true rfl) ?_; intro w27 h_; have S28 : Aside0 (St w w27 (Blk g20 (pkA (own0 (fewV x.f2)) (.slice none 0 0) (.slice none 0 0) (.slice none 0 0) A3 c3 A5 c5 A7 c7 (.slice A39 x.f2.f8.length c39)) 47 :: Row k115 115 (.slice A3 (fewV x.f2).f6.f3.length c3) (fewV x.f2).f6.f3 :: Row k35 35 (.slice A5 (fewV x.f2).f6.f5.length c5) (fewV x.f2).f6.f5 :: Row k108 108 (.slice A7 (fewV x.f2).f7.f1.length c7) (fewV x.f2).f7.f1 :: Blk g13 (actL x A10 c10 A11 c11 A30 c30 A34 c34 A35 c35 A36 c36 A38 c38 A39 c39 A47 c47).toArray 52 :: Blk BC (cliA BA c v1 v2 v3 v4) 91 :: Blk BA (askA a bl) 97 :: MapT bl (q) (a).lead :: Row k106 106 v1 (c).call.entries :: Row k108 108 v2 (c).pieces :: Row (Kd.int .i64) 3 v3 (c).sweep :: Row k42 42 v4 (c).out :: MapV CmdP zCmd gm (qm) M :: [Old w])) := Aside0.mk h_; clear h_))
       go_wp2_with (fail)
       go_meet
       exact ⟨rfl, (own0 (fewV x.f2)), pkn0 (pkn x.f2), ⟨(S28.out)⟩⟩
     ·have Xq26 := Aside0.mk q26
      rw [q26]
      go_wp2_with (fail)
      go_meet
      exact ⟨rfl, (fewV x.f2), pkn x.f2, ⟨(S24.out)⟩⟩
    case rest =>
     obtain ⟨rfl, P, hP, h_⟩ := hcut
     have HP := Aside0.mk hP
     have SC := h_
     clear hP h_
     go_upto_region 15 with (fail)
     have cf_38 : wc.cell? ⟨g13, 0, none⟩ = some (.int .i64 x.f0) := SC.out.cell 4 0 rfl rfl
     go_upto_region 17 with (fail)
     clear cf_38
     go_upto_if 70 with (fail)
     go_cut [70] (fun v70 w' => ∃ b7 : Bool, v70 = .bool b7 ∧ Aside0 (St w w' (Blk g20 (pkA P (.slice none 0 0) (.slice none 0 0) (.slice none 0 0) A3 c3 A5 c5 A7 c7 (.slice A39 x.f2.f8.length c39)) 47 :: Row k115 115 (.slice A3 P.f6.f3.length c3) P.f6.f3 :: Row k35 35 (.slice A5 P.f6.f5.length c5) P.f6.f5 :: Row k108 108 (.slice A7 P.f7.f1.length c7) P.f7.f1 :: Blk g13 (actL x A10 c10 A11 c11 A30 c30 A34 c34 A35 c35 A36 c36 A38 c38 A39 c39 A47 c47).toArray 52 :: Blk BC (cliA BA c v1 v2 v3 v4) 91 :: Blk BA (askA a bl) 97 :: MapT bl (q) (a).lead :: Row k106 106 v1 (c).call.entries :: Row k108 108 v2 (c).pieces :: Row (Kd.int .i64) 3 v3 (c).sweep :: Row k42 42 v4 (c).out :: MapV CmdP zCmd gm (qm) M :: [Old w])))
     case first =>
      rcases Decidable.em (x.f0 = 0) with q39 | q39
      ·have t40 : (x.f0 == 0) = true := beq_iff_eq.2 q39
       have u41 : (x.f0 != 0) = false := by rw [bne, t40]; rfl
       have Xq39 := Aside0.mk q39
       clear q39
       go_wp2_with (fail)
       go_meet
       exact ⟨_, rfl, ⟨SC.out⟩⟩
      ·have t40 : (x.f0 == 0) = false := beq_eq_false_iff_ne.2 q39
       have u41 : (x.f0 != 0) = true := by rw [bne, t40]; rfl
       have Xq39 := Aside0.mk q39
       clear q39
       go_upto_region 18 with (fail)
       go_wp2_with (fail)
       go_meet
       exact ⟨_, rfl, ⟨SC.out⟩⟩
     case rest =>
      obtain ⟨b7, rfl, SD⟩ := hcut
      rcases Bool.eq_false_or_eq_true b7 with q42 | q42
      ·have Xq42 := Aside0.mk q42
       rw [q42]
       go_upto_region 19 with (fail)
       have hcase := tick_pk HI.out HQ.out.1 (fun hb => by have := HN.out.busy hb; have := HN.out.num; omega)
       rw [HID.out] at hcase
       rcases hcase with ⟨hl, hn1, hc1, hb1⟩ | ⟨tg, ht0, ht4, hl, hn1, hc1, hb1⟩ | ⟨tg, g, ht0, ht4, hl, hn1, hc1, hp1⟩ | ⟨tg, g, ht0, ht4, hl, hn1, hc1, hc2⟩
       ·have HL := Aside0.mk hl
        clear hl
        have HE := Aside0.mk (And.intro hn1 (And.intro hc1 hb1))
        clear hn1 hc1 hb1
        go_upto_region 19 with (fail)
        go_wp2_with (first | (go_at_call 9; (try simp only [hwl, hn1_, hn2_]); (refine (tick0 (q := q) HI.out HQ.out.1 w _ (Blk g20 (pkA P (.slice none 0 0) (.slice none 0 0) (.slice none 0 0) A3 c3 A5 c5 A7 c7 (.slice A39 x.f2.f8.length c39)) 47 :: Row k115 115 (.slice A3 P.f6.f3.length c3) P.f6.f3 :: Row k35 35 (.slice A5 P.f6.f5.length c5) P.f6.f5 :: Row k108 108 (.slice A7 P.f7.f1.length c7) P.f7.f1 :: Blk g13 (actL x A10 c10 A11 c11 A30 c30 A34 c34 A35 c35 A36 c36 A38 c38 A39 c39 A47 c47).toArray 52 :: MapV CmdP zCmd gm (qm) M :: [Old w]) BC BA bl v1 v2 v3 v4 ((((((((((((((SD.out).bring 12 rfl).bring 5 rfl).bring 5 rfl).bring 5 rfl).bring 5 rfl).bring 5 rfl).bring 12 rfl).bring 12 rfl).bring 12 rfl).bring 12 rfl).bring 12 rfl).bring 12 rfl).bring 12 rfl) HL.out).mono ?_); rintro e1 w44 ⟨u3, Ak, nk, rfl, h_⟩; have S43 := Aside0.mk h_; clear h_))
        refine wp_loop_round ?_
        refine round_unroll ?_
        go_upto_region 20 with (fail)
        go_upto_region 8 with (fail)
        go_wp2_with (fail)
        go_roundg (80 - (i + 1))
        case measure => have := HLT.out; omega
        case rel => exact ⟨i + 1, _, by go_num, rfl, by have := HLT.out; omega, by have := HLT.out; omega, ⟨_, _, _, _, _, _, _, _, _, ⟨(tick_inv HI.out HQ.out.2.1).mono (by omega) (by have := HQ.out; omega) (by omega), HN.out.same HE.out.1 HE.out.2.1 tick_id (fun hb => by rw [← HE.out.2.2]; exact hb), tick_id.trans HID.out, by have := HQI.out; omega, by have := HQI.out; omega⟩, ((((((S43.out).erase 11).erase 10).erase 9).erase 8).erase 7)⟩⟩
       ·have HL := Aside0.mk hl
        clear hl
        have t1_ : decide (tg < 0) = false := decide_eq_false (by omega)
        have t2_ : decide (4 < tg) = false := decide_eq_false (by omega)
        have HT1 := Aside0.mk (show ¬ tg < 0 by omega)
        have HT2 := Aside0.mk (show ¬ 4 < tg by omega)
        clear ht0 ht4
        have HE := Aside0.mk (And.intro hn1 (And.intro hc1 hb1))
        clear hn1 hc1 hb1
        go_upto_region 19 with (fail)
        go_wp2_with (first | (go_at_call 9; (try simp only [hwl, hn1_, hn2_]); (refine (tick1 (q := q) HI.out HQ.out.1 w _ (Blk g20 (pkA P (.slice none 0 0) (.slice none 0 0) (.slice none 0 0) A3 c3 A5 c5 A7 c7 (.slice A39 x.f2.f8.length c39)) 47 :: Row k115 115 (.slice A3 P.f6.f3.length c3) P.f6.f3 :: Row k35 35 (.slice A5 P.f6.f5.length c5) P.f6.f5 :: Row k108 108 (.slice A7 P.f7.f1.length c7) P.f7.f1 :: Blk g13 (actL x A10 c10 A11 c11 A30 c30 A34 c34 A35 c35 A36 c36 A38 c38 A39 c39 A47 c47).toArray 52 :: MapV CmdP zCmd gm (qm) M :: [Old w]) BC BA bl v1 v2 v3 v4 ((((((((((((((SD.out).bring 12 rfl).bring 5 rfl).bring 5 rfl).bring 5 rfl).bring 5 rfl).bring 5 rfl).bring 12 rfl).bring 12 rfl).bring 12 rfl).bring 12 rfl).bring 12 rfl).bring 12 rfl).bring 12 rfl) 4 (-3) tg 0 z38 rfl HL.out).mono ?_); rintro e1 w46 ⟨u3, gk, nk, P10, p10, P11, p11, P30, p30, P34, p34, P35, p35, P36, p36, P38, p38, P39, p39, rk, rfl, h_⟩; have S45 := Aside0.mk h_; clear h_))
        refine wp_loop_round ?_
        refine round_unroll ?_
        go_upto_region 20 with (fail)
        go_upto_region 21 with (fail)
        go_upto_region 22 with (first | ((with_reducible refine wpl_ ?_); (refine gate_ (.load 47 (.tmp 78)) rfl ?_); refine st_load rfl 47 _ rfl rfl S45.out 0 rfl (pkL 4 (-3) tg 0 z38 P10 p10 P11 p11 P30 p30 P34 p34 P35 p35 P36 p36 P38 p38 P39 p39) rfl Try.underlying47 rfl (by kernel_rfl) ?_) | ((with_reducible refine wpl_ ?_); (refine gate_dst (N := 13) rfl ?_); (try simp only [hwl, hn1_, hn2_]); refine st_box ?hg (N := 13) ?hd (pkA z47 (.slice none 0 0) (.slice none 0 0) (.slice none 0 0) none 0 none 0 none 0 (.slice none 0 0)) 47 ?hr S45.out ?_; (case hd => rfl); (case hg => rfl); (case hr => first | (go_simp; done) | (go_simp; rfl)); intro g47 w48 hg_ h_ hb_; have S49 := Aside0.mk h_; have BS49 := Aside0.mk hb_; have GS49 := Aside0.mk hg_; clear h_ hb_ hg_) | ((with_reducible refine wpl_ ?_); (refine gate_ (.store 47 (.tmp 13) (.tmp 79)) rfl ?_); (try simp only [hwl, hn1_, hn2_]); refine st_store rfl rfl 47 _ _ rfl rfl rfl (seg := (pkL 4 (-3) tg 0 z38 P10 p10 P11 p11 P30 p30 P34 p34 P35 p35 P36 p36 P38 p38 P39 p39)) rfl (by kernel_rfl) (by rfl) S49.out 0 rfl (Nat.le_of_ble_eq_true rfl) ?_; intro w50 h_; have S51 : Aside0 (St w w50 (Blk g47 (pkL 4 (-3) tg 0 z38 P10 p10 P11 p11 P30 p30 P34 p34 P35 p35 P36 p36 P38 p38 P39 p39).toArray 47 :: Blk gk (pkL 4 (-3) tg 0 z38 P10 p10 P11 p11 P30 p30 P34 p34 P35 p35 P36 p36 P38 p38 P39 p39 ++ rk).toArray 47 :: Blk BC (cliA BA (tickN a c).2.1 v1 v2 u3 v4) 91 :: Blk BA (askA (tickN a c).1 bl) 97 :: MapT bl (q + 2) ((tickN a c).1).lead :: Row k106 106 v1 ((tickN a c).2.1).call.entries :: Row k108 108 v2 ((tickN a c).2.1).pieces :: Row (Kd.int .i64) 3 u3 ((tickN a c).2.1).sweep :: Row k42 42 v4 ((tickN a c).2.1).out :: Blk g20 (pkA P (.slice none 0 0) (.slice none 0 0) (.slice none 0 0) A3 c3 A5 c5 A7 c7 (.slice A39 x.f2.f8.length c39)) 47 :: Row k115 115 (.slice A3 P.f6.f3.length c3) P.f6.f3 :: Row k35 35 (.slice A5 P.f6.f5.length c5) P.f6.f5 :: Row k108 108 (.slice A7 P.f7.f1.length c7) P.f7.f1 :: Blk g13 (actL x A10 c10 A11 c11 A30 c30 A34 c34 A35 c35 A36 c36 A38 c38 A39 c39 A47 c47).toArray 52 :: MapV CmdP zCmd gm (qm) M :: [Old w])) := Aside0.mk h_; clear h_))
        have cf_52 : w50.cell? ⟨g47, 1, none⟩ = some (.int .i64 (-3)) := S51.out.cell 0 1 rfl rfl
        have cf_53 : w50.cell? ⟨g47, 2, none⟩ = some (.int .i64 tg) := S51.out.cell 0 2 rfl rfl
        go_upto_region 24 with (fail)
        clear cf_52 cf_53
        have cf_54 : w50.cell? ⟨g47, 0, none⟩ = some (.int .i64 4) := S51.out.cell 0 0 rfl rfl
        go_upto_region 29 with (fail)
        clear cf_54
        go_wp2_with (fail)
        refine round_unroll ?_
        go_upto_region 20 with (fail)
        go_upto_region 8 with (fail)
        go_wp2_with (fail)
        go_roundg (80 - (i + 1))
        case measure => have := HLT.out; omega
        case rel => exact ⟨i + 1, _, by go_num, rfl, by have := HLT.out; omega, by have := HLT.out; omega, ⟨_, _, _, _, _, _, _, _, _, ⟨(tick_inv HI.out HQ.out.2.1).mono (by omega) (by have := HQ.out; omega) (by omega), HN.out.same HE.out.1 HE.out.2.1 tick_id (fun hb => by rw [← HE.out.2.2]; exact hb), tick_id.trans HID.out, by have := HQI.out; omega, by have := HQI.out; omega⟩, ((((((((S51.out).erase 13).erase 12).erase 11).erase 10).erase 9).erase 1).erase 0)⟩⟩
       ·have HL := Aside0.mk hl
        clear hl
        have t1_ : decide (tg < 0) = false := decide_eq_false (by omega)
        have t2_ : decide (4 < tg) = false := decide_eq_false (by omega)
        have HT1 := Aside0.mk (show ¬ tg < 0 by omega)
        have HT2 := Aside0.mk (show ¬ 4 < tg by omega)
        clear ht0 ht4
        have HE := Aside0.mk (And.intro hn1 hc1)
        have hcur := HN.out.cur (by have := HN.out.num; omega)
        have hxf : (tickN a c).1.cmd.f1 = 3 ∧ (tickN a c).1.cmd.f2 = last ∧ (tickN a c).1.cmd.f14 = [] := ⟨by rw [hc1, hcur.2.2, HID.out], by rw [hc1, hcur.2.1], by rw [hc1]; exact HI.out.ok.data0⟩
        have hin : (last, (tickN a c).1.cmd) ∈ M := by rw [hc1]; exact hcur.1
        have HLP := Aside0.mk (show 0 < last by have := HN.out.num; omega)
        clear hn1 hc1 hp1 hcur
        have HXE := Aside0.mk (show ∃ y, y = (tickN a c).1.cmd from ⟨_, rfl⟩)
        obtain ⟨xc, hxc⟩ := HXE.out
        rw [← hxc] at hxf hin
        have HXC := Aside0.mk hxc
        have HL0 := HL
        have HL := Aside0.mk (show (tickN a c).2.2 = [cmdPk 2 (-3) tg g xc] by rw [hxc]; exact HL0.out)
        clear hxc HL0 HXE
        have HD := Aside0.mk hxf.2.2
        have HXF := Aside0.mk (And.intro hxf.1 hxf.2.1)
        have f1_ : (xc.f1 == 3) = true := beq_iff_eq.2 HXF.out.1
        have f1b : (xc.f1 != 3) = false := by rw [bne, f1_]; rfl
        have t3_ : decide (xc.f2 < last) = false := decide_eq_false (by have := HXF.out.2; omega)
        have HT3 := Aside0.mk (show ¬ xc.f2 < last by have := HXF.out.2; omega)
        have hwl : wrap64 (last + 1) = last + 1 := by have := HN.out.pos; have := HN.out.num; have := HI.out.ok.num1; have := HI.out.ok.q1; unfold wrap64; omega
        have HWF := Aside0.mk (show (Lit.int .i64 xc.f2).wf = true by have h1 := HXF.out.2; have := HN.out.pos; have := HN.out.num; have := HI.out.ok.num1; have := HI.out.ok.q1; simp [Lit.wf]; simp [IntKind.min, IntKind.bits]; omega)
        have HIN := Aside0.mk (show (xc.f2, xc) ∈ M by rw [HXF.out.2]; exact hin)
        clear hin
        clear hxf
        go_upto_region 19 with (fail)
        go_wp2_with (first | (go_at_call 9; (try simp only [hwl, hn1_, hn2_]); (refine (tick1 (q := q) HI.out HQ.out.1 w _ (Blk g20 (pkA P (.slice none 0 0) (.slice none 0 0) (.slice none 0 0) A3 c3 A5 c5 A7 c7 (.slice A39 x.f2.f8.length c39)) 47 :: Row k115 115 (.slice A3 P.f6.f3.length c3) P.f6.f3 :: Row k35 35 (.slice A5 P.f6.f5.length c5) P.f6.f5 :: Row k108 108 (.slice A7 P.f7.f1.length c7) P.f7.f1 :: Blk g13 (actL x A10 c10 A11 c11 A30 c30 A34 c34 A35 c35 A36 c36 A38 c38 A39 c39 A47 c47).toArray 52 :: MapV CmdP zCmd gm (qm) M :: [Old w]) BC BA bl v1 v2 v3 v4 ((((((((((((((SD.out).bring 12 rfl).bring 5 rfl).bring 5 rfl).bring 5 rfl).bring 5 rfl).bring 5 rfl).bring 12 rfl).bring 12 rfl).bring 12 rfl).bring 12 rfl).bring 12 rfl).bring 12 rfl).bring 12 rfl) 2 (-3) tg g xc HD.out HL.out).mono ?_); rintro e1 w56 ⟨u3, gk, nk, P10, p10, P11, p11, P30, p30, P34, p34, P35, p35, P36, p36, P38, p38, P39, p39, rk, rfl, h_⟩; have S55 := Aside0.mk h_; clear h_))
        refine wp_loop_round ?_
        refine round_unroll ?_
        go_upto_region 20 with (fail)
        go_upto_region 21 with (fail)
        go_upto_region 22 with (first | ((with_reducible refine wpl_ ?_); (refine gate_ (.load 47 (.tmp 78)) rfl ?_); refine st_load rfl 47 _ rfl rfl S55.out 0 rfl (pkL 2 (-3) tg g xc P10 p10 P11 p11 P30 p30 P34 p34 P35 p35 P36 p36 P38 p38 P39 p39) rfl Try.underlying47 rfl (by kernel_rfl) ?_) | ((with_reducible refine wpl_ ?_); (refine gate_dst (N := 13) rfl ?_); (try simp only [hwl, hn1_, hn2_]); refine st_box ?hg (N := 13) ?hd (pkA z47 (.slice none 0 0) (.slice none 0 0) (.slice none 0 0) none 0 none 0 none 0 (.slice none 0 0)) 47 ?hr S55.out ?_; (case hd => rfl); (case hg => rfl); (case hr => first | (go_simp; done) | (go_simp; rfl)); intro g57 w58 hg_ h_ hb_; have S59 := Aside0.mk h_; have BS59 := Aside0.mk hb_; have GS59 := Aside0.mk hg_; clear h_ hb_ hg_) | ((with_reducible refine wpl_ ?_); (refine gate_ (.store 47 (.tmp 13) (.tmp 79)) rfl ?_); (try simp only [hwl, hn1_, hn2_]); refine st_store rfl rfl 47 _ _ rfl rfl rfl (seg := (pkL 2 (-3) tg g xc P10 p10 P11 p11 P30 p30 P34 p34 P35 p35 P36 p36 P38 p38 P39 p39)) rfl (by kernel_rfl) (by rfl) S59.out 0 rfl (Nat.le_of_ble_eq_true rfl) ?_; intro w60 h_; have S61 : Aside0 (St w w60 (Blk g57 (pkL 2 (-3) tg g xc P10 p10 P11 p11 P30 p30 P34 p34 P35 p35 P36 p36 P38 p38 P39 p39).toArray 47 :: Blk gk (pkL 2 (-3) tg g xc P10 p10 P11 p11 P30 p30 P34 p34 P35 p35 P36 p36 P38 p38 P39 p39 ++ rk).toArray 47 :: Blk BC (cliA BA (tickN a c).2.1 v1 v2 u3 v4) 91 :: Blk BA (askA (tickN a c).1 bl) 97 :: MapT bl (q + 2) ((tickN a c).1).lead :: Row k106 106 v1 ((tickN a c).2.1).call.entries :: Row k108 108 v2 ((tickN a c).2.1).pieces :: Row (Kd.int .i64) 3 u3 ((tickN a c).2.1).sweep :: Row k42 42 v4 ((tickN a c).2.1).out :: Blk g20 (pkA P (.slice none 0 0) (.slice none 0 0) (.slice none 0 0) A3 c3 A5 c5 A7 c7 (.slice A39 x.f2.f8.length c39)) 47 :: Row k115 115 (.slice A3 P.f6.f3.length c3) P.f6.f3 :: Row k35 35 (.slice A5 P.f6.f5.length c5) P.f6.f5 :: Row k108 108 (.slice A7 P.f7.f1.length c7) P.f7.f1 :: Blk g13 (actL x A10 c10 A11 c11 A30 c30 A34 c34 A35 c35 A36 c36 A38 c38 A39 c39 A47 c47).toArray 52 :: MapV CmdP zCmd gm (qm) M :: [Old w])) := Aside0.mk h_; clear h_))
        have cf_62 : w60.cell? ⟨g57, 1, none⟩ = some (.int .i64 (-3)) := S61.out.cell 0 1 rfl rfl
        have cf_63 : w60.cell? ⟨g57, 2, none⟩ = some (.int .i64 tg) := S61.out.cell 0 2 rfl rfl
        go_upto_region 24 with (fail)
        clear cf_62 cf_63
        have cf_64 : w60.cell? ⟨g57, 0, none⟩ = some (.int .i64 2) := S61.out.cell 0 0 rfl rfl
        go_upto_region 25 with (fail)
        clear cf_64
        go_cut [14, 15, 74, 75, 76] (fun v14 v15 v74 v75 v76 w' => ∃ (g66 : Nat) (QA : Option Addr) (qn : Nat), v14 = (.pointer (some ⟨g66, 0, none⟩)) ∧ v15 = (.bool true) ∧ v74 = (.slice (some ⟨gk, 0, none⟩) 1 nk) ∧ v75 = (.int .i64 1) ∧ v76 = (.int .i64 0) ∧ Aside0 (St w w' (Blk g66 (cmdCells xc QA qn) 38 :: Blk g57 (pkL 2 (-3) tg g xc P10 p10 P11 p11 P30 p30 P34 p34 P35 p35 P36 p36 P38 p38 P39 p39).toArray 47 :: Blk gk (pkL 2 (-3) tg g xc P10 p10 P11 p11 P30 p30 P34 p34 P35 p35 P36 p36 P38 p38 P39 p39 ++ rk).toArray 47 :: Blk BC (cliA BA (tickN a c).2.1 v1 v2 u3 v4) 91 :: Blk BA (askA (tickN a c).1 bl) 97 :: MapT bl (q + 2) ((tickN a c).1).lead :: Row k106 106 v1 ((tickN a c).2.1).call.entries :: Row k108 108 v2 ((tickN a c).2.1).pieces :: Row (Kd.int .i64) 3 u3 ((tickN a c).2.1).sweep :: Row k42 42 v4 ((tickN a c).2.1).out :: Blk g20 (pkA P (.slice none 0 0) (.slice none 0 0) (.slice none 0 0) A3 c3 A5 c5 A7 c7 (.slice A39 x.f2.f8.length c39)) 47 :: Row k115 115 (.slice A3 P.f6.f3.length c3) P.f6.f3 :: Row k35 35 (.slice A5 P.f6.f5.length c5) P.f6.f5 :: Row k108 108 (.slice A7 P.f7.f1.length c7) P.f7.f1 :: Blk g13 (actL x A10 c10 A11 c11 A30 c30 A34 c34 A35 c35 A36 c36 A38 c38 A39 c39 A47 c47).toArray 52 :: MapV CmdP zCmd gm (qm) M :: [Old w])))
        case first =>
         go_upto_region 25 with (fail)
         have cf_65 : w60.cell? ⟨g57, 14, none⟩ = some (.int .i64 xc.f2) := S61.out.cell 0 14 rfl rfl
         go_wp2_with (first | ((with_reducible refine wpl_ ?_); (refine gate_dst (N := 101) rfl ?_); refine look_yes rfl _ _ rfl rfl rfl HWF.out S61.out 14 rfl HIN.out ?_; intro QA qn) | ((with_reducible refine wpl_ ?_); (refine gate_dst (N := 14) rfl ?_); (try simp only [hwl, hn1_, hn2_]); refine st_box ?hg (N := 14) ?hd (cmdCells z38 none 0) 38 ?hr S61.out ?_; (case hd => rfl); (case hg => rfl); (case hr => first | (go_simp; done) | (go_simp; rfl)); intro g66 w67 hg_ h_ hb_; clear cf_65; have S68 := Aside0.mk h_; have BS68 := Aside0.mk hb_; have GS68 := Aside0.mk hg_; clear h_ hb_ hg_) | ((with_reducible refine wpl_ ?_); (refine gate_ (.store 38 (.tmp 14) (.tmp 102)) rfl ?_); (try simp only [hwl, hn1_, hn2_]); refine st_store rfl rfl 38 _ _ rfl rfl rfl (seg := [(.int .i64 xc.f0), (.int .i64 xc.f1), (.int .i64 xc.f2), (.int .i64 xc.f3), (.int .i64 xc.f4), (.string xc.f5), (.string xc.f6), (.string xc.f7), (.string xc.f8), (.int .i64 xc.f9), (.int .i64 xc.f10), (.int .i64 xc.f11.f0), (.string xc.f11.f1), (.int .i64 xc.f11.f2), (.int .i64 xc.f11.f3), (.int .i64 xc.f12.f0), (.int .i64 xc.f12.f1), (.int .i64 xc.f13), (.slice QA 0 qn)]) rfl (by kernel_rfl) (by rfl) S68.out 0 rfl (Nat.le_of_ble_eq_true rfl) ?_; intro w69 h_; have S70 : Aside0 (St w w69 (Blk g66 (cmdCells xc QA qn) 38 :: Blk g57 (pkL 2 (-3) tg g xc P10 p10 P11 p11 P30 p30 P34 p34 P35 p35 P36 p36 P38 p38 P39 p39).toArray 47 :: Blk gk (pkL 2 (-3) tg g xc P10 p10 P11 p11 P30 p30 P34 p34 P35 p35 P36 p36 P38 p38 P39 p39 ++ rk).toArray 47 :: Blk BC (cliA BA (tickN a c).2.1 v1 v2 u3 v4) 91 :: Blk BA (askA (tickN a c).1 bl) 97 :: MapT bl (q + 2) ((tickN a c).1).lead :: Row k106 106 v1 ((tickN a c).2.1).call.entries :: Row k108 108 v2 ((tickN a c).2.1).pieces :: Row (Kd.int .i64) 3 u3 ((tickN a c).2.1).sweep :: Row k42 42 v4 ((tickN a c).2.1).out :: Blk g20 (pkA P (.slice none 0 0) (.slice none 0 0) (.slice none 0 0) A3 c3 A5 c5 A7 c7 (.slice A39 x.f2.f8.length c39)) 47 :: Row k115 115 (.slice A3 P.f6.f3.length c3) P.f6.f3 :: Row k35 35 (.slice A5 P.f6.f5.length c5) P.f6.f5 :: Row k108 108 (.slice A7 P.f7.f1.length c7) P.f7.f1 :: Blk g13 (actL x A10 c10 A11 c11 A30 c30 A34 c34 A35 c35 A36 c36 A38 c38 A39 c39 A47 c47).toArray 52 :: MapV CmdP zCmd gm (qm) M :: [Old w])) := Aside0.mk h_; clear h_))
         go_meet
         exact ⟨g66, QA, qn, rfl, rfl, rfl, rfl, rfl, ⟨S70.out⟩⟩
        case rest =>
         obtain ⟨g66, QA, qn, rfl, rfl, rfl, rfl, rfl, S71⟩ := hcut
         go_upto_region 26 with (fail)
         have cf_72 : wc.cell? ⟨g57, 13, none⟩ = some (.int .i64 xc.f1) := S71.out.cell 1 13 rfl rfl
         go_upto_region 28 with (first | ((with_reducible refine wpl_ ?_); (refine gate_ (.load 38 (.tmp 14)) rfl ?_); refine unguard (by rfl) ?_; refine st_load rfl 38 _ rfl rfl S71.out 0 rfl [(.int .i64 xc.f0), (.int .i64 xc.f1), (.int .i64 xc.f2), (.int .i64 xc.f3), (.int .i64 xc.f4), (.string xc.f5), (.string xc.f6), (.string xc.f7), (.string xc.f8), (.int .i64 xc.f9), (.int .i64 xc.f10), (.int .i64 xc.f11.f0), (.string xc.f11.f1), (.int .i64 xc.f11.f2), (.int .i64 xc.f11.f3), (.int .i64 xc.f12.f0), (.int .i64 xc.f12.f1), (.int .i64 xc.f13), (.slice QA 0 qn)] rfl Try.underlying38 rfl (by kernel_rfl) ?_) | ((with_reducible refine wpl_ ?_); (refine gate_ (.load 38 (.tmp 112)) rfl ?_); refine unguard (by rfl) ?_; refine st_load rfl 38 _ rfl rfl S71.out 1 rfl [(.int .i64 xc.f0), (.int .i64 xc.f1), (.int .i64 xc.f2), (.int .i64 xc.f3), (.int .i64 xc.f4), (.string xc.f5), (.string xc.f6), (.string xc.f7), (.string xc.f8), (.int .i64 xc.f9), (.int .i64 xc.f10), (.int .i64 xc.f11.f0), (.string xc.f11.f1), (.int .i64 xc.f11.f2), (.int .i64 xc.f11.f3), (.int .i64 xc.f12.f0), (.int .i64 xc.f12.f1), (.int .i64 xc.f13), (.slice P30 0 p30)] rfl Try.underlying38 rfl (by kernel_rfl) ?_) | (go_at_call 10; (try simp only [hwl, hn1_, hn2_]); (refine (sameSelfT _ xc QA P30 qn p30).mono ?_); rintro e1 w74 ⟨rfl, hb_⟩; clear cf_72; have S73 := Aside0.mk (S71.out.below hb_); clear hb_; have cf_75 : w74.cell? ⟨g57, 14, none⟩ = some (.int .i64 xc.f2) := S73.out.cell 1 14 rfl rfl))
         clear cf_75
         have S77 := Aside0.mk S73.out.drew
         refine start_ (n := 11) (S := fun w' => St w w' (Blk g57 (pkL 2 (-3) tg g xc P10 p10 P11 p11 P30 p30 P34 p34 P35 p35 P36 p36 P38 p38 P39 p39).toArray 47 :: [Old w])) (ds := []) (bits 11 0) (by kernel_rfl) rfl rfl (((((((((((((((((S73.out).erase 15).erase 14).erase 13).erase 12).erase 11).erase 10).erase 9).erase 8).erase 7).erase 6).erase 5).erase 4).erase 3).erase 2).erase 0)).drew (fun hHeld => ?_)
         generalize w74.drew = w76 at S77 hHeld ⊢
         refine pu 0 137 (bits 11 1) ?_ rfl rfl (by kernel_rfl) (fun _ _ _ h => h) (by rfl) ?_ ?_ ?_ ?_
         rotate_left
         ·intro w'; go_simp; with_reducible rfl
         rotate_left
         ·simp only [Act.put, sqA, sqB, sqC, i64_w, i32_w]; rfl
         refine pu 1 138 (bits 11 3) ?_ rfl rfl (by kernel_rfl) (fun _ _ _ h => h) (by rfl) ?_ ?_ ?_ ?_
         rotate_left
         ·intro w'; go_simp; with_reducible rfl
         rotate_left
         ·simp only [Act.put, sqA, sqB, sqC, i64_w, i32_w]; rfl
         refine pu 2 139 (bits 11 7) ?_ rfl rfl (by kernel_rfl) (fun _ _ _ h => h) (by rfl) ?_ ?_ ?_ ?_
         rotate_left
         ·intro w'; go_simp; with_reducible rfl
         rotate_left
         ·simp only [Act.put, sqA, sqB, sqC, i64_w, i32_w]; rfl
         refine pu 4 141 (bits 11 23) ?_ rfl rfl (by kernel_rfl) (fun _ _ _ h => h) (by rfl) ?_ ?_ ?_ ?_
         rotate_left
         ·intro w'; go_simp; with_reducible rfl
         rotate_left
         ·simp only [Act.put, sqA, sqB, sqC, i64_w, i32_w]; rfl
         refine pu 6 143 (bits 11 87) ?_ rfl rfl (by kernel_rfl) (fun _ _ _ h => h) (by rfl) ?_ ?_ ?_ ?_
         rotate_left
         ·intro w'; go_simp; with_reducible rfl
         rotate_left
         ·simp only [Act.put, sqA, sqB, sqC, i64_w, i32_w]; rfl
         refine pu 7 144 (bits 11 215) ?_ rfl rfl (by kernel_rfl) (fun _ _ _ h => h) (by rfl) ?_ ?_ ?_ ?_
         rotate_left
         ·intro w'; go_simp; with_reducible rfl
         rotate_left
         ·simp only [Act.put, sqA, sqB, sqC, i64_w, i32_w]; rfl
         refine tk 3 140 (bits 11 223) ?_ rfl rfl (by kernel_rfl) (fun _ _ _ h => h) (by rfl) ?_ hHeld ?_ ?_ ?_
         rotate_left
         ·intro w' hw'; have s0 : w'.cell? ⟨g57, 14, none⟩ = some (.int .i64 xc.f2) := hw'.cell 0 14 rfl rfl; go_simp; with_reducible rfl
         rotate_left
         ·simp only [Act.put, sqA, sqB, sqC, i64_w, i32_w]; rfl
         refine take_ (i := 5) (N := some 142) (a' := ?_) (bits 11 255) rfl rfl (by kernel_rfl) (fun _ _ _ h => h) (yields_blk (by rfl) 38 _ rfl g57 12 rfl [(.int .i64 xc.f0), (.int .i64 xc.f1), (.int .i64 xc.f2), (.int .i64 xc.f3), (.int .i64 xc.f4), (.string xc.f5), (.string xc.f6), (.string xc.f7), (.string xc.f8), (.int .i64 xc.f9), (.int .i64 xc.f10), (.int .i64 xc.f11.f0), (.string xc.f11.f1), (.int .i64 xc.f11.f2), (.int .i64 xc.f11.f3), (.int .i64 xc.f12.f0), (.int .i64 xc.f12.f1), (.int .i64 xc.f13), (.slice P30 0 p30)] rfl (fun w' hw' => hw'.blk 0 rfl) Try.underlying38 rfl (by kernel_rfl)) hHeld ?_ ?_
         rotate_left
         ·simp only [Act.put, sqA, sqB, sqC, i64_w, i32_w]; rfl
         refine tk 8 145 (bits 11 511) ?_ rfl rfl (by kernel_rfl) (fun _ _ _ h => h) (by rfl) ?_ hHeld ?_ ?_ ?_
         rotate_left
         ·intro w' hw'; have s0 : w'.cell? ⟨g57, 14, none⟩ = some (.int .i64 xc.f2) := hw'.cell 0 14 rfl rfl; go_simp; with_reducible rfl
         rotate_left
         ·simp only [Act.put, sqA, sqB, sqC, i64_w, i32_w]; rfl
         refine one_ (i := 9) (N := none) (bits 11 1023) rfl rfl (by kernel_rfl) (by decide) (fun K hK => ?_)
         refine st_mapput_step (by rfl) rfl 27 _ _ _ rfl Try.underlying27 HQ.out.2.2.1 rfl rfl rfl ⟨P30, p30, rfl⟩ HWF.out (S77.out.bring 15 rfl) ?_
         intro w79 h_
         have S78 := Aside0.mk h_
         clear h_
         refine hK.out _ _ (((((((((((((((((S78.out).erase 15).erase 14).erase 13).erase 12).erase 11).erase 10).erase 9).erase 8).erase 7).erase 6).erase 5).erase 4).erase 3).erase 1).erase 0)) ?_
         clear hHeld
         intro hHeld
         clear hK K
         refine pu 10 8 (bits 11 2047) ?_ rfl rfl (by kernel_rfl) (fun _ _ _ h => h) (by rfl) ?_ ?_ ?_ ?_
         rotate_left
         ·intro w'; go_simp; with_reducible rfl
         rotate_left
         ·simp only [Act.put, sqA, sqB, sqC, i64_w, i32_w]; rfl
         refine done_ (by kernel_rfl) ?_
         clear hHeld
         go_upto_region 29 with (fail)
         go_wp2_with (fail)
         refine round_unroll ?_
         go_upto_region 20 with (fail)
         go_upto_region 8 with (fail)
         go_wp2_with (fail)
         have HNN := Aside0.mk (show NumI (tickN a c).1 (putM xc.f2 xc M) xc.f2 from by
          have h9 := HN.out.put (a' := (tickN a c).1) (last' := xc.f2) (by have := HXF.out.2; have := HN.out.pos; have := HE.out; have := HN.out.num; have := HLP.out; omega) (by have := HXF.out.2; omega) (by have := HE.out.1; have := HN.out.num; have := HXF.out.2; omega) (by rw [← HXC.out]) (by rw [← HXC.out, tick_id, HID.out]; exact HXF.out.1) (by rw [← HXC.out]; exact HD.out)
          rw [← HXC.out] at h9
          exact h9)
         go_roundg (80 - (i + 1))
         case measure => have := HLT.out; omega
         case rel => exact ⟨i + 1, xc.f2, by go_num, rfl, by have := HLT.out; omega, by have := HLT.out; omega, ⟨_, _, _, _, _, _, _, _, _, ⟨(tick_inv HI.out HQ.out.2.1).mono (by omega) (by have := HQ.out; omega) (by omega), HNN.out, tick_id.trans HID.out, by have := HQI.out; omega, by have := HQI.out; omega⟩, (((((((((((((((((S78.out).erase 15).erase 14).erase 13).erase 12).erase 11).erase 3).erase 2).erase 1).bring 0 rfl).bring 7 rfl).bring 7 rfl).bring 7 rfl).bring 7 rfl).bring 7 rfl).bring 7 rfl).bring 7 rfl)⟩⟩
       ·have HL := Aside0.mk hl
        clear hl
        have t1_ : decide (tg < 0) = false := decide_eq_false (by omega)
        have t2_ : decide (4 < tg) = false := decide_eq_false (by omega)
        have HT1 := Aside0.mk (show ¬ tg < 0 by omega)
        have HT2 := Aside0.mk (show ¬ 4 < tg by omega)
        clear ht0 ht4
        have hnl := HN.out.num
        rw [hnl] at hn1 hc2
        have HE := Aside0.mk (And.intro hn1 (And.intro hc1 hc2))
        have hxf : (tickN a c).1.cmd.f1 = 3 ∧ (tickN a c).1.cmd.f2 = last + 1 ∧ (tickN a c).1.cmd.f14 = [] := ⟨hc1, hc2, (tick_inv HI.out HQ.out.2.1).ok.data0⟩
        clear hn1 hc1 hc2 hnl
        have HXE := Aside0.mk (show ∃ y, y = (tickN a c).1.cmd from ⟨_, rfl⟩)
        obtain ⟨xc, hxc⟩ := HXE.out
        rw [← hxc] at hxf
        have HXC := Aside0.mk hxc
        have HL0 := HL
        have HL := Aside0.mk (show (tickN a c).2.2 = [cmdPk 2 (-3) tg g xc] by rw [hxc]; exact HL0.out)
        clear hxc HL0 HXE
        have HD := Aside0.mk hxf.2.2
        have HXF := Aside0.mk (And.intro hxf.1 hxf.2.1)
        have f1_ : (xc.f1 == 3) = true := beq_iff_eq.2 HXF.out.1
        have f1b : (xc.f1 != 3) = false := by rw [bne, f1_]; rfl
        have t3_ : decide (xc.f2 < last) = false := decide_eq_false (by have := HXF.out.2; omega)
        have HT3 := Aside0.mk (show ¬ xc.f2 < last by have := HXF.out.2; omega)
        have hwl : wrap64 (last + 1) = last + 1 := by have := HN.out.pos; have := HN.out.num; have := HI.out.ok.num1; have := HI.out.ok.q1; unfold wrap64; omega
        have HWF := Aside0.mk (show (Lit.int .i64 xc.f2).wf = true by have h1 := HXF.out.2; have := HN.out.pos; have := HN.out.num; have := HI.out.ok.num1; have := HI.out.ok.q1; simp [Lit.wf]; simp [IntKind.min, IntKind.bits]; omega)
        have f2_ : (xc.f2 == last + 1) = true := beq_iff_eq.2 HXF.out.2
        have f2b : (xc.f2 != last + 1) = false := by rw [bne, f2_]; rfl
        have HNO := Aside0.mk (show ∀ x ∈ M, x.1 ≠ xc.f2 from fun x hx => by have := HN.out.keys x hx; have := HXF.out.2; omega)
        clear hxf
        go_upto_region 19 with (fail)
        go_wp2_with (first | (go_at_call 9; (try simp only [hwl, hn1_, hn2_]); (refine (tick1 (q := q) HI.out HQ.out.1 w _ (Blk g20 (pkA P (.slice none 0 0) (.slice none 0 0) (.slice none 0 0) A3 c3 A5 c5 A7 c7 (.slice A39 x.f2.f8.length c39)) 47 :: Row k115 115 (.slice A3 P.f6.f3.length c3) P.f6.f3 :: Row k35 35 (.slice A5 P.f6.f5.length c5) P.f6.f5 :: Row k108 108 (.slice A7 P.f7.f1.length c7) P.f7.f1 :: Blk g13 (actL x A10 c10 A11 c11 A30 c30 A34 c34 A35 c35 A36 c36 A38 c38 A39 c39 A47 c47).toArray 52 :: MapV CmdP zCmd gm (qm) M :: [Old w]) BC BA bl v1 v2 v3 v4 ((((((((((((((SD.out).bring 12 rfl).bring 5 rfl).bring 5 rfl).bring 5 rfl).bring 5 rfl).bring 5 rfl).bring 12 rfl).bring 12 rfl).bring 12 rfl).bring 12 rfl).bring 12 rfl).bring 12 rfl).bring 12 rfl) 2 (-3) tg g xc HD.out HL.out).mono ?_); rintro e1 w81 ⟨u3, gk, nk, P10, p10, P11, p11, P30, p30, P34, p34, P35, p35, P36, p36, P38, p38, P39, p39, rk, rfl, h_⟩; have S80 := Aside0.mk h_; clear h_))
        refine wp_loop_round ?_
        refine round_unroll ?_
        go_upto_region 20 with (fail)
        go_upto_region 21 with (fail)
        go_upto_region 22 with (first | ((with_reducible refine wpl_ ?_); (refine gate_ (.load 47 (.tmp 78)) rfl ?_); refine st_load rfl 47 _ rfl rfl S80.out 0 rfl (pkL 2 (-3) tg g xc P10 p10 P11 p11 P30 p30 P34 p34 P35 p35 P36 p36 P38 p38 P39 p39) rfl Try.underlying47 rfl (by kernel_rfl) ?_) | ((with_reducible refine wpl_ ?_); (refine gate_dst (N := 13) rfl ?_); (try simp only [hwl, hn1_, hn2_]); refine st_box ?hg (N := 13) ?hd (pkA z47 (.slice none 0 0) (.slice none 0 0) (.slice none 0 0) none 0 none 0 none 0 (.slice none 0 0)) 47 ?hr S80.out ?_; (case hd => rfl); (case hg => rfl); (case hr => first | (go_simp; done) | (go_simp; rfl)); intro g82 w83 hg_ h_ hb_; have S84 := Aside0.mk h_; have BS84 := Aside0.mk hb_; have GS84 := Aside0.mk hg_; clear h_ hb_ hg_) | ((with_reducible refine wpl_ ?_); (refine gate_ (.store 47 (.tmp 13) (.tmp 79)) rfl ?_); (try simp only [hwl, hn1_, hn2_]); refine st_store rfl rfl 47 _ _ rfl rfl rfl (seg := (pkL 2 (-3) tg g xc P10 p10 P11 p11 P30 p30 P34 p34 P35 p35 P36 p36 P38 p38 P39 p39)) rfl (by kernel_rfl) (by rfl) S84.out 0 rfl (Nat.le_of_ble_eq_true rfl) ?_; intro w85 h_; have S86 : Aside0 (St w w85 (Blk g82 (pkL 2 (-3) tg g xc P10 p10 P11 p11 P30 p30 P34 p34 P35 p35 P36 p36 P38 p38 P39 p39).toArray 47 :: Blk gk (pkL 2 (-3) tg g xc P10 p10 P11 p11 P30 p30 P34 p34 P35 p35 P36 p36 P38 p38 P39 p39 ++ rk).toArray 47 :: Blk BC (cliA BA (tickN a c).2.1 v1 v2 u3 v4) 91 :: Blk BA (askA (tickN a c).1 bl) 97 :: MapT bl (q + 2) ((tickN a c).1).lead :: Row k106 106 v1 ((tickN a c).2.1).call.entries :: Row k108 108 v2 ((tickN a c).2.1).pieces :: Row (Kd.int .i64) 3 u3 ((tickN a c).2.1).sweep :: Row k42 42 v4 ((tickN a c).2.1).out :: Blk g20 (pkA P (.slice none 0 0) (.slice none 0 0) (.slice none 0 0) A3 c3 A5 c5 A7 c7 (.slice A39 x.f2.f8.length c39)) 47 :: Row k115 115 (.slice A3 P.f6.f3.length c3) P.f6.f3 :: Row k35 35 (.slice A5 P.f6.f5.length c5) P.f6.f5 :: Row k108 108 (.slice A7 P.f7.f1.length c7) P.f7.f1 :: Blk g13 (actL x A10 c10 A11 c11 A30 c30 A34 c34 A35 c35 A36 c36 A38 c38 A39 c39 A47 c47).toArray 52 :: MapV CmdP zCmd gm (qm) M :: [Old w])) := Aside0.mk h_; clear h_))
        have cf_87 : w85.cell? ⟨g82, 1, none⟩ = some (.int .i64 (-3)) := S86.out.cell 0 1 rfl rfl
        have cf_88 : w85.cell? ⟨g82, 2, none⟩ = some (.int .i64 tg) := S86.out.cell 0 2 rfl rfl
        go_upto_region 24 with (fail)
        clear cf_87 cf_88
        have cf_89 : w85.cell? ⟨g82, 0, none⟩ = some (.int .i64 2) := S86.out.cell 0 0 rfl rfl
        go_upto_region 25 with (fail)
        clear cf_89
        go_cut [14, 15, 74, 75, 76] (fun v14 v15 v74 v75 v76 w' => ∃ (g91 : Nat), v14 = (.pointer (some ⟨g91, 0, none⟩)) ∧ v15 = (.bool false) ∧ v74 = (.slice (some ⟨gk, 0, none⟩) 1 nk) ∧ v75 = (.int .i64 1) ∧ v76 = (.int .i64 0) ∧ Aside0 (St w w' (Blk g91 (cmdCells z38 none 0) 38 :: Blk g82 (pkL 2 (-3) tg g xc P10 p10 P11 p11 P30 p30 P34 p34 P35 p35 P36 p36 P38 p38 P39 p39).toArray 47 :: Blk gk (pkL 2 (-3) tg g xc P10 p10 P11 p11 P30 p30 P34 p34 P35 p35 P36 p36 P38 p38 P39 p39 ++ rk).toArray 47 :: Blk BC (cliA BA (tickN a c).2.1 v1 v2 u3 v4) 91 :: Blk BA (askA (tickN a c).1 bl) 97 :: MapT bl (q + 2) ((tickN a c).1).lead :: Row k106 106 v1 ((tickN a c).2.1).call.entries :: Row k108 108 v2 ((tickN a c).2.1).pieces :: Row (Kd.int .i64) 3 u3 ((tickN a c).2.1).sweep :: Row k42 42 v4 ((tickN a c).2.1).out :: Blk g20 (pkA P (.slice none 0 0) (.slice none 0 0) (.slice none 0 0) A3 c3 A5 c5 A7 c7 (.slice A39 x.f2.f8.length c39)) 47 :: Row k115 115 (.slice A3 P.f6.f3.length c3) P.f6.f3 :: Row k35 35 (.slice A5 P.f6.f5.length c5) P.f6.f5 :: Row k108 108 (.slice A7 P.f7.f1.length c7) P.f7.f1 :: Blk g13 (actL x A10 c10 A11 c11 A30 c30 A34 c34 A35 c35 A36 c36 A38 c38 A39 c39 A47 c47).toArray 52 :: MapV CmdP zCmd gm (qm) M :: [Old w])))
        case first =>
         go_upto_region 25 with (fail)
         have cf_90 : w85.cell? ⟨g82, 14, none⟩ = some (.int .i64 xc.f2) := S86.out.cell 0 14 rfl rfl
         go_wp2_with (first | ((with_reducible refine wpl_ ?_); (refine gate_dst (N := 101) rfl ?_); refine look_no rfl _ _ rfl rfl rfl HWF.out S86.out 14 rfl HNO.out ?_) | ((with_reducible refine wpl_ ?_); (refine gate_dst (N := 14) rfl ?_); (try simp only [hwl, hn1_, hn2_]); refine st_box ?hg (N := 14) ?hd (cmdCells z38 none 0) 38 ?hr S86.out ?_; (case hd => rfl); (case hg => rfl); (case hr => first | (go_simp; done) | (go_simp; rfl)); intro g91 w92 hg_ h_ hb_; clear cf_90; have S93 := Aside0.mk h_; have BS93 := Aside0.mk hb_; have GS93 := Aside0.mk hg_; clear h_ hb_ hg_) | ((with_reducible refine wpl_ ?_); (refine gate_ (.store 38 (.tmp 14) (.tmp 102)) rfl ?_); (try simp only [hwl, hn1_, hn2_]); refine st_store rfl rfl 38 _ _ rfl rfl rfl (seg := (cmdCells z38 none 0).toList) rfl (by kernel_rfl) (by rfl) S93.out 0 rfl (Nat.le_of_ble_eq_true rfl) ?_; intro w94 h_; have S95 : Aside0 (St w w94 (Blk g91 (cmdCells z38 none 0) 38 :: Blk g82 (pkL 2 (-3) tg g xc P10 p10 P11 p11 P30 p30 P34 p34 P35 p35 P36 p36 P38 p38 P39 p39).toArray 47 :: Blk gk (pkL 2 (-3) tg g xc P10 p10 P11 p11 P30 p30 P34 p34 P35 p35 P36 p36 P38 p38 P39 p39 ++ rk).toArray 47 :: Blk BC (cliA BA (tickN a c).2.1 v1 v2 u3 v4) 91 :: Blk BA (askA (tickN a c).1 bl) 97 :: MapT bl (q + 2) ((tickN a c).1).lead :: Row k106 106 v1 ((tickN a c).2.1).call.entries :: Row k108 108 v2 ((tickN a c).2.1).pieces :: Row (Kd.int .i64) 3 u3 ((tickN a c).2.1).sweep :: Row k42 42 v4 ((tickN a c).2.1).out :: Blk g20 (pkA P (.slice none 0 0) (.slice none 0 0) (.slice none 0 0) A3 c3 A5 c5 A7 c7 (.slice A39 x.f2.f8.length c39)) 47 :: Row k115 115 (.slice A3 P.f6.f3.length c3) P.f6.f3 :: Row k35 35 (.slice A5 P.f6.f5.length c5) P.f6.f5 :: Row k108 108 (.slice A7 P.f7.f1.length c7) P.f7.f1 :: Blk g13 (actL x A10 c10 A11 c11 A30 c30 A34 c34 A35 c35 A36 c36 A38 c38 A39 c39 A47 c47).toArray 52 :: MapV CmdP zCmd gm (qm) M :: [Old w])) := Aside0.mk h_; clear h_))
         go_meet
         exact ⟨g91, rfl, rfl, rfl, rfl, rfl, ⟨S95.out⟩⟩
        case rest =>
         obtain ⟨g91, rfl, rfl, rfl, rfl, rfl, S96⟩ := hcut
         go_upto_region 26 with (fail)
         have cf_97 : wc.cell? ⟨g82, 13, none⟩ = some (.int .i64 xc.f1) := S96.out.cell 1 13 rfl rfl
         have cf_98 : wc.cell? ⟨g82, 14, none⟩ = some (.int .i64 xc.f2) := S96.out.cell 1 14 rfl rfl
         go_upto_region 28 with (fail)
         clear cf_97 cf_98
         have S100 := Aside0.mk S96.out.drew
         refine start_ (n := 11) (S := fun w' => St w w' (Blk g82 (pkL 2 (-3) tg g xc P10 p10 P11 p11 P30 p30 P34 p34 P35 p35 P36 p36 P38 p38 P39 p39).toArray 47 :: [Old w])) (ds := []) (bits 11 0) (by kernel_rfl) rfl rfl (((((((((((((((((S96.out).erase 15).erase 14).erase 13).erase 12).erase 11).erase 10).erase 9).erase 8).erase 7).erase 6).erase 5).erase 4).erase 3).erase 2).erase 0)).drew (fun hHeld => ?_)
         generalize wc.drew = w99 at S100 hHeld ⊢
         refine pu 0 137 (bits 11 1) ?_ rfl rfl (by kernel_rfl) (fun _ _ _ h => h) (by rfl) ?_ ?_ ?_ ?_
         rotate_left
         ·intro w'; go_simp; with_reducible rfl
         rotate_left
         ·simp only [Act.put, sqA, sqB, sqC, i64_w, i32_w]; rfl
         refine pu 1 138 (bits 11 3) ?_ rfl rfl (by kernel_rfl) (fun _ _ _ h => h) (by rfl) ?_ ?_ ?_ ?_
         rotate_left
         ·intro w'; go_simp; with_reducible rfl
         rotate_left
         ·simp only [Act.put, sqA, sqB, sqC, i64_w, i32_w]; rfl
         refine pu 2 139 (bits 11 7) ?_ rfl rfl (by kernel_rfl) (fun _ _ _ h => h) (by rfl) ?_ ?_ ?_ ?_
         rotate_left
         ·intro w'; go_simp; with_reducible rfl
         rotate_left
         ·simp only [Act.put, sqA, sqB, sqC, i64_w, i32_w]; rfl
         refine pu 4 141 (bits 11 23) ?_ rfl rfl (by kernel_rfl) (fun _ _ _ h => h) (by rfl) ?_ ?_ ?_ ?_
         rotate_left
         ·intro w'; go_simp; with_reducible rfl
         rotate_left
         ·simp only [Act.put, sqA, sqB, sqC, i64_w, i32_w]; rfl
         refine pu 6 143 (bits 11 87) ?_ rfl rfl (by kernel_rfl) (fun _ _ _ h => h) (by rfl) ?_ ?_ ?_ ?_
         rotate_left
         ·intro w'; go_simp; with_reducible rfl
         rotate_left
         ·simp only [Act.put, sqA, sqB, sqC, i64_w, i32_w]; rfl
         refine pu 7 144 (bits 11 215) ?_ rfl rfl (by kernel_rfl) (fun _ _ _ h => h) (by rfl) ?_ ?_ ?_ ?_
         rotate_left
         ·intro w'; go_simp; with_reducible rfl
         rotate_left
         ·simp only [Act.put, sqA, sqB, sqC, i64_w, i32_w]; rfl
         refine tk 3 140 (bits 11 223) ?_ rfl rfl (by kernel_rfl) (fun _ _ _ h => h) (by rfl) ?_ hHeld ?_ ?_ ?_
         rotate_left
         ·intro w' hw'; have s0 : w'.cell? ⟨g82, 14, none⟩ = some (.int .i64 xc.f2) := hw'.cell 0 14 rfl rfl; go_simp; with_reducible rfl
         rotate_left
         ·simp only [Act.put, sqA, sqB, sqC, i64_w, i32_w]; rfl
         refine take_ (i := 5) (N := some 142) (a' := ?_) (bits 11 255) rfl rfl (by kernel_rfl) (fun _ _ _ h => h) (yields_blk (by rfl) 38 _ rfl g82 12 rfl [(.int .i64 xc.f0), (.int .i64 xc.f1), (.int .i64 xc.f2), (.int .i64 xc.f3), (.int .i64 xc.f4), (.string xc.f5), (.string xc.f6), (.string xc.f7), (.string xc.f8), (.int .i64 xc.f9), (.int .i64 xc.f10), (.int .i64 xc.f11.f0), (.string xc.f11.f1), (.int .i64 xc.f11.f2), (.int .i64 xc.f11.f3), (.int .i64 xc.f12.f0), (.int .i64 xc.f12.f1), (.int .i64 xc.f13), (.slice P30 0 p30)] rfl (fun w' hw' => hw'.blk 0 rfl) Try.underlying38 rfl (by kernel_rfl)) hHeld ?_ ?_
         rotate_left
         ·simp only [Act.put, sqA, sqB, sqC, i64_w, i32_w]; rfl
         refine tk 8 145 (bits 11 511) ?_ rfl rfl (by kernel_rfl) (fun _ _ _ h => h) (by rfl) ?_ hHeld ?_ ?_ ?_
         rotate_left
         ·intro w' hw'; have s0 : w'.cell? ⟨g82, 14, none⟩ = some (.int .i64 xc.f2) := hw'.cell 0 14 rfl rfl; go_simp; with_reducible rfl
         rotate_left
         ·simp only [Act.put, sqA, sqB, sqC, i64_w, i32_w]; rfl
         refine one_ (i := 9) (N := none) (bits 11 1023) rfl rfl (by kernel_rfl) (by decide) (fun K hK => ?_)
         refine st_mapput_step (by rfl) rfl 27 _ _ _ rfl Try.underlying27 HQ.out.2.2.1 rfl rfl rfl ⟨P30, p30, rfl⟩ HWF.out (S100.out.bring 15 rfl) ?_
         intro w102 h_
         have S101 := Aside0.mk h_
         clear h_
         refine hK.out _ _ (((((((((((((((((S101.out).erase 15).erase 14).erase 13).erase 12).erase 11).erase 10).erase 9).erase 8).erase 7).erase 6).erase 5).erase 4).erase 3).erase 1).erase 0)) ?_
         clear hHeld
         intro hHeld
         clear hK K
         refine pu 10 8 (bits 11 2047) ?_ rfl rfl (by kernel_rfl) (fun _ _ _ h => h) (by rfl) ?_ ?_ ?_ ?_
         rotate_left
         ·intro w'; go_simp; with_reducible rfl
         rotate_left
         ·simp only [Act.put, sqA, sqB, sqC, i64_w, i32_w]; rfl
         refine done_ (by kernel_rfl) ?_
         clear hHeld
         go_upto_region 29 with (fail)
         go_wp2_with (fail)
         refine round_unroll ?_
         go_upto_region 20 with (fail)
         go_upto_region 8 with (fail)
         go_wp2_with (fail)
         have HNN := Aside0.mk (show NumI (tickN a c).1 (putM xc.f2 xc M) xc.f2 from by
          have h9 := HN.out.put (a' := (tickN a c).1) (last' := xc.f2) (by have := HXF.out.2; have := HN.out.pos; have := HE.out; have := HN.out.num; omega) (by have := HXF.out.2; omega) (by have := HE.out.1; have := HN.out.num; have := HXF.out.2; omega) (by rw [← HXC.out]) (by rw [← HXC.out, tick_id, HID.out]; exact HXF.out.1) (by rw [← HXC.out]; exact HD.out)
          rw [← HXC.out] at h9
          exact h9)
         go_roundg (80 - (i + 1))
         case measure => have := HLT.out; omega
         case rel => exact ⟨i + 1, xc.f2, by go_num, rfl, by have := HLT.out; omega, by have := HLT.out; omega, ⟨_, _, _, _, _, _, _, _, _, ⟨(tick_inv HI.out HQ.out.2.1).mono (by omega) (by have := HQ.out; omega) (by omega), HNN.out, tick_id.trans HID.out, by have := HQI.out; omega, by have := HQI.out; omega⟩, (((((((((((((((((S101.out).erase 15).erase 14).erase 13).erase 12).erase 11).erase 3).erase 2).erase 1).bring 0 rfl).bring 7 rfl).bring 7 rfl).bring 7 rfl).bring 7 rfl).bring 7 rfl).bring 7 rfl).bring 7 rfl)⟩⟩
      ·have Xq42 := Aside0.mk q42
       rw [q42]
       rcases Decidable.em (x.f0 = 1) with q103 | q103
       ·have t104 : (x.f0 == 1) = true := beq_iff_eq.2 q103
        have u105 : (x.f0 != 1) = false := by rw [bne, t104]; rfl
        have Xq103 := Aside0.mk q103
        clear q103
        go_upto_region 30 with (fail)
        go_upto_region 31 with (fail)
        go_upto_region 8 with (first | ((with_reducible refine wpl_ ?_); (refine gate_ (.load 47 (.tmp 11)) rfl ?_); refine st_load rfl 47 _ rfl rfl SD.out 0 rfl (pkA P (.slice none 0 0) (.slice none 0 0) (.slice none 0 0) A3 c3 A5 c5 A7 c7 (.slice A39 x.f2.f8.length c39)).toList rfl Try.underlying47 rfl (by kernel_rfl) ?_) | (go_at_call 11; (try simp only [hwl, hn1_, hn2_]); (refine (recvC (q := q) HI.out HQ.out.1 HQ.out.2.2.2 w _ (Blk g20 (pkA P (.slice none 0 0) (.slice none 0 0) (.slice none 0 0) A3 c3 A5 c5 A7 c7 (.slice A39 x.f2.f8.length c39)) 47 :: Row k115 115 (.slice A3 P.f6.f3.length c3) P.f6.f3 :: Row k35 35 (.slice A5 P.f6.f5.length c5) P.f6.f5 :: Row k108 108 (.slice A7 P.f7.f1.length c7) P.f7.f1 :: Blk g13 (actL x A10 c10 A11 c11 A30 c30 A34 c34 A35 c35 A36 c36 A38 c38 A39 c39 A47 c47).toArray 52 :: MapV CmdP zCmd gm (qm) M :: [Old w]) BC BA bl v1 v2 v3 v4 ((((((((((((((SD.out).bring 12 rfl).bring 5 rfl).bring 5 rfl).bring 5 rfl).bring 5 rfl).bring 5 rfl).bring 12 rfl).bring 12 rfl).bring 12 rfl).bring 12 rfl).bring 12 rfl).bring 12 rfl).bring 12 rfl) P (.slice none 0 0) (.slice none 0 0) (.slice none 0 0) (.slice A39 x.f2.f8.length c39) A3 A5 A7 c3 c5 c7 (fun W hW => ⟨⟨(hW.reads 1 rfl).1, (hW.reads 1 rfl).2⟩, ⟨(hW.reads 2 rfl).1, (hW.reads 2 rfl).2⟩, (hW.reads 3 rfl).1, (hW.reads 3 rfl).2⟩) HP.out.l3 HP.out.l5 HP.out.l7 HP.out.f4).mono ?_); rintro e1 w107 ⟨u2, u4, rfl, h_⟩; have S106 := Aside0.mk h_; clear h_))
        go_wp2_with (fail)
        have HB := Aside0.mk (fun hb => show 0 < a.num by have := HN.out.busy hb; have := HN.out.num; omega)
        go_roundg (80 - (i + 1))
        case measure => have := HLT.out; omega
        case rel => exact ⟨i + 1, _, by go_num, rfl, by have := HLT.out; omega, by have := HLT.out; omega, ⟨_, _, _, _, _, _, _, _, _, ⟨(recv_inv HI.out HQ.out.1 P HP.out.l7).mono (by omega) (by have := HQ.out; omega) (by omega), HN.out.same (recv_same a c P HB.out).1 (recv_same a c P HB.out).2.1 (recv_same a c P HB.out).2.2.1 (recv_same a c P HB.out).2.2.2, (recv_same a c P HB.out).2.2.1.trans HID.out, by have := HQI.out; omega, by have := HQI.out; omega⟩, ((((((S106.out).erase 11).erase 10).erase 9).erase 8).erase 7)⟩⟩
       ·have t104 : (x.f0 == 1) = false := beq_eq_false_iff_ne.2 q103
        have u105 : (x.f0 != 1) = true := by rw [bne, t104]; rfl
        have Xq103 := Aside0.mk q103
        clear q103
        go_upto_region 30 with (fail)
        go_upto_region 16 with (fail)
        go_upto_region 8 with (first | ((with_reducible refine wpl_ ?_); (refine gate_ (.load 50 (.tmp 66)) rfl ?_); refine st_load rfl 50 _ rfl rfl SD.out 4 rfl [(.int .i64 x.f3.f0), (.int .i64 x.f3.f1), (.int .i64 x.f3.f2), (.int .i64 x.f3.f3), (.string x.f3.f4), (.slice A47 x.f3.f5.length c47)] rfl Try.underlying50 rfl (by kernel_rfl) ?_) | (go_at_call 13; (try simp only [hwl, hn1_, hn2_]); (refine (fewerC w _ _ SD.out x.f3 A47 c47 (nheap106.C (SD.out.mem.oldN 13 rfl) HC5.out.2.1) HC5.out.1 HC5.out.2.2).mono ?_); rintro e1 w109 ⟨AF, nF, rfl, h_⟩; have S108 := Aside0.mk h_; clear h_) | (go_at_call 12; (try simp only [hwl, hn1_, hn2_]); (refine (startC (q := q) HI.out w _ (Row k106 106 (.slice AF (callOf x.f3).entries.length nF) (callOf x.f3).entries :: Blk g20 (pkA P (.slice none 0 0) (.slice none 0 0) (.slice none 0 0) A3 c3 A5 c5 A7 c7 (.slice A39 x.f2.f8.length c39)) 47 :: Row k115 115 (.slice A3 P.f6.f3.length c3) P.f6.f3 :: Row k35 35 (.slice A5 P.f6.f5.length c5) P.f6.f5 :: Row k108 108 (.slice A7 P.f7.f1.length c7) P.f7.f1 :: Blk g13 (actL x A10 c10 A11 c11 A30 c30 A34 c34 A35 c35 A36 c36 A38 c38 A39 c39 A47 c47).toArray 52 :: MapV CmdP zCmd gm (qm) M :: [Old w]) BC BA bl v1 v2 v3 v4 (((((((((((((((S108.out).bring 13 rfl).bring 6 rfl).bring 6 rfl).bring 6 rfl).bring 6 rfl).bring 6 rfl).bring 6 rfl).bring 13 rfl).bring 13 rfl).bring 13 rfl).bring 13 rfl).bring 13 rfl).bring 13 rfl).bring 13 rfl) (callOf x.f3) AF nF (S108.out.reads 0 rfl).2 (fun W hW => (hW.reads 0 rfl).1) (call_len x.f3)).mono ?_); rintro e1 w111 ⟨u1, u3, u4, rfl, h_⟩; have S110 := Aside0.mk h_; clear h_))
        go_wp2_with (fail)
        go_roundg (80 - (i + 1))
        case measure => have := HLT.out; omega
        case rel => exact ⟨i + 1, _, by go_num, rfl, by have := HLT.out; omega, by have := HLT.out; omega, ⟨_, _, _, _, _, _, _, _, _, ⟨(start_inv HI.out (callOf x.f3) (call_ok HG.out)).mono (by omega) (by have := HQ.out; omega) (by omega), HN.out, HID.out, by have := HQI.out; omega, by have := HQI.out; omega⟩, (((((((S110.out).erase 12).erase 11).erase 10).erase 9).erase 8).erase 7)⟩⟩
   ·have t12 : decide (i < 80) = false := decide_eq_false (by omega)
    have t10 : decide ((i : Int) < 80) = false := decide_eq_false q9
    have Xq9 := Aside0.mk q9
    clear q9
    go_upto_region 7 with (fail)
    go_upto_region 32 with (fail)
    go_wp2_with (first | (go_at_call 14; (try simp only [hwl, hn1_, hn2_]); (with_reducible refine (worksT w _ _ SI.out).mono ?_); rintro e1 w113 ⟨rfl, h_⟩; have S112 := Aside0.mk h_; clear h_))
    try go_ret
    refine HPOST.out _ _ ?_
    exact ⟨rfl, S112.out.toBelow 8 rfl⟩
  ·have t8 : decide (i < acts.length) = false := decide_eq_false (by omega)
   have t6 : decide ((i : Int) < (acts.length : Int)) = false := decide_eq_false q5
   have Xq5 := Aside0.mk q5
   clear q5
   go_upto_region 7 with (fail)
   go_upto_region 32 with (fail)
   go_wp2_with (first | (go_at_call 14; (try simp only [hwl, hn1_, hn2_]); (with_reducible refine (worksT w _ _ SI.out).mono ?_); rintro e1 w115 ⟨rfl, h_⟩; have S114 := Aside0.mk h_; clear h_))
   try go_ret
   refine HPOST.out _ _ ?_
   exact ⟨rfl, S114.out.toBelow 8 rfl⟩
end Go.Proofs.Ytonedijkgddepaa.P
