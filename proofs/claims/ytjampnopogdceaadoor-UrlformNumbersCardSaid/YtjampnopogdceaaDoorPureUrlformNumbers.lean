/- The plain law UrlformNumbers: pairs under a prefix, their numbers, and the first value of a name, are the document's. No conditions. -/
import Derived.Test.YtjampnopogdceaaDoorStmUrlformNumbers
import Derived.Test.YtjampnopogdceaaDoorPNum26
namespace Go.Proofs.YtjampnopogdceaaDoor.Pure
open Go.RowKit Go.Lib Go.Proofs.YtjampnopogdceaaDoor.P Go.Proofs.YtjampnopogdceaaDoorW.PrintWords Go.Proofs.YtjampnopogdceaaDoorW.PrintLast

def getS (a : ByteArray) (l : List S45) : ByteArray × Bool := match nmAt a l with | none => (⟨#[]⟩, false) | some k => ((rd_T45 l (k : Int)).f1, true)
theorem get_S (a : ByteArray) (l : List S45) : urlform_Get.f l a = some (getS a l) := by
  unfold urlform_Get.f getS
  cases nmAt a l <;> rfl
theorem getS_cons (a : ByteArray) (x : S45) (l : List S45) : getS a (x :: l) = if x.f0.toList = a.toList then (x.f1, true) else getS a l := by
  unfold getS
  rw [nmAt]
  unfold nmB
  by_cases h : x.f0.toList = a.toList
  · rw [if_pos h, if_pos (beq_iff_eq.2 h)]; rfl
  · rw [if_neg h, if_neg (by simpa using h)]
    cases nmAt a l with
    | none => rfl
    | some k =>
      show ((rd_T45 (x :: l) (((k + 1 : Nat)) : Int)).f1, true) = ((rd_T45 l (k : Int)).f1, true)
      rw [rd45_getD, rd45_getD, List.getD_cons_succ]
section
variable (q : L8) (hq : q.length ≤ 50) (m : List Pr) (hm : shortP m)
include hq hm
theorem end_ev (r1 : List Int) (r2 : Int) (hr : r1.length ≤ 1000) : Ev (fun k => racewaylaw26_UrlformNumbers.l0 k (m.map toS) (ofL q) r1 r2 r1 r2 (getS (ofL q) (m.map toS)).1 (getS (ofL q) (m.map toS)).2 (getS (ofL q) (m.map toS)).1 (getS (ofL q) (m.map toS)).2 (-1)) true := by
  have hlen := under_len q m
  have hml := hm.1
  have hs : Ev (fun k => racewayref26_Same.f k ((under q m).map toS) ((under q m).map toS)) true := ⟨2000, fun k hk => same_self _ (by rw [List.length_map]; omega) (by rw [List.length_map]; omega)⟩
  have hw : Ev (fun k => racewaylaw26_works.f k) true := ⟨10, fun k hk => worksAt hk⟩
  have hu := under_ev q hq m hm.1
  have hru := runder_ev q hq m hm.1
  have hn := sameNums_ev r1 hr
  generalize getS (ofL q) (m.map toS) = g
  refine Ev.step (fun k => ?_) (Ev.bind (f := fun k u => (racewayref26_Under.f k (m.map toS) (ofL q)).bind fun t230 => ((racewayref26_Same.f k u t230).bind fun t233 => (if t233 = true then ((racewayref01_SameNums.f k r1 r1).bind fun t234 => (if t234 = true then ((racewaylaw26_works.f k).bind fun t235 => (some t235)) else (some false))) else (some false)))) hu (Ev.bind hru (Ev.bind hs (Ev.congr (f := fun k => (racewayref01_SameNums.f k r1 r1).bind fun t234 => (if t234 = true then ((racewaylaw26_works.f k).bind fun t235 => (some t235)) else (some false))) (fun k => if_pos rfl) (Ev.bind hn (Ev.congr (f := fun k => (racewaylaw26_works.f k).bind fun t235 => (some t235)) (fun k => if_pos rfl) (Ev.bind hw (Ev.now _))))))))
  simp only [racewaylaw26_UrlformNumbers.l0]
  rw [if_neg (by decide)]
  simp
theorem loop_ev (r1 : List Int) (r2 : Int) (hr : r1.length ≤ 1000) : ∀ i : Nat, i ≤ m.length → Ev (fun k => racewaylaw26_UrlformNumbers.l0 k (m.map toS) (ofL q) r1 r2 r1 r2 (getS (ofL q) (m.map toS)).1 (getS (ofL q) (m.map toS)).2 (getS (ofL q) ((m.map toS).drop i)).1 (getS (ofL q) ((m.map toS).drop i)).2 ((i : Int) - 1)) true := by
  intro i
  induction i with
  | zero => intro _; rw [List.drop_zero]; exact end_ev q hq m hm r1 r2 hr
  | succ i ih =>
    intro h
    have hml := hm.1
    have hlt : i < (m.map toS).length := by rw [List.length_map]; omega
    have hx := ih (by omega)
    have hr := rdS (m.map toS) i hlt
    have w1 : wrap64 ((i : Int) - 1) = (i : Int) - 1 := wrapN (by omega) (by omega)
    rw [List.drop_eq_getElem_cons hlt, getS_cons] at hx
    rw [show ((i + 1 : Nat) : Int) - 1 = (i : Int) by omega]
    refine Ev.step (fun k => ?_) hx
    simp only [racewaylaw26_UrlformNumbers.l0]
    rw [hr, w1, if_pos (by omega), if_pos (by omega), if_pos (by omega)]
    split <;> rfl
end
theorem UrlformNumbers : racewaylaw26_UrlformNumbers.Pure := by
  intro l0 a1 h1 h2
  obtain ⟨m, hm, hf⟩ := few_ev l0
  obtain ⟨q, hq, hl, _⟩ := cutTo a1 50
  have mo := mn_ok a1 50
  rw [show ((50 : Nat) : Int) = 50 from rfl] at hq mo
  have hn := num_ev q hl m hm
  have hrn := rnum_ev q hl m hm
  have hlen := numbered_len ((under q m).map toS)
  generalize numbered ((under q m).map toS) = R at hn hrn hlen
  have hloop := loop_ev q hl m hm R.1 R.2 hlen m.length (Nat.le_refl _)
  rw [List.drop_eq_nil_of_le (by rw [List.length_map]; exact Nat.le_refl _)] at hloop
  have hml := hm.1
  have w1 : wrap64 (((m.map toS).length : Int) - 1) = (m.length : Int) - 1 := by rw [List.length_map]; exact wrapN (by omega) (by omega)
  refine Ev.rounds (Ev.bind hf ?_)
  refine Ev.congr (f := fun k => (urlform_Numbered.f k (m.map toS) (ofL q)).bind fun a => (racewayref26_Numbered.f k (m.map toS) (ofL q)).bind fun b => (urlform_Get.f (m.map toS) (ofL q)).bind fun c => racewaylaw26_UrlformNumbers.l0 k (m.map toS) (ofL q) a.1 a.2 b.1 b.2 c.1 c.2 (⟨#[]⟩ : ByteArray) false (wrap64 (((m.map toS).length : Int) - 1))) (fun k => ?_) ?_
  · rw [if_pos mo.1, if_pos mo.2, hq]
  · refine Ev.bind (f := fun k a => (racewayref26_Numbered.f k (m.map toS) (ofL q)).bind fun b => (urlform_Get.f (m.map toS) (ofL q)).bind fun c => racewaylaw26_UrlformNumbers.l0 k (m.map toS) (ofL q) a.1 a.2 b.1 b.2 c.1 c.2 (⟨#[]⟩ : ByteArray) false (wrap64 (((m.map toS).length : Int) - 1))) hn ?_
    refine Ev.bind (f := fun k b => (urlform_Get.f (m.map toS) (ofL q)).bind fun c => racewaylaw26_UrlformNumbers.l0 k (m.map toS) (ofL q) R.1 R.2 b.1 b.2 c.1 c.2 (⟨#[]⟩ : ByteArray) false (wrap64 (((m.map toS).length : Int) - 1))) hrn ?_
    refine Ev.congr (fun k => ?_) hloop
    rw [get_S, w1]
    rfl
end Go.Proofs.YtjampnopogdceaaDoor.Pure
