/- SessionLast's argument, opened out of the row's own reading. No conditions. -/
import Derived.Test.YthelhieeplfffaaHAct
namespace Go.Proofs.Ythelhieeplfffaa.P
open Go.RowKit Go.Proofs.YthelhieeplfffaaW.PrintWords Go.Proofs.YthelhieeplfffaaW.PrintLast
open Go.Proofs.Ythelhieeplfffaa.Opens
set_option linter.unusedVariables false

theorem opens54 : ∃ G, Opens Try.prog k54 54 G :=
  ⟨_, Opens.struct (t := 54) (K := _) (OpensS.cons (Opens.int Try.underlying3) (OpensS.cons (Opens.string Try.underlying9) (OpensS.cons (Opens.int Try.underlying3) (OpensS.one (Opens.int Try.underlying3))))) Try.underlying54 (by kernel_rfl) (by kernel_rfl) (by kernel_rfl) (fun x : S54 => (x.f0, x.f1, x.f2, x.f3)) (fun p => ⟨p.1, p.2.1, p.2.2.1, p.2.2.2⟩) (fun _ => rfl)⟩
theorem opens56 : ∃ G, Opens Try.prog k56 56 G := by
  obtain ⟨G, h⟩ := opens54
  exact ⟨_, Opens.struct (t := 56) (K := _) (OpensS.cons h (OpensS.cons (Opens.string Try.underlying9) (OpensS.one (Opens.int Try.underlying3)))) Try.underlying56 (by kernel_rfl) (by kernel_rfl) (by kernel_rfl) (fun x : S56 => (x.f0, x.f1, x.f2)) (fun p => ⟨p.1, p.2.1, p.2.2⟩) (fun _ => rfl)⟩
theorem opens76 : ∃ G, Opens Try.prog k76 76 G :=
  ⟨_, Opens.struct (t := 76) (K := _) (OpensS.cons (Opens.int Try.underlying3) (OpensS.one (Opens.int Try.underlying3))) Try.underlying76 (by kernel_rfl) (by kernel_rfl) (by kernel_rfl) (fun x : S76 => (x.f0, x.f1)) (fun p => ⟨p.1, p.2⟩) (fun _ => rfl)⟩
theorem opens32 : ∃ G, Opens Try.prog k32 32 G := by
  obtain ⟨G, h⟩ := opens56
  obtain ⟨G2, h2⟩ := opens76
  exact ⟨_, Opens.struct (t := 32) (K := _) (OpensS.cons (Opens.int Try.underlying27) (OpensS.cons (Opens.int Try.underlying3) (OpensS.cons (Opens.int Try.underlying3) (OpensS.cons (Opens.slice (b := 64) h Try.underlying28 (by kernel_rfl) (by kernel_rfl)) (OpensS.cons (Opens.slice (b := 16) (Opens.string Try.underlying9) Try.underlying29 (by kernel_rfl) (by kernel_rfl)) (OpensS.one (Opens.slice (b := 16) h2 Try.underlying30 (by kernel_rfl) (by kernel_rfl)))))))) Try.underlying32 (by kernel_rfl) (by kernel_rfl) (by kernel_rfl) (fun x : Rp => (x.e, x.s, x.n, x.got, x.data, x.about)) (fun p => ⟨p.1, p.2.1, p.2.2.1, p.2.2.2.1, p.2.2.2.2.1, p.2.2.2.2.2⟩) (fun _ => rfl)⟩
theorem opens34 : ∃ G, Opens Try.prog k34 34 G := by
  obtain ⟨G, h⟩ := opens32
  exact ⟨_, Opens.struct (t := 34) (K := _) (OpensS.cons (Opens.int Try.underlying3) (OpensS.cons (Opens.int Try.underlying3) (OpensS.cons (Opens.int Try.underlying3) (OpensS.cons h (OpensS.one (Opens.slice (b := 16) (Opens.string Try.underlying9) Try.underlying29 (by kernel_rfl) (by kernel_rfl))))))) Try.underlying34 (by kernel_rfl) (by kernel_rfl) (by kernel_rfl) (fun x : Ac => (x.kind, x.client, x.num, x.r, x.texts)) (fun p => ⟨p.1, p.2.1, p.2.2.1, p.2.2.2.1, p.2.2.2.2⟩) (fun _ => rfl)⟩
theorem opens22 : ∃ G, Opens Try.prog (Kd.slice 34 k34) 22 G := by
  obtain ⟨G, h⟩ := opens34
  exact ⟨_, Opens.slice (b := 144) h Try.underlying22 (by kernel_rfl) (by kernel_rfl)⟩
end Go.Proofs.Ythelhieeplfffaa.P
