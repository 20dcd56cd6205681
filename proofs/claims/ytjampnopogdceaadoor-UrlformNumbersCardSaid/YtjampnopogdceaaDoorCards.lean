/-
  DERIVED. GIVEN WITH THE SEED: THE CARDS: each row of YtjampnopogdceaaDoorRows.lean that lists a variable, with what it lists TIED to the program's text (the seventh form; the later family's looks); each row that meets fmt, with fmt's text TOLD by the authors' own Lean function (tested against real Go, not proved from fmt's source: count such statements apart). THE CARD IS WHAT COUNTS. Prove the row's statement (the work); the ties are given (YtjampnopogdceaaDoorTie.lean); close each card by the builder's one call (the guide's Derived/Test/ToyasCard.lean, 'card_holds'). Laid BY PROGRAM, IN A SANDBOX (cutbox-door.mjs). By AI agents, Wed Nov 11 2026. No macro, syntax, notation, axiom, sorry.
-/
import Derived.Test.YtjampnopogdceaaDoorRows
import GoSem.ClaimSeven
namespace Go.Proofs.YtjampnopogdceaaDoor
namespace Rows

/-- THE TIED CARD OF 'racewaylaw26.UrlformEscapes'. -/
def urlformEscapesCard : Claim7 := { stood := { row := urlformEscapesRow, standIns := [], harness := (true, "62d655507ddd186663affa97f614cc09f03a1bec3c2f3d43f99aa2e2c984860e"), looks := false }, kinds := [], alts := [], laidByText := true, laidKinds := [.data, .pinned], laidTests := true, laidLooks := .later }
def UrlformEscapesCardSaid : Prop := Claim7.holds Tryd.pinned (.plain (OpenSpec.ofChange urlformEscapesSpec)) urlformEscapesCard

/-- THE TIED CARD OF 'racewaylaw26.UrlformParts'. -/
def urlformPartsCard : Claim7 := { stood := { row := urlformPartsRow, standIns := [], harness := (true, "62d655507ddd186663affa97f614cc09f03a1bec3c2f3d43f99aa2e2c984860e"), looks := false }, kinds := [], alts := [], laidByText := true, laidKinds := [.data, .pinned], laidTests := true, laidLooks := .later }
def UrlformPartsCardSaid : Prop := Claim7.holds Tryd.pinned (.plain (OpenSpec.ofChange urlformPartsSpec)) urlformPartsCard

/-- THE TIED CARD OF 'racewaylaw26.UrlformMany'. -/
def urlformManyCard : Claim7 := { stood := { row := urlformManyRow, standIns := [], harness := (true, "62d655507ddd186663affa97f614cc09f03a1bec3c2f3d43f99aa2e2c984860e"), looks := false }, kinds := [], alts := [], laidByText := true, laidKinds := [.data, .pinned], laidTests := true, laidLooks := .later }
def UrlformManyCardSaid : Prop := Claim7.holds Tryd.pinned (.plain (OpenSpec.ofChange urlformManySpec)) urlformManyCard

/-- THE TIED CARD OF 'racewaylaw26.UrlformNumbers'. -/
def urlformNumbersCard : Claim7 := { stood := { row := urlformNumbersRow, standIns := [], harness := (true, "62d655507ddd186663affa97f614cc09f03a1bec3c2f3d43f99aa2e2c984860e"), looks := false }, kinds := [], alts := [], laidByText := true, laidKinds := [.data, .pinned], laidTests := true, laidLooks := .later }
def UrlformNumbersCardSaid : Prop := Claim7.holds Tryd.pinned (.plain (OpenSpec.ofChange urlformNumbersSpec)) urlformNumbersCard

/-- THE TIED CARD OF 'racewaylaw26.UrlformForms'. -/
def urlformFormsCard : Claim7 := { stood := { row := urlformFormsRow, standIns := [], harness := (true, "62d655507ddd186663affa97f614cc09f03a1bec3c2f3d43f99aa2e2c984860e"), looks := false }, kinds := [], alts := [], laidByText := true, laidKinds := [.data, .pinned], laidTests := true, laidLooks := .later }
def UrlformFormsCardSaid : Prop := Claim7.holds Tryd.pinned (.plain (OpenSpec.ofChange urlformFormsSpec)) urlformFormsCard

/-- THE TIED CARD OF 'racewaylaw26.UrlformBack'. -/
def urlformBackCard : Claim7 := { stood := { row := urlformBackRow, standIns := [], harness := (true, "62d655507ddd186663affa97f614cc09f03a1bec3c2f3d43f99aa2e2c984860e"), looks := false }, kinds := [], alts := [], laidByText := true, laidKinds := [.data, .pinned], laidTests := true, laidLooks := .later }
def UrlformBackCardSaid : Prop := Claim7.holds Tryd.pinned (.plain (OpenSpec.ofChange urlformBackSpec)) urlformBackCard

/-- THE SECOND FORM's CARD OF 'racewaylaw26.UrlformEscapes'. -/
def urlformEscapesUptoCard : Claim7 := { stood := { row := urlformEscapesUptoRow, standIns := [], harness := (true, "62d655507ddd186663affa97f614cc09f03a1bec3c2f3d43f99aa2e2c984860e"), looks := false }, kinds := [], alts := [], laidByText := true, laidKinds := [.data, .pinned], laidTests := true, laidLooks := .later }
def UrlformEscapesUptoCardSaid : Prop := Claim7.holds Tryd.pinned (.plain (OpenSpec.upto urlformEscapesSpec)) urlformEscapesUptoCard

/-- THE SECOND FORM's CARD OF 'racewaylaw26.UrlformParts'. -/
def urlformPartsUptoCard : Claim7 := { stood := { row := urlformPartsUptoRow, standIns := [], harness := (true, "62d655507ddd186663affa97f614cc09f03a1bec3c2f3d43f99aa2e2c984860e"), looks := false }, kinds := [], alts := [], laidByText := true, laidKinds := [.data, .pinned], laidTests := true, laidLooks := .later }
def UrlformPartsUptoCardSaid : Prop := Claim7.holds Tryd.pinned (.plain (OpenSpec.upto urlformPartsSpec)) urlformPartsUptoCard

/-- THE SECOND FORM's CARD OF 'racewaylaw26.UrlformMany'. -/
def urlformManyUptoCard : Claim7 := { stood := { row := urlformManyUptoRow, standIns := [], harness := (true, "62d655507ddd186663affa97f614cc09f03a1bec3c2f3d43f99aa2e2c984860e"), looks := false }, kinds := [], alts := [], laidByText := true, laidKinds := [.data, .pinned], laidTests := true, laidLooks := .later }
def UrlformManyUptoCardSaid : Prop := Claim7.holds Tryd.pinned (.plain (OpenSpec.upto urlformManySpec)) urlformManyUptoCard

/-- THE SECOND FORM's CARD OF 'racewaylaw26.UrlformNumbers'. -/
def urlformNumbersUptoCard : Claim7 := { stood := { row := urlformNumbersUptoRow, standIns := [], harness := (true, "62d655507ddd186663affa97f614cc09f03a1bec3c2f3d43f99aa2e2c984860e"), looks := false }, kinds := [], alts := [], laidByText := true, laidKinds := [.data, .pinned], laidTests := true, laidLooks := .later }
def UrlformNumbersUptoCardSaid : Prop := Claim7.holds Tryd.pinned (.plain (OpenSpec.upto urlformNumbersSpec)) urlformNumbersUptoCard

/-- THE SECOND FORM's CARD OF 'racewaylaw26.UrlformForms'. -/
def urlformFormsUptoCard : Claim7 := { stood := { row := urlformFormsUptoRow, standIns := [], harness := (true, "62d655507ddd186663affa97f614cc09f03a1bec3c2f3d43f99aa2e2c984860e"), looks := false }, kinds := [], alts := [], laidByText := true, laidKinds := [.data, .pinned], laidTests := true, laidLooks := .later }
def UrlformFormsUptoCardSaid : Prop := Claim7.holds Tryd.pinned (.plain (OpenSpec.upto urlformFormsSpec)) urlformFormsUptoCard

/-- THE SECOND FORM's CARD OF 'racewaylaw26.UrlformBack'. -/
def urlformBackUptoCard : Claim7 := { stood := { row := urlformBackUptoRow, standIns := [], harness := (true, "62d655507ddd186663affa97f614cc09f03a1bec3c2f3d43f99aa2e2c984860e"), looks := false }, kinds := [], alts := [], laidByText := true, laidKinds := [.data, .pinned], laidTests := true, laidLooks := .later }
def UrlformBackUptoCardSaid : Prop := Claim7.holds Tryd.pinned (.plain (OpenSpec.upto urlformBackSpec)) urlformBackUptoCard
end Rows
end Go.Proofs.YtjampnopogdceaaDoor
