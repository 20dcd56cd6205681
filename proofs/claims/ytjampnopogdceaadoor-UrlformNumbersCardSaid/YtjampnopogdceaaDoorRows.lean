/-
  NARROWER THAN 'FOR EVERY INPUT', by the rows' own cells (each row's printed sentence says how): UrlformEscapes: laid · UrlformParts: laid · UrlformMany: laid · UrlformNumbers: laid · UrlformForms: laid · UrlformBack: laid.
  DERIVED. THE GIVEN ROWS OF THIS SEAT. 6 by the template 'for every input the law returns true; each argument reads behind the call as it read before'; 0 by the template 'total and deterministic' (their statements: YtjampnopogdceaaDoorTotals.lean).
  GIVEN WITH THE SEED: the statements are not yours to turn. If you find one false, say at which input.
  Laid BY PROGRAM, IN A SANDBOX (cutbox-rows.mjs): the forced cells as the released guide's own fill.sh prints them over the translation a744edc4a9d37a61… (all of the seat's roots in one cut). By AI agents, Wed Nov 11 2026. No macro, syntax, notation, axiom, sorry.
-/
import Derived.Test.YtjampnopogdceaaDoorChecked
import GoSem.PinnedTables
import GoSem.Claim
import GoSem.ClaimJoined
import GoSem.ClaimMapViews
import Derived.JoinedTies
import Derived.KernelRfl
namespace Go.Proofs.YtjampnopogdceaaDoor
/- THE CELL 'sum', in the pinned program and in every row, IS THE sha256 OF THE DUMP (.gsa) THAT YtjampnopogdceaaDoorProg.lean LOADS. Nothing in Lean hashes anything: it is a label: what it is worth is what the hold of that sum in a sandbox is worth. -/
noncomputable def Tryd.pinned : Pinned := { name := "ytjampnopogdceaadoor", sum := "a744edc4a9d37a61302c244b08633dd9a79300d82d0a4ef2d902712fc5568bea", checked := Tryd.checked }
namespace Rows
def none {H : Type} : Left H := { results := [], args := [] }

/- WHAT THE LISTED PACKAGE-LEVEL VARIABLES READ AS WHEN THE CALL BEGINS. Each datum BY PROGRAM (the guide's laid-datum.mjs) off the statement by which the dump's own 'gosem.cut.vars' lays the variable. In a bare row this is a premise. The card (YtjampnopogdceaaDoorCards.lean) ties it to the program's text. -/
def laid_unicode_utf8_acceptRanges {H : Type} : DataW H := .agg [.agg [.lit (.int .u8 128), .lit (.int .u8 191)], .agg [.lit (.int .u8 160), .lit (.int .u8 191)], .agg [.lit (.int .u8 128), .lit (.int .u8 159)], .agg [.lit (.int .u8 144), .lit (.int .u8 191)], .agg [.lit (.int .u8 128), .lit (.int .u8 143)], .agg [.lit (.int .u8 0), .lit (.int .u8 0)], .agg [.lit (.int .u8 0), .lit (.int .u8 0)], .agg [.lit (.int .u8 0), .lit (.int .u8 0)], .agg [.lit (.int .u8 0), .lit (.int .u8 0)], .agg [.lit (.int .u8 0), .lit (.int .u8 0)], .agg [.lit (.int .u8 0), .lit (.int .u8 0)], .agg [.lit (.int .u8 0), .lit (.int .u8 0)], .agg [.lit (.int .u8 0), .lit (.int .u8 0)], .agg [.lit (.int .u8 0), .lit (.int .u8 0)], .agg [.lit (.int .u8 0), .lit (.int .u8 0)], .agg [.lit (.int .u8 0), .lit (.int .u8 0)]]
/-- One of Go's own tables, pinned by name: the form's constant. -/
def laid_unicode_utf8_first : DataW Unit := Go.Pinned.utf8First

/-- 'racewaylaw26.UrlformEscapes': WHATEVER THE INPUT: true; the input reads as it did. -/
def urlformEscapesSpec : ChangeSpec := { name := "urlformEscapes", fn := fun _ => fun
  | [d] => { results := [.lit (.bool true)], args := [d] }
  | _ => none }
def urlformEscapesRow : OpenClaim := { program := "ytjampnopogdceaadoor", sum := "a744edc4a9d37a61302c244b08633dd9a79300d82d0a4ef2d902712fc5568bea", func := "raceway/racewaylaw26.UrlformEscapes", spec := "urlformEscapes", inPlace := ["internal/abi.NoEscape", "internal/bytealg.IndexByteString", "internal/bytealg.CountString", "internal/bytealg.IndexString"], unfollowed := true, recurses := true, named := ["unicode/utf8.first", "unicode/utf8.acceptRanges", "internal/bytealg.MaxLen"], apart := false, laid := [("unicode/utf8.acceptRanges", laid_unicode_utf8_acceptRanges), ("unicode/utf8.first", laid_unicode_utf8_first)] }
def UrlformEscapesSaid : Prop := urlformEscapesRow.holds Tryd.pinned (OpenSpec.ofChange urlformEscapesSpec)

/-- ITS FALSE NEIGHBOUR: 'it returns false'. Refute it at one input. -/
def urlformEscapesWrong : ChangeSpec := { name := "urlformEscapes", fn := fun _ => fun
  | [d] => { results := [.lit (.bool false)], args := [d] }
  | _ => none }
def UrlformEscapesWrongFalsely : Prop := urlformEscapesRow.holds Tryd.pinned (OpenSpec.ofChange urlformEscapesWrong)

/-- 'racewaylaw26.UrlformParts': WHATEVER THE INPUT: true; the input reads as it did. -/
def urlformPartsSpec : ChangeSpec := { name := "urlformParts", fn := fun _ => fun
  | [d1, d2] => { results := [.lit (.bool true)], args := [d1, d2] }
  | _ => none }
def urlformPartsRow : OpenClaim := { program := "ytjampnopogdceaadoor", sum := "a744edc4a9d37a61302c244b08633dd9a79300d82d0a4ef2d902712fc5568bea", func := "raceway/racewaylaw26.UrlformParts", spec := "urlformParts", inPlace := ["internal/bytealg.CountString", "internal/bytealg.IndexByteString", "internal/bytealg.IndexString", "internal/abi.NoEscape"], unfollowed := true, recurses := true, named := ["unicode/utf8.first", "unicode/utf8.acceptRanges", "internal/bytealg.MaxLen"], apart := false, laid := [("unicode/utf8.acceptRanges", laid_unicode_utf8_acceptRanges), ("unicode/utf8.first", laid_unicode_utf8_first)] }
def UrlformPartsSaid : Prop := urlformPartsRow.holds Tryd.pinned (OpenSpec.ofChange urlformPartsSpec)

/-- ITS FALSE NEIGHBOUR: 'it returns false'. Refute it at one input. -/
def urlformPartsWrong : ChangeSpec := { name := "urlformParts", fn := fun _ => fun
  | [d1, d2] => { results := [.lit (.bool false)], args := [d1, d2] }
  | _ => none }
def UrlformPartsWrongFalsely : Prop := urlformPartsRow.holds Tryd.pinned (OpenSpec.ofChange urlformPartsWrong)

/-- 'racewaylaw26.UrlformMany': WHATEVER THE INPUT: true; the input reads as it did. -/
def urlformManySpec : ChangeSpec := { name := "urlformMany", fn := fun _ => fun
  | [d] => { results := [.lit (.bool true)], args := [d] }
  | _ => none }
def urlformManyRow : OpenClaim := { program := "ytjampnopogdceaadoor", sum := "a744edc4a9d37a61302c244b08633dd9a79300d82d0a4ef2d902712fc5568bea", func := "raceway/racewaylaw26.UrlformMany", spec := "urlformMany", inPlace := ["internal/bytealg.CountString", "internal/bytealg.IndexByteString", "internal/bytealg.IndexString", "internal/abi.NoEscape"], unfollowed := true, recurses := true, named := ["unicode/utf8.first", "unicode/utf8.acceptRanges", "internal/bytealg.MaxLen"], apart := false, laid := [("unicode/utf8.acceptRanges", laid_unicode_utf8_acceptRanges), ("unicode/utf8.first", laid_unicode_utf8_first)] }
def UrlformManySaid : Prop := urlformManyRow.holds Tryd.pinned (OpenSpec.ofChange urlformManySpec)

/-- ITS FALSE NEIGHBOUR: 'it returns false'. Refute it at one input. -/
def urlformManyWrong : ChangeSpec := { name := "urlformMany", fn := fun _ => fun
  | [d] => { results := [.lit (.bool false)], args := [d] }
  | _ => none }
def UrlformManyWrongFalsely : Prop := urlformManyRow.holds Tryd.pinned (OpenSpec.ofChange urlformManyWrong)

/-- 'racewaylaw26.UrlformNumbers': WHATEVER THE INPUT: true; the input reads as it did. -/
def urlformNumbersSpec : ChangeSpec := { name := "urlformNumbers", fn := fun _ => fun
  | [d1, d2] => { results := [.lit (.bool true)], args := [d1, d2] }
  | _ => none }
def urlformNumbersRow : OpenClaim := { program := "ytjampnopogdceaadoor", sum := "a744edc4a9d37a61302c244b08633dd9a79300d82d0a4ef2d902712fc5568bea", func := "raceway/racewaylaw26.UrlformNumbers", spec := "urlformNumbers", inPlace := ["internal/bytealg.IndexByteString", "internal/bytealg.IndexString", "internal/bytealg.CountString", "internal/abi.NoEscape"], unfollowed := true, recurses := true, named := ["internal/bytealg.MaxLen", "unicode/utf8.first", "unicode/utf8.acceptRanges"], apart := false, laid := [("unicode/utf8.acceptRanges", laid_unicode_utf8_acceptRanges), ("unicode/utf8.first", laid_unicode_utf8_first)] }
def UrlformNumbersSaid : Prop := urlformNumbersRow.holds Tryd.pinned (OpenSpec.ofChange urlformNumbersSpec)

/-- ITS FALSE NEIGHBOUR: 'it returns false'. Refute it at one input. -/
def urlformNumbersWrong : ChangeSpec := { name := "urlformNumbers", fn := fun _ => fun
  | [d1, d2] => { results := [.lit (.bool false)], args := [d1, d2] }
  | _ => none }
def UrlformNumbersWrongFalsely : Prop := urlformNumbersRow.holds Tryd.pinned (OpenSpec.ofChange urlformNumbersWrong)

/-- 'racewaylaw26.UrlformForms': WHATEVER THE INPUT: true; the input reads as it did. -/
def urlformFormsSpec : ChangeSpec := { name := "urlformForms", fn := fun _ => fun
  | [d1, d2] => { results := [.lit (.bool true)], args := [d1, d2] }
  | _ => none }
def urlformFormsRow : OpenClaim := { program := "ytjampnopogdceaadoor", sum := "a744edc4a9d37a61302c244b08633dd9a79300d82d0a4ef2d902712fc5568bea", func := "raceway/racewaylaw26.UrlformForms", spec := "urlformForms", inPlace := ["internal/bytealg.CountString", "internal/bytealg.IndexByteString", "internal/bytealg.IndexString", "internal/abi.NoEscape", "internal/bytealg.MakeNoZero"], unfollowed := true, recurses := true, named := ["unicode/utf8.first", "unicode/utf8.acceptRanges", "internal/bytealg.MaxLen"], apart := false, laid := [("unicode/utf8.acceptRanges", laid_unicode_utf8_acceptRanges), ("unicode/utf8.first", laid_unicode_utf8_first)] }
def UrlformFormsSaid : Prop := urlformFormsRow.holds Tryd.pinned (OpenSpec.ofChange urlformFormsSpec)

/-- ITS FALSE NEIGHBOUR: 'it returns false'. Refute it at one input. -/
def urlformFormsWrong : ChangeSpec := { name := "urlformForms", fn := fun _ => fun
  | [d1, d2] => { results := [.lit (.bool false)], args := [d1, d2] }
  | _ => none }
def UrlformFormsWrongFalsely : Prop := urlformFormsRow.holds Tryd.pinned (OpenSpec.ofChange urlformFormsWrong)

/-- 'racewaylaw26.UrlformBack': WHATEVER THE INPUT: true; the input reads as it did. -/
def urlformBackSpec : ChangeSpec := { name := "urlformBack", fn := fun _ => fun
  | [d1, d2] => { results := [.lit (.bool true)], args := [d1, d2] }
  | _ => none }
def urlformBackRow : OpenClaim := { program := "ytjampnopogdceaadoor", sum := "a744edc4a9d37a61302c244b08633dd9a79300d82d0a4ef2d902712fc5568bea", func := "raceway/racewaylaw26.UrlformBack", spec := "urlformBack", inPlace := ["internal/abi.NoEscape", "internal/bytealg.IndexByteString", "internal/bytealg.MakeNoZero", "internal/bytealg.CountString", "internal/bytealg.IndexString"], unfollowed := true, recurses := true, named := ["unicode/utf8.first", "unicode/utf8.acceptRanges", "internal/bytealg.MaxLen"], apart := false, laid := [("unicode/utf8.acceptRanges", laid_unicode_utf8_acceptRanges), ("unicode/utf8.first", laid_unicode_utf8_first)] }
def UrlformBackSaid : Prop := urlformBackRow.holds Tryd.pinned (OpenSpec.ofChange urlformBackSpec)

/-- ITS FALSE NEIGHBOUR: 'it returns false'. Refute it at one input. -/
def urlformBackWrong : ChangeSpec := { name := "urlformBack", fn := fun _ => fun
  | [d1, d2] => { results := [.lit (.bool false)], args := [d1, d2] }
  | _ => none }
def UrlformBackWrongFalsely : Prop := urlformBackRow.holds Tryd.pinned (OpenSpec.ofChange urlformBackWrong)

/- THE SECOND FORM. 'bulk': how many values and letters a reading holds, each counted each time it is reached (what is shared counts as often as it is met; a slice's spare places count too). A statement '..UptoSaid' is the law's where the arguments, and the package variables that the reading takes, are together of bulk at most 1048576: NARROWER than '..Said'. Prove '..Said' where nothing that the law and all that it calls make is longer than what came in: it says more and counts as full. Else prove '..UptoSaid'. A law counts once. -/
mutual
def uptoBulk {H : Type} : DataW H → Nat
  | .lit (.string bytes) => bytes.length + 1
  | .lit _ => 1
  | .nil => 1
  | .ptr d => uptoBulk d + 1
  | .slice elems spare => uptoBulkAll elems + uptoBulkAll spare + 1
  | .agg parts => uptoBulkAll parts + 1
  | .iface _ d => uptoBulk d + 1
  | .map entries => uptoBulkEntries entries + 1
  | .held _ => 1
def uptoBulkAll {H : Type} : List (DataW H) → Nat
  | [] => 0
  | d :: r => uptoBulk d + uptoBulkAll r
def uptoBulkEntries {H : Type} : List (Lit × DataW H) → Nat
  | [] => 0
  | x :: r => uptoBulkEntry x + uptoBulkEntries r
def uptoBulkEntry {H : Type} : Lit × DataW H → Nat
  | (.string bytes, d) => bytes.length + uptoBulk d + 1
  | (_, d) => uptoBulk d + 1
 end
def uptoSmall : (H : Type) → List (DataW H) → Bool := fun _ ds => decide (uptoBulkAll ds ≤ 1048576)
def OpenSpec.upto (s : _root_.Go.ChangeSpec) : _root_.Go.OpenSpec := { _root_.Go.OpenSpec.ofChange s with cond := some uptoSmall }

/-- 'racewaylaw26.UrlformEscapes', WHERE WHAT IT READS IS OF BULK AT MOST 1048576: true; the input reads as it did. -/
def urlformEscapesUptoRow : OpenClaim := { program := "ytjampnopogdceaadoor", sum := "a744edc4a9d37a61302c244b08633dd9a79300d82d0a4ef2d902712fc5568bea", func := "raceway/racewaylaw26.UrlformEscapes", spec := "urlformEscapes", inPlace := ["internal/abi.NoEscape", "internal/bytealg.IndexByteString", "internal/bytealg.CountString", "internal/bytealg.IndexString"], unfollowed := true, recurses := true, named := ["unicode/utf8.first", "unicode/utf8.acceptRanges", "internal/bytealg.MaxLen"], apart := false, laid := [("unicode/utf8.acceptRanges", laid_unicode_utf8_acceptRanges), ("unicode/utf8.first", laid_unicode_utf8_first)], narrowed := true }
def UrlformEscapesUptoSaid : Prop := urlformEscapesUptoRow.holds Tryd.pinned (OpenSpec.upto urlformEscapesSpec)

/-- 'racewaylaw26.UrlformParts', WHERE WHAT IT READS IS OF BULK AT MOST 1048576: true; the input reads as it did. -/
def urlformPartsUptoRow : OpenClaim := { program := "ytjampnopogdceaadoor", sum := "a744edc4a9d37a61302c244b08633dd9a79300d82d0a4ef2d902712fc5568bea", func := "raceway/racewaylaw26.UrlformParts", spec := "urlformParts", inPlace := ["internal/bytealg.CountString", "internal/bytealg.IndexByteString", "internal/bytealg.IndexString", "internal/abi.NoEscape"], unfollowed := true, recurses := true, named := ["unicode/utf8.first", "unicode/utf8.acceptRanges", "internal/bytealg.MaxLen"], apart := false, laid := [("unicode/utf8.acceptRanges", laid_unicode_utf8_acceptRanges), ("unicode/utf8.first", laid_unicode_utf8_first)], narrowed := true }
def UrlformPartsUptoSaid : Prop := urlformPartsUptoRow.holds Tryd.pinned (OpenSpec.upto urlformPartsSpec)

/-- 'racewaylaw26.UrlformMany', WHERE WHAT IT READS IS OF BULK AT MOST 1048576: true; the input reads as it did. -/
def urlformManyUptoRow : OpenClaim := { program := "ytjampnopogdceaadoor", sum := "a744edc4a9d37a61302c244b08633dd9a79300d82d0a4ef2d902712fc5568bea", func := "raceway/racewaylaw26.UrlformMany", spec := "urlformMany", inPlace := ["internal/bytealg.CountString", "internal/bytealg.IndexByteString", "internal/bytealg.IndexString", "internal/abi.NoEscape"], unfollowed := true, recurses := true, named := ["unicode/utf8.first", "unicode/utf8.acceptRanges", "internal/bytealg.MaxLen"], apart := false, laid := [("unicode/utf8.acceptRanges", laid_unicode_utf8_acceptRanges), ("unicode/utf8.first", laid_unicode_utf8_first)], narrowed := true }
def UrlformManyUptoSaid : Prop := urlformManyUptoRow.holds Tryd.pinned (OpenSpec.upto urlformManySpec)

/-- 'racewaylaw26.UrlformNumbers', WHERE WHAT IT READS IS OF BULK AT MOST 1048576: true; the input reads as it did. -/
def urlformNumbersUptoRow : OpenClaim := { program := "ytjampnopogdceaadoor", sum := "a744edc4a9d37a61302c244b08633dd9a79300d82d0a4ef2d902712fc5568bea", func := "raceway/racewaylaw26.UrlformNumbers", spec := "urlformNumbers", inPlace := ["internal/bytealg.IndexByteString", "internal/bytealg.IndexString", "internal/bytealg.CountString", "internal/abi.NoEscape"], unfollowed := true, recurses := true, named := ["internal/bytealg.MaxLen", "unicode/utf8.first", "unicode/utf8.acceptRanges"], apart := false, laid := [("unicode/utf8.acceptRanges", laid_unicode_utf8_acceptRanges), ("unicode/utf8.first", laid_unicode_utf8_first)], narrowed := true }
def UrlformNumbersUptoSaid : Prop := urlformNumbersUptoRow.holds Tryd.pinned (OpenSpec.upto urlformNumbersSpec)

/-- 'racewaylaw26.UrlformForms', WHERE WHAT IT READS IS OF BULK AT MOST 1048576: true; the input reads as it did. -/
def urlformFormsUptoRow : OpenClaim := { program := "ytjampnopogdceaadoor", sum := "a744edc4a9d37a61302c244b08633dd9a79300d82d0a4ef2d902712fc5568bea", func := "raceway/racewaylaw26.UrlformForms", spec := "urlformForms", inPlace := ["internal/bytealg.CountString", "internal/bytealg.IndexByteString", "internal/bytealg.IndexString", "internal/abi.NoEscape", "internal/bytealg.MakeNoZero"], unfollowed := true, recurses := true, named := ["unicode/utf8.first", "unicode/utf8.acceptRanges", "internal/bytealg.MaxLen"], apart := false, laid := [("unicode/utf8.acceptRanges", laid_unicode_utf8_acceptRanges), ("unicode/utf8.first", laid_unicode_utf8_first)], narrowed := true }
def UrlformFormsUptoSaid : Prop := urlformFormsUptoRow.holds Tryd.pinned (OpenSpec.upto urlformFormsSpec)

/-- 'racewaylaw26.UrlformBack', WHERE WHAT IT READS IS OF BULK AT MOST 1048576: true; the input reads as it did. -/
def urlformBackUptoRow : OpenClaim := { program := "ytjampnopogdceaadoor", sum := "a744edc4a9d37a61302c244b08633dd9a79300d82d0a4ef2d902712fc5568bea", func := "raceway/racewaylaw26.UrlformBack", spec := "urlformBack", inPlace := ["internal/abi.NoEscape", "internal/bytealg.IndexByteString", "internal/bytealg.MakeNoZero", "internal/bytealg.CountString", "internal/bytealg.IndexString"], unfollowed := true, recurses := true, named := ["unicode/utf8.first", "unicode/utf8.acceptRanges", "internal/bytealg.MaxLen"], apart := false, laid := [("unicode/utf8.acceptRanges", laid_unicode_utf8_acceptRanges), ("unicode/utf8.first", laid_unicode_utf8_first)], narrowed := true }
def UrlformBackUptoSaid : Prop := urlformBackUptoRow.holds Tryd.pinned (OpenSpec.upto urlformBackSpec)

end Rows
end Go.Proofs.YtjampnopogdceaaDoor
