/- Numbers as bytes, seven bits each, in plain words: what is read is what was written. No conditions. -/
import Derived.Lib.SplitLaws
namespace Go.Proofs.Yteppmdafdopehaa.P
set_option linter.unusedVariables false
abbrev L8 := List UInt8
def enc (n : Nat) : L8 := if h : n < 128 then [UInt8.ofNat n] else UInt8.ofNat (n % 128 + 128) :: enc (n / 128)
termination_by n
decreasing_by omega
end Go.Proofs.Yteppmdafdopehaa.P
