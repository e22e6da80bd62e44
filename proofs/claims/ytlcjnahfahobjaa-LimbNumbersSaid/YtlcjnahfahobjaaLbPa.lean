/- limb: plain: the document's digits: halves, low, limbs, digit. -/
import Derived.Test.YtlcjnahfahobjaaPDx0
import Derived.Test.YtlcjnahfahobjaaLbC
import Derived.Test.YtlcjnahfahobjaaLbDg
namespace Go.Proofs.Ytlcjnahfahobjaa.Lb
open Go.RowKit Go.Proofs.YtlcjnahfahobjaaW.PrintWords Go.Proofs.Ytlcjnahfahobjaa.PD
set_option linter.unusedVariables false
set_option linter.unusedSimpArgs false

theorem w1 (i : Nat) (h : i < 9223372036854775807) : wrap64 ((i : Int) + 1) = ((i + 1 : Nat) : Int) := by unfold wrap64; omega
theorem w2 (i : Nat) (h : i < 9223372036854775800) : wrap64 ((i : Int) + 2) = ((i + 2 : Nat) : Int) := by unfold wrap64; omega
end Go.Proofs.Ytlcjnahfahobjaa.Lb
