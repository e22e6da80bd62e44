/- limb: how the arguments of a law read: a struct of a bool and a row of words. -/
import Derived.Test.YtplignahjhenjaaRows
import Derived.SizedLaws
import Derived.ChangeSlices
import Derived.Test.YtplignahjhenjaaLbM
import Derived.Test.YtplignahjhenjaaWAll
import Derived.Lib.SmallJoins
import Derived.ProofKit
import Derived.OpenShut
import Derived.ChangeOld
import Derived.Below
namespace Go.Proofs.Ytplignahjhenjaa.Lb
open Go.ChangeShapes Go.WideShapes Go.ChangeAt Go.RowKit Go.Deep Go.Proofs.YtplignahjhenjaaW.PrintWords
set_option linter.unusedVariables false
set_option linter.unusedSimpArgs false

theorem of_wf {n : Int} (h : (Lit.int .i64 n).wf = true) : -9223372036854775808 ≤ n ∧ n ≤ 9223372036854775807 := by
  simp [Lit.wf] at h
  have e0 : IntKind.i64.min = -9223372036854775808 := by decide
  have e1 : IntKind.i64.max = 9223372036854775807 := by decide
  omega
section
variable {H : Type} {enc : TypeId × Value → H} {P : Program} {W : World} {base : Nat} {held : Bool}
end
end Go.Proofs.Ytplignahjhenjaa.Lb
