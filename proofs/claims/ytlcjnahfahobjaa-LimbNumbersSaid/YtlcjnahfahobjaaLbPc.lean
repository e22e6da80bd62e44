/- limb: plain: the document's order, sums, differences of whole numbers are the program's. -/
import Derived.Test.YtlcjnahfahobjaaPDx0
import Derived.Test.YtlcjnahfahobjaaLbC
import Derived.Test.YtlcjnahfahobjaaLbPa
import Derived.Test.YtlcjnahfahobjaaLbT
import Derived.Test.YtlcjnahfahobjaaLbW
namespace Go.Proofs.Ytlcjnahfahobjaa.Lb
open Go.RowKit Go.Proofs.YtlcjnahfahobjaaW.PrintWords Go.Proofs.Ytlcjnahfahobjaa.PD
set_option linter.unusedVariables false
set_option linter.unusedSimpArgs false

/-- A sign and a size. -/
def vz (s : Bool) (a : Nat) : Int := if s then -(a : Int) else a
theorem bit_len (n K : Nat) : bitN n ≤ 64 * K ↔ (toL n).length ≤ K := by rw [bitN_le, ← B64_pow2, length_toL_le]
end Go.Proofs.Ytlcjnahfahobjaa.Lb
