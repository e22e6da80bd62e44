/- limb: plain: digits of 32 bits, the lowest first. -/
import Derived.Test.YtlcjnahfahobjaaLbM
set_option linter.unusedVariables false
namespace Go.Proofs.Ytlcjnahfahobjaa.Lb

/-- What digits are worth. -/
def nd : List Int → Nat
  | [] => 0
  | x :: l => x.toNat + 4294967296 * nd l
/-- Limbs in halves. -/
def hv : List Int → List Int
  | [] => []
  | x :: l => x % 4294967296 :: x / 4294967296 :: hv l
end Go.Proofs.Ytlcjnahfahobjaa.Lb
