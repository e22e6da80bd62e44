/- store: plain: the document's Right. -/
import Derived.Test.YtoheamfnddfgkaaStR
namespace Go.Proofs.Ytoheamfnddfgkaa.St
open Go.RowKit Go.Proofs.YtoheamfnddfgkaaW.PrintWords Go.Proofs.Ytoheamfnddfgkaa.PB
set_option linter.unusedVariables false
set_option linter.unusedSimpArgs false

theorem rright_f (s : Bool) (l : List Int) (hm : l.length ≤ 9223372036854775807) : rosetteref00_RightInt.f s l = some (rightB s l) := by
 unfold rosetteref00_RightInt.f rightB
 have hw : wrap64 ((l.length : Int) - 1) = (l.length : Int) - 1 := by unfold wrap64; omega
 rw [hw]
 by_cases h0 : l.length = 0
 ·rw [if_pos (by omega), if_pos h0]
 ·rw [if_neg (by omega), if_neg h0]
  by_cases h1 : l.length ≤ 4096
  ·rw [if_pos (by omega), if_pos (by omega), if_pos (by omega)]
   have e : rd l ((l.length : Int) - 1) = l.getD (l.length - 1) 0 := by
    unfold rd
    congr 1
    omega
   rw [e]
   simp [h1]
  ·rw [if_neg (by omega)]
   simp [h1]
end Go.Proofs.Ytoheamfnddfgkaa.St
