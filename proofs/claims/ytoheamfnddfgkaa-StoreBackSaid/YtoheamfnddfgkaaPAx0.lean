-- Written by a program of this session (pp.sh: the kit's print with some functions' texts given by hand).
import Derived.Test.YtoheamfnddfgkaaProg
import Derived.Below
import Derived.Deep.Draws
import Derived.Deep.AppendLies
import Derived.Maps.AppendAt
import Derived.OwnWalk
import Derived.Laws.BytesArg
import Derived.Laws.MakeOwn
import Derived.Laws.OwnMore
import Derived.Deep.OwnRows
import Derived.Tactics
import Derived.Lib.ConvBytes
import Derived.Laws.Slices
import Derived.WalkKit
import Derived.KernelRfl
import Derived.RowKit3
import Derived.Deep.LoopGhost
import Derived.Deep.QuietTactic
import Derived.BigQuiet
import Derived.WideLaws
import Derived.Deep.DeepCutAuto
import Derived.Deep.CutBlock
import Derived.Deep.RegionHeld3
import Derived.Laws.Rows
import Derived.Lib.AppendStr
import Derived.ArgAppend
import Derived.Laws.IdiomCopy
import Derived.OrdersHeld
import Derived.Laws.BitsLemmas
import Derived.RowKit
import Derived.Test.YtoheamfnddfgkaaWWords
import Derived.Test.YtoheamfnddfgkaaWLast
import Derived.Test.YtoheamfnddfgkaaWTab
import Derived.Test.YtoheamfnddfgkaaWFour
import Derived.Test.YtoheamfnddfgkaaWQPut
import Derived.Test.YtoheamfnddfgkaaWApart
import Derived.Test.YtoheamfnddfgkaaWArr
import Derived.Test.YtoheamfnddfgkaaWZeros
import Derived.Test.YtoheamfnddfgkaaWFoot
import Derived.Test.YtoheamfnddfgkaaWKept
import Derived.Test.YtoheamfnddfgkaaWShare
import Derived.Test.YtoheamfnddfgkaaWN
import Derived.Test.YtoheamfnddfgkaaWFootNe
import Derived.Test.YtoheamfnddfgkaaWAt
import Derived.Test.YtoheamfnddfgkaaWEqStruct
import Derived.Test.YtoheamfnddfgkaaWRepsOne
import Derived.Test.YtoheamfnddfgkaaWInv
import Derived.Test.YtoheamfnddfgkaaWInvWords
import Derived.Test.YtoheamfnddfgkaaWGuard
import Derived.Test.YtoheamfnddfgkaaWNEv
import Derived.Test.YtoheamfnddfgkaaWMore
namespace Go.Proofs.Ytoheamfnddfgkaa.PA
open Go.RowKit Go.Proofs.YtoheamfnddfgkaaW.PrintWords Go.Proofs.YtoheamfnddfgkaaW.PrintLast Go.Proofs.YtoheamfnddfgkaaW.PrintMore
attribute [local go_sem] max2_int min2_int max_two min_two max_three min_three max_four min_four   -- for this text's walks alone
set_option linter.unusedVariables false
set_option linter.unusedSimpArgs false



def errW : Option Int → Value
  | none => .nilIface
  | some c => .iface 0 (.int .i64 c)
theorem errW_none : errW none = .nilIface := rfl
theorem errW_some (c : Int) : errW (some c) = .iface 0 (.int .i64 c) := rfl

-- the values' own types

end Go.Proofs.Ytoheamfnddfgkaa.PA
