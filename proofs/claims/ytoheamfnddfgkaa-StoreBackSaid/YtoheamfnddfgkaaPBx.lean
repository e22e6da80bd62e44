-- Written by a program of this session (pp.sh: the kit's print with some functions' texts given by hand).
import Derived.Test.YtoheamfnddfgkaaPBx0
import Derived.Test.YtoheamfnddfgkaaPBx1
import Derived.Test.YtoheamfnddfgkaaPBx2
import Derived.Test.YtoheamfnddfgkaaPBx3
import Derived.Test.YtoheamfnddfgkaaPBx4
import Derived.Test.YtoheamfnddfgkaaPBx5
import Derived.Test.YtoheamfnddfgkaaPBx6
import Derived.Test.YtoheamfnddfgkaaPBx7
namespace Go.Proofs.Ytoheamfnddfgkaa.PB
open Go.RowKit Go.Proofs.YtoheamfnddfgkaaW.PrintWords Go.Proofs.YtoheamfnddfgkaaW.PrintLast Go.Proofs.YtoheamfnddfgkaaW.PrintMore
attribute [local go_sem] max2_int min2_int max_two min_two max_three min_three max_four min_four   -- for this text's walks alone
set_option linter.unusedVariables false
set_option linter.unusedSimpArgs false

end Go.Proofs.Ytoheamfnddfgkaa.PB
