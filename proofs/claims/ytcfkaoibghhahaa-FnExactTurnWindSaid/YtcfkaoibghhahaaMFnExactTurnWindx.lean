-- Written by a program for this claim.
import Derived.Test.YtcfkaoibghhahaaMFnExactTurnWindx0
import Derived.Test.YtcfkaoibghhahaaMFnExactTurnWindx1
import Derived.Test.YtcfkaoibghhahaaMFnExactTurnWindx2
import Derived.Test.YtcfkaoibghhahaaMFnExactTurnWindx3
import Derived.Test.YtcfkaoibghhahaaMFnExactTurnWindx4
import Derived.Test.YtcfkaoibghhahaaMFnExactTurnWindx5
import Derived.Test.YtcfkaoibghhahaaMFnExactTurnWindx6
namespace Go.Proofs.Ytcfkaoibghhahaa.MFnExactTurnWind
open Go.RowKit Go.Proofs.YtcfkaoibghhahaaW.PrintWords Go.Proofs.YtcfkaoibghhahaaW.PrintLast Go.Proofs.YtcfkaoibghhahaaW.PrintMore
attribute [local go_sem] max2_int min2_int max_two min_two max_three min_three max_four min_four   -- for this text's walks alone
set_option linter.unusedVariables false
set_option linter.unusedSimpArgs false

end Go.Proofs.Ytcfkaoibghhahaa.MFnExactTurnWind
