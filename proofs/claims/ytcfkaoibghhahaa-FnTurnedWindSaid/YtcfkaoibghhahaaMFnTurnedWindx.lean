-- Written by a program for this claim.
import Derived.Test.YtcfkaoibghhahaaMFnTurnedWindx0
import Derived.Test.YtcfkaoibghhahaaMFnTurnedWindx1
import Derived.Test.YtcfkaoibghhahaaMFnTurnedWindx2
import Derived.Test.YtcfkaoibghhahaaMFnTurnedWindx3
import Derived.Test.YtcfkaoibghhahaaMFnTurnedWindx4
import Derived.Test.YtcfkaoibghhahaaMFnTurnedWindx5
import Derived.Test.YtcfkaoibghhahaaMFnTurnedWindx6
import Derived.Test.YtcfkaoibghhahaaMFnTurnedWindx7
import Derived.Test.YtcfkaoibghhahaaMFnTurnedWindx8
namespace Go.Proofs.Ytcfkaoibghhahaa.MFnTurnedWind
open Go.RowKit Go.Proofs.YtcfkaoibghhahaaW.PrintWords Go.Proofs.YtcfkaoibghhahaaW.PrintLast Go.Proofs.YtcfkaoibghhahaaW.PrintMore
attribute [local go_sem] max2_int min2_int max_two min_two max_three min_three max_four min_four   -- for this text's walks alone
set_option linter.unusedVariables false
set_option linter.unusedSimpArgs false

end Go.Proofs.Ytcfkaoibghhahaa.MFnTurnedWind
