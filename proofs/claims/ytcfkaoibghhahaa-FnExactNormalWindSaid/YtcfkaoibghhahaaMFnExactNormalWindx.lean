-- Written by a program for this claim.
import Derived.Test.YtcfkaoibghhahaaMFnExactNormalWindx0
import Derived.Test.YtcfkaoibghhahaaMFnExactNormalWindx1
import Derived.Test.YtcfkaoibghhahaaMFnExactNormalWindx2
import Derived.Test.YtcfkaoibghhahaaMFnExactNormalWindx3
import Derived.Test.YtcfkaoibghhahaaMFnExactNormalWindx4
import Derived.Test.YtcfkaoibghhahaaMFnExactNormalWindx5
import Derived.Test.YtcfkaoibghhahaaMFnExactNormalWindx6
import Derived.Test.YtcfkaoibghhahaaMFnExactNormalWindx7
namespace Go.Proofs.Ytcfkaoibghhahaa.MFnExactNormalWind
open Go.RowKit Go.Proofs.YtcfkaoibghhahaaW.PrintWords Go.Proofs.YtcfkaoibghhahaaW.PrintLast Go.Proofs.YtcfkaoibghhahaaW.PrintMore
attribute [local go_sem] max2_int min2_int max_two min_two max_three min_three max_four min_four   -- for this text's walks alone
set_option linter.unusedVariables false
set_option linter.unusedSimpArgs false

end Go.Proofs.Ytcfkaoibghhahaa.MFnExactNormalWind
