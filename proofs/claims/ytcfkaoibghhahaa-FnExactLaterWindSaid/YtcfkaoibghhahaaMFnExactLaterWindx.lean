-- Written by a program for this claim.
import Derived.Test.YtcfkaoibghhahaaMFnExactLaterWindx0
import Derived.Test.YtcfkaoibghhahaaMFnExactLaterWindx1
import Derived.Test.YtcfkaoibghhahaaMFnExactLaterWindx2
import Derived.Test.YtcfkaoibghhahaaMFnExactLaterWindx3
import Derived.Test.YtcfkaoibghhahaaMFnExactLaterWindx4
import Derived.Test.YtcfkaoibghhahaaMFnExactLaterWindx5
import Derived.Test.YtcfkaoibghhahaaMFnExactLaterWindx6
import Derived.Test.YtcfkaoibghhahaaMFnExactLaterWindx7
import Derived.Test.YtcfkaoibghhahaaMFnExactLaterWindx8
namespace Go.Proofs.Ytcfkaoibghhahaa.MFnExactLaterWind
open Go.RowKit Go.Proofs.YtcfkaoibghhahaaW.PrintWords Go.Proofs.YtcfkaoibghhahaaW.PrintLast Go.Proofs.YtcfkaoibghhahaaW.PrintMore
attribute [local go_sem] max2_int min2_int max_two min_two max_three min_three max_four min_four   -- for this text's walks alone
set_option linter.unusedVariables false
set_option linter.unusedSimpArgs false

end Go.Proofs.Ytcfkaoibghhahaa.MFnExactLaterWind
