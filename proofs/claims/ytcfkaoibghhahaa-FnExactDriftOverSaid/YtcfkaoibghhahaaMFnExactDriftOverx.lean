-- Written by a program for this claim.
import Derived.Test.YtcfkaoibghhahaaMFnExactDriftOverx0
import Derived.Test.YtcfkaoibghhahaaMFnExactDriftOverx1
import Derived.Test.YtcfkaoibghhahaaMFnExactDriftOverx2
import Derived.Test.YtcfkaoibghhahaaMFnExactDriftOverx3
import Derived.Test.YtcfkaoibghhahaaMFnExactDriftOverx4
import Derived.Test.YtcfkaoibghhahaaMFnExactDriftOverx5
import Derived.Test.YtcfkaoibghhahaaMFnExactDriftOverx6
namespace Go.Proofs.Ytcfkaoibghhahaa.MFnExactDriftOver
open Go.RowKit Go.Proofs.YtcfkaoibghhahaaW.PrintWords Go.Proofs.YtcfkaoibghhahaaW.PrintLast Go.Proofs.YtcfkaoibghhahaaW.PrintMore
attribute [local go_sem] max2_int min2_int max_two min_two max_three min_three max_four min_four   -- for this text's walks alone
set_option linter.unusedVariables false
set_option linter.unusedSimpArgs false

end Go.Proofs.Ytcfkaoibghhahaa.MFnExactDriftOver
