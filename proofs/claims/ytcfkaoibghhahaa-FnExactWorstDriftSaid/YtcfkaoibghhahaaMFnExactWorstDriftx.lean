-- Written by a program for this claim.
import Derived.Test.YtcfkaoibghhahaaMFnExactWorstDriftx0
import Derived.Test.YtcfkaoibghhahaaMFnExactWorstDriftx1
import Derived.Test.YtcfkaoibghhahaaMFnExactWorstDriftx2
import Derived.Test.YtcfkaoibghhahaaMFnExactWorstDriftx3
import Derived.Test.YtcfkaoibghhahaaMFnExactWorstDriftx4
import Derived.Test.YtcfkaoibghhahaaMFnExactWorstDriftx5
import Derived.Test.YtcfkaoibghhahaaMFnExactWorstDriftx6
import Derived.Test.YtcfkaoibghhahaaMFnExactWorstDriftx7
import Derived.Test.YtcfkaoibghhahaaMFnExactWorstDriftx8
namespace Go.Proofs.Ytcfkaoibghhahaa.MFnExactWorstDrift
open Go.RowKit Go.Proofs.YtcfkaoibghhahaaW.PrintWords Go.Proofs.YtcfkaoibghhahaaW.PrintLast Go.Proofs.YtcfkaoibghhahaaW.PrintMore
attribute [local go_sem] max2_int min2_int max_two min_two max_three min_three max_four min_four   -- for this text's walks alone
set_option linter.unusedVariables false
set_option linter.unusedSimpArgs false

end Go.Proofs.Ytcfkaoibghhahaa.MFnExactWorstDrift
