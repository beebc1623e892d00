-- Written by a program for this claim.
import Derived.Test.YtcfkaoibghhahaaMFnExactJoinWindsx0
import Derived.Test.YtcfkaoibghhahaaMFnExactJoinWindsx1
import Derived.Test.YtcfkaoibghhahaaMFnExactJoinWindsx2
import Derived.Test.YtcfkaoibghhahaaMFnExactJoinWindsx3
import Derived.Test.YtcfkaoibghhahaaMFnExactJoinWindsx4
import Derived.Test.YtcfkaoibghhahaaMFnExactJoinWindsx5
import Derived.Test.YtcfkaoibghhahaaMFnExactJoinWindsx6
import Derived.Test.YtcfkaoibghhahaaMFnExactJoinWindsx7
import Derived.Test.YtcfkaoibghhahaaMFnExactJoinWindsx8
namespace Go.Proofs.Ytcfkaoibghhahaa.MFnExactJoinWinds
open Go.RowKit Go.Proofs.YtcfkaoibghhahaaW.PrintWords Go.Proofs.YtcfkaoibghhahaaW.PrintLast Go.Proofs.YtcfkaoibghhahaaW.PrintMore
attribute [local go_sem] max2_int min2_int max_two min_two max_three min_three max_four min_four   -- for this text's walks alone
set_option linter.unusedVariables false
set_option linter.unusedSimpArgs false

end Go.Proofs.Ytcfkaoibghhahaa.MFnExactJoinWinds
