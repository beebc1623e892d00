-- Written by a program for this claim.
import Derived.Test.YtcfkaoibghhahaaMFnJoinedx0
import Derived.Test.YtcfkaoibghhahaaMFnJoinedx1
import Derived.Test.YtcfkaoibghhahaaMFnJoinedx2
import Derived.Test.YtcfkaoibghhahaaMFnJoinedx3
import Derived.Test.YtcfkaoibghhahaaMFnJoinedx4
import Derived.Test.YtcfkaoibghhahaaMFnJoinedx5
import Derived.Test.YtcfkaoibghhahaaMFnJoinedx6
import Derived.Test.YtcfkaoibghhahaaMFnJoinedx7
import Derived.Test.YtcfkaoibghhahaaMFnJoinedx8
import Derived.Test.YtcfkaoibghhahaaMFnJoinedx9
import Derived.Test.YtcfkaoibghhahaaMFnJoinedx10
namespace Go.Proofs.Ytcfkaoibghhahaa.MFnJoined
open Go.RowKit Go.Proofs.YtcfkaoibghhahaaW.PrintWords Go.Proofs.YtcfkaoibghhahaaW.PrintLast Go.Proofs.YtcfkaoibghhahaaW.PrintMore
attribute [local go_sem] max2_int min2_int max_two min_two max_three min_three max_four min_four   -- for this text's walks alone
set_option linter.unusedVariables false
set_option linter.unusedSimpArgs false

end Go.Proofs.Ytcfkaoibghhahaa.MFnJoined
