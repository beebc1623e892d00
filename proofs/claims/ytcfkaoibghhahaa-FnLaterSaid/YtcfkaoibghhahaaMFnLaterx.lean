-- Written by a program for this claim.
import Derived.Test.YtcfkaoibghhahaaMFnLaterx0
import Derived.Test.YtcfkaoibghhahaaMFnLaterx1
import Derived.Test.YtcfkaoibghhahaaMFnLaterx2
import Derived.Test.YtcfkaoibghhahaaMFnLaterx3
import Derived.Test.YtcfkaoibghhahaaMFnLaterx4
import Derived.Test.YtcfkaoibghhahaaMFnLaterx5
import Derived.Test.YtcfkaoibghhahaaMFnLaterx6
import Derived.Test.YtcfkaoibghhahaaMFnLaterx7
import Derived.Test.YtcfkaoibghhahaaMFnLaterx8
import Derived.Test.YtcfkaoibghhahaaMFnLaterx9
namespace Go.Proofs.Ytcfkaoibghhahaa.MFnLater
open Go.RowKit Go.Proofs.YtcfkaoibghhahaaW.PrintWords Go.Proofs.YtcfkaoibghhahaaW.PrintLast Go.Proofs.YtcfkaoibghhahaaW.PrintMore
attribute [local go_sem] max2_int min2_int max_two min_two max_three min_three max_four min_four   -- for this text's walks alone
set_option linter.unusedVariables false
set_option linter.unusedSimpArgs false

end Go.Proofs.Ytcfkaoibghhahaa.MFnLater
