-- Written by a program for this claim.
import Derived.Test.YtcfkaoibghhahaaMFnNormalx0
import Derived.Test.YtcfkaoibghhahaaMFnNormalx1
import Derived.Test.YtcfkaoibghhahaaMFnNormalx2
import Derived.Test.YtcfkaoibghhahaaMFnNormalx3
import Derived.Test.YtcfkaoibghhahaaMFnNormalx4
import Derived.Test.YtcfkaoibghhahaaMFnNormalx5
import Derived.Test.YtcfkaoibghhahaaMFnNormalx6
import Derived.Test.YtcfkaoibghhahaaMFnNormalx7
import Derived.Test.YtcfkaoibghhahaaMFnNormalx8
import Derived.Test.YtcfkaoibghhahaaMFnNormalx9
namespace Go.Proofs.Ytcfkaoibghhahaa.MFnNormal
open Go.RowKit Go.Proofs.YtcfkaoibghhahaaW.PrintWords Go.Proofs.YtcfkaoibghhahaaW.PrintLast Go.Proofs.YtcfkaoibghhahaaW.PrintMore
attribute [local go_sem] max2_int min2_int max_two min_two max_three min_three max_four min_four   -- for this text's walks alone
set_option linter.unusedVariables false
set_option linter.unusedSimpArgs false

end Go.Proofs.Ytcfkaoibghhahaa.MFnNormal
