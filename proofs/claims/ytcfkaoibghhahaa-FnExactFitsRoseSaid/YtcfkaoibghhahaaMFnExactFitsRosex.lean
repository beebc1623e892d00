-- Written by a program for this claim.
import Derived.Test.YtcfkaoibghhahaaMFnExactFitsRosex0
import Derived.Test.YtcfkaoibghhahaaMFnExactFitsRosex1
import Derived.Test.YtcfkaoibghhahaaMFnExactFitsRosex2
import Derived.Test.YtcfkaoibghhahaaMFnExactFitsRosex3
import Derived.Test.YtcfkaoibghhahaaMFnExactFitsRosex4
import Derived.Test.YtcfkaoibghhahaaMFnExactFitsRosex5
import Derived.Test.YtcfkaoibghhahaaMFnExactFitsRosex6
import Derived.Test.YtcfkaoibghhahaaMFnExactFitsRosex7
import Derived.Test.YtcfkaoibghhahaaMFnExactFitsRosex8
import Derived.Test.YtcfkaoibghhahaaMFnExactFitsRosex9
import Derived.Test.YtcfkaoibghhahaaMFnExactFitsRosex10
import Derived.Test.YtcfkaoibghhahaaMFnExactFitsRosex11
namespace Go.Proofs.Ytcfkaoibghhahaa.MFnExactFitsRose
open Go.RowKit Go.Proofs.YtcfkaoibghhahaaW.PrintWords Go.Proofs.YtcfkaoibghhahaaW.PrintLast Go.Proofs.YtcfkaoibghhahaaW.PrintMore
attribute [local go_sem] max2_int min2_int max_two min_two max_three min_three max_four min_four   -- for this text's walks alone
set_option linter.unusedVariables false
set_option linter.unusedSimpArgs false

end Go.Proofs.Ytcfkaoibghhahaa.MFnExactFitsRose
