-- Written by a program for this claim.
import Derived.Test.YtcfkaoibghhahaaMFnExactRoseBoxx0
import Derived.Test.YtcfkaoibghhahaaMFnExactRoseBoxx1
import Derived.Test.YtcfkaoibghhahaaMFnExactRoseBoxx2
import Derived.Test.YtcfkaoibghhahaaMFnExactRoseBoxx3
import Derived.Test.YtcfkaoibghhahaaMFnExactRoseBoxx4
import Derived.Test.YtcfkaoibghhahaaMFnExactRoseBoxx5
import Derived.Test.YtcfkaoibghhahaaMFnExactRoseBoxx6
import Derived.Test.YtcfkaoibghhahaaMFnExactRoseBoxx7
namespace Go.Proofs.Ytcfkaoibghhahaa.MFnExactRoseBox
open Go.RowKit Go.Proofs.YtcfkaoibghhahaaW.PrintWords Go.Proofs.YtcfkaoibghhahaaW.PrintLast Go.Proofs.YtcfkaoibghhahaaW.PrintMore
attribute [local go_sem] max2_int min2_int max_two min_two max_three min_three max_four min_four   -- for this text's walks alone
set_option linter.unusedVariables false
set_option linter.unusedSimpArgs false

end Go.Proofs.Ytcfkaoibghhahaa.MFnExactRoseBox
