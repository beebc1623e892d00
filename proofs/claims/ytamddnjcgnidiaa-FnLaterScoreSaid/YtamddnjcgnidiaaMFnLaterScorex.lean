-- Written by a program for this claim.
import Derived.Test.YtamddnjcgnidiaaMFnLaterScorex0
import Derived.Test.YtamddnjcgnidiaaMFnLaterScorex1
import Derived.Test.YtamddnjcgnidiaaMFnLaterScorex2
import Derived.Test.YtamddnjcgnidiaaMFnLaterScorex3
import Derived.Test.YtamddnjcgnidiaaMFnLaterScorex4
import Derived.Test.YtamddnjcgnidiaaMFnLaterScorex5
import Derived.Test.YtamddnjcgnidiaaMFnLaterScorex6
import Derived.Test.YtamddnjcgnidiaaMFnLaterScorex7
import Derived.Test.YtamddnjcgnidiaaMFnLaterScorex8
import Derived.Test.YtamddnjcgnidiaaMFnLaterScorex9
import Derived.Test.YtamddnjcgnidiaaMFnLaterScorex10
namespace Go.Proofs.Ytamddnjcgnidiaa.MFnLaterScore
open Go.RowKit Go.Proofs.YtamddnjcgnidiaaW.PrintWords Go.Proofs.YtamddnjcgnidiaaW.PrintLast Go.Proofs.YtamddnjcgnidiaaW.PrintMore
attribute [local go_sem] max2_int min2_int max_two min_two max_three min_three max_four min_four   -- for this text's walks alone
set_option linter.unusedVariables false
set_option linter.unusedSimpArgs false

end Go.Proofs.Ytamddnjcgnidiaa.MFnLaterScore
