-- Written by a program for this claim.
import Derived.Test.YtamddnjcgnidiaaMFnExactLaterScorex0
import Derived.Test.YtamddnjcgnidiaaMFnExactLaterScorex1
import Derived.Test.YtamddnjcgnidiaaMFnExactLaterScorex2
import Derived.Test.YtamddnjcgnidiaaMFnExactLaterScorex3
import Derived.Test.YtamddnjcgnidiaaMFnExactLaterScorex4
import Derived.Test.YtamddnjcgnidiaaMFnExactLaterScorex5
import Derived.Test.YtamddnjcgnidiaaMFnExactLaterScorex6
import Derived.Test.YtamddnjcgnidiaaMFnExactLaterScorex7
import Derived.Test.YtamddnjcgnidiaaMFnExactLaterScorex8
import Derived.Test.YtamddnjcgnidiaaMFnExactLaterScorex9
import Derived.Test.YtamddnjcgnidiaaMFnExactLaterScorex10
namespace Go.Proofs.Ytamddnjcgnidiaa.MFnExactLaterScore
open Go.RowKit Go.Proofs.YtamddnjcgnidiaaW.PrintWords Go.Proofs.YtamddnjcgnidiaaW.PrintLast Go.Proofs.YtamddnjcgnidiaaW.PrintMore
attribute [local go_sem] max2_int min2_int max_two min_two max_three min_three max_four min_four   -- for this text's walks alone
set_option linter.unusedVariables false
set_option linter.unusedSimpArgs false

end Go.Proofs.Ytamddnjcgnidiaa.MFnExactLaterScore
