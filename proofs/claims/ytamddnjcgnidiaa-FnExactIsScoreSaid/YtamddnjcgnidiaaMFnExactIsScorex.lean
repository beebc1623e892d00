-- Written by a program for this claim.
import Derived.Test.YtamddnjcgnidiaaMFnExactIsScorex0
import Derived.Test.YtamddnjcgnidiaaMFnExactIsScorex1
import Derived.Test.YtamddnjcgnidiaaMFnExactIsScorex2
import Derived.Test.YtamddnjcgnidiaaMFnExactIsScorex3
import Derived.Test.YtamddnjcgnidiaaMFnExactIsScorex4
import Derived.Test.YtamddnjcgnidiaaMFnExactIsScorex5
import Derived.Test.YtamddnjcgnidiaaMFnExactIsScorex6
import Derived.Test.YtamddnjcgnidiaaMFnExactIsScorex7
namespace Go.Proofs.Ytamddnjcgnidiaa.MFnExactIsScore
open Go.RowKit Go.Proofs.YtamddnjcgnidiaaW.PrintWords Go.Proofs.YtamddnjcgnidiaaW.PrintLast Go.Proofs.YtamddnjcgnidiaaW.PrintMore
attribute [local go_sem] max2_int min2_int max_two min_two max_three min_three max_four min_four   -- for this text's walks alone
set_option linter.unusedVariables false
set_option linter.unusedSimpArgs false

end Go.Proofs.Ytamddnjcgnidiaa.MFnExactIsScore
