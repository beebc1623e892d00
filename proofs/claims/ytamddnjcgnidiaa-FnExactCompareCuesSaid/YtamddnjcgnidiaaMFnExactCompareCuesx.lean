-- Written by a program for this claim.
import Derived.Test.YtamddnjcgnidiaaMFnExactCompareCuesx0
import Derived.Test.YtamddnjcgnidiaaMFnExactCompareCuesx1
import Derived.Test.YtamddnjcgnidiaaMFnExactCompareCuesx2
namespace Go.Proofs.Ytamddnjcgnidiaa.MFnExactCompareCues
open Go.RowKit Go.Proofs.YtamddnjcgnidiaaW.PrintWords Go.Proofs.YtamddnjcgnidiaaW.PrintLast Go.Proofs.YtamddnjcgnidiaaW.PrintMore
attribute [local go_sem] max2_int min2_int max_two min_two max_three min_three max_four min_four   -- for this text's walks alone
set_option linter.unusedVariables false
set_option linter.unusedSimpArgs false

end Go.Proofs.Ytamddnjcgnidiaa.MFnExactCompareCues
