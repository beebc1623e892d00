-- Written by a program for this claim.
import Derived.Test.YtamddnjcgnidiaaMFnExactRemoveCuex0
import Derived.Test.YtamddnjcgnidiaaMFnExactRemoveCuex1
import Derived.Test.YtamddnjcgnidiaaMFnExactRemoveCuex2
import Derived.Test.YtamddnjcgnidiaaMFnExactRemoveCuex3
import Derived.Test.YtamddnjcgnidiaaMFnExactRemoveCuex4
import Derived.Test.YtamddnjcgnidiaaMFnExactRemoveCuex5
import Derived.Test.YtamddnjcgnidiaaMFnExactRemoveCuex6
import Derived.Test.YtamddnjcgnidiaaMFnExactRemoveCuex7
import Derived.Test.YtamddnjcgnidiaaMFnExactRemoveCuex8
namespace Go.Proofs.Ytamddnjcgnidiaa.MFnExactRemoveCue
open Go.RowKit Go.Proofs.YtamddnjcgnidiaaW.PrintWords Go.Proofs.YtamddnjcgnidiaaW.PrintLast Go.Proofs.YtamddnjcgnidiaaW.PrintMore
attribute [local go_sem] max2_int min2_int max_two min_two max_three min_three max_four min_four   -- for this text's walks alone
set_option linter.unusedVariables false
set_option linter.unusedSimpArgs false

end Go.Proofs.Ytamddnjcgnidiaa.MFnExactRemoveCue
