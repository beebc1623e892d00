-- Written by a program for this claim.
import Derived.Test.YtamddnjcgnidiaaMFnExactLevelAtx0
import Derived.Test.YtamddnjcgnidiaaMFnExactLevelAtx1
import Derived.Test.YtamddnjcgnidiaaMFnExactLevelAtx2
import Derived.Test.YtamddnjcgnidiaaMFnExactLevelAtx3
import Derived.Test.YtamddnjcgnidiaaMFnExactLevelAtx4
import Derived.Test.YtamddnjcgnidiaaMFnExactLevelAtx5
import Derived.Test.YtamddnjcgnidiaaMFnExactLevelAtx6
import Derived.Test.YtamddnjcgnidiaaMFnExactLevelAtx7
import Derived.Test.YtamddnjcgnidiaaMFnExactLevelAtx8
namespace Go.Proofs.Ytamddnjcgnidiaa.MFnExactLevelAt
open Go.RowKit Go.Proofs.YtamddnjcgnidiaaW.PrintWords Go.Proofs.YtamddnjcgnidiaaW.PrintLast Go.Proofs.YtamddnjcgnidiaaW.PrintMore
attribute [local go_sem] max2_int min2_int max_two min_two max_three min_three max_four min_four   -- for this text's walks alone
set_option linter.unusedVariables false
set_option linter.unusedSimpArgs false

end Go.Proofs.Ytamddnjcgnidiaa.MFnExactLevelAt
