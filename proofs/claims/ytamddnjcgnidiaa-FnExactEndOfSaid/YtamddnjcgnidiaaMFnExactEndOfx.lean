-- Written by a program for this claim.
import Derived.Test.YtamddnjcgnidiaaMFnExactEndOfx0
import Derived.Test.YtamddnjcgnidiaaMFnExactEndOfx1
import Derived.Test.YtamddnjcgnidiaaMFnExactEndOfx2
import Derived.Test.YtamddnjcgnidiaaMFnExactEndOfx3
import Derived.Test.YtamddnjcgnidiaaMFnExactEndOfx4
import Derived.Test.YtamddnjcgnidiaaMFnExactEndOfx5
import Derived.Test.YtamddnjcgnidiaaMFnExactEndOfx6
import Derived.Test.YtamddnjcgnidiaaMFnExactEndOfx7
namespace Go.Proofs.Ytamddnjcgnidiaa.MFnExactEndOf
open Go.RowKit Go.Proofs.YtamddnjcgnidiaaW.PrintWords Go.Proofs.YtamddnjcgnidiaaW.PrintLast Go.Proofs.YtamddnjcgnidiaaW.PrintMore
attribute [local go_sem] max2_int min2_int max_two min_two max_three min_three max_four min_four   -- for this text's walks alone
set_option linter.unusedVariables false
set_option linter.unusedSimpArgs false

end Go.Proofs.Ytamddnjcgnidiaa.MFnExactEndOf
