-- Written by a program for this claim.
import Derived.Test.YtamddnjcgnidiaaMFnEndx0
import Derived.Test.YtamddnjcgnidiaaMFnEndx1
import Derived.Test.YtamddnjcgnidiaaMFnEndx2
import Derived.Test.YtamddnjcgnidiaaMFnEndx3
import Derived.Test.YtamddnjcgnidiaaMFnEndx4
import Derived.Test.YtamddnjcgnidiaaMFnEndx5
import Derived.Test.YtamddnjcgnidiaaMFnEndx6
import Derived.Test.YtamddnjcgnidiaaMFnEndx7
import Derived.Test.YtamddnjcgnidiaaMFnEndx8
import Derived.Test.YtamddnjcgnidiaaMFnEndx9
import Derived.Test.YtamddnjcgnidiaaMFnEndx10
namespace Go.Proofs.Ytamddnjcgnidiaa.MFnEnd
open Go.RowKit Go.Proofs.YtamddnjcgnidiaaW.PrintWords Go.Proofs.YtamddnjcgnidiaaW.PrintLast Go.Proofs.YtamddnjcgnidiaaW.PrintMore
attribute [local go_sem] max2_int min2_int max_two min_two max_three min_three max_four min_four   -- for this text's walks alone
set_option linter.unusedVariables false
set_option linter.unusedSimpArgs false

end Go.Proofs.Ytamddnjcgnidiaa.MFnEnd
