-- Written by a program for this claim.
import Derived.Test.YtamddnjcgnidiaaMFnOnlyx0
import Derived.Test.YtamddnjcgnidiaaMFnOnlyx1
import Derived.Test.YtamddnjcgnidiaaMFnOnlyx2
import Derived.Test.YtamddnjcgnidiaaMFnOnlyx3
import Derived.Test.YtamddnjcgnidiaaMFnOnlyx4
import Derived.Test.YtamddnjcgnidiaaMFnOnlyx5
import Derived.Test.YtamddnjcgnidiaaMFnOnlyx6
import Derived.Test.YtamddnjcgnidiaaMFnOnlyx7
import Derived.Test.YtamddnjcgnidiaaMFnOnlyx8
import Derived.Test.YtamddnjcgnidiaaMFnOnlyx9
import Derived.Test.YtamddnjcgnidiaaMFnOnlyx10
import Derived.Test.YtamddnjcgnidiaaMFnOnlyx11
import Derived.Test.YtamddnjcgnidiaaMFnOnlyx12
namespace Go.Proofs.Ytamddnjcgnidiaa.MFnOnly
open Go.RowKit Go.Proofs.YtamddnjcgnidiaaW.PrintWords Go.Proofs.YtamddnjcgnidiaaW.PrintLast Go.Proofs.YtamddnjcgnidiaaW.PrintMore
attribute [local go_sem] max2_int min2_int max_two min_two max_three min_three max_four min_four   -- for this text's walks alone
set_option linter.unusedVariables false
set_option linter.unusedSimpArgs false

end Go.Proofs.Ytamddnjcgnidiaa.MFnOnly
