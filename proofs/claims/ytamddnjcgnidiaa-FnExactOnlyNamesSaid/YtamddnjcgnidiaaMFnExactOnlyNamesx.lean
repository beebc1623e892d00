-- Written by a program for this claim.
import Derived.Test.YtamddnjcgnidiaaMFnExactOnlyNamesx0
import Derived.Test.YtamddnjcgnidiaaMFnExactOnlyNamesx1
import Derived.Test.YtamddnjcgnidiaaMFnExactOnlyNamesx2
import Derived.Test.YtamddnjcgnidiaaMFnExactOnlyNamesx3
import Derived.Test.YtamddnjcgnidiaaMFnExactOnlyNamesx4
import Derived.Test.YtamddnjcgnidiaaMFnExactOnlyNamesx5
import Derived.Test.YtamddnjcgnidiaaMFnExactOnlyNamesx6
import Derived.Test.YtamddnjcgnidiaaMFnExactOnlyNamesx7
import Derived.Test.YtamddnjcgnidiaaMFnExactOnlyNamesx8
import Derived.Test.YtamddnjcgnidiaaMFnExactOnlyNamesx9
import Derived.Test.YtamddnjcgnidiaaMFnExactOnlyNamesx10
namespace Go.Proofs.Ytamddnjcgnidiaa.MFnExactOnlyNames
open Go.RowKit Go.Proofs.YtamddnjcgnidiaaW.PrintWords Go.Proofs.YtamddnjcgnidiaaW.PrintLast Go.Proofs.YtamddnjcgnidiaaW.PrintMore
attribute [local go_sem] max2_int min2_int max_two min_two max_three min_three max_four min_four   -- for this text's walks alone
set_option linter.unusedVariables false
set_option linter.unusedSimpArgs false

end Go.Proofs.Ytamddnjcgnidiaa.MFnExactOnlyNames
