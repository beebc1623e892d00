-- Written by a program for this claim.
import Derived.Test.YtamddnjcgnidiaaMFnLevelsx0
import Derived.Test.YtamddnjcgnidiaaMFnLevelsx1
import Derived.Test.YtamddnjcgnidiaaMFnLevelsx2
import Derived.Test.YtamddnjcgnidiaaMFnLevelsx3
import Derived.Test.YtamddnjcgnidiaaMFnLevelsx4
import Derived.Test.YtamddnjcgnidiaaMFnLevelsx5
import Derived.Test.YtamddnjcgnidiaaMFnLevelsx6
import Derived.Test.YtamddnjcgnidiaaMFnLevelsx7
import Derived.Test.YtamddnjcgnidiaaMFnLevelsx8
import Derived.Test.YtamddnjcgnidiaaMFnLevelsx9
import Derived.Test.YtamddnjcgnidiaaMFnLevelsx10
namespace Go.Proofs.Ytamddnjcgnidiaa.MFnLevels
open Go.RowKit Go.Proofs.YtamddnjcgnidiaaW.PrintWords Go.Proofs.YtamddnjcgnidiaaW.PrintLast Go.Proofs.YtamddnjcgnidiaaW.PrintMore
attribute [local go_sem] max2_int min2_int max_two min_two max_three min_three max_four min_four   -- for this text's walks alone
set_option linter.unusedVariables false
set_option linter.unusedSimpArgs false

end Go.Proofs.Ytamddnjcgnidiaa.MFnLevels
