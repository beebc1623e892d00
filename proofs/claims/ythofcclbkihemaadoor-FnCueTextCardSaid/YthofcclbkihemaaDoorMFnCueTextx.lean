-- Written by a program for this claim.
import Derived.Test.YthofcclbkihemaaDoorMFnCueTextx0
import Derived.Test.YthofcclbkihemaaDoorMFnCueTextx1
import Derived.Test.YthofcclbkihemaaDoorMFnCueTextx2
import Derived.Test.YthofcclbkihemaaDoorMFnCueTextx3
import Derived.Test.YthofcclbkihemaaDoorMFnCueTextx4
import Derived.Test.YthofcclbkihemaaDoorMFnCueTextx5
import Derived.Test.YthofcclbkihemaaDoorMFnCueTextx6
import Derived.Test.YthofcclbkihemaaDoorMFnCueTextx7
import Derived.Test.YthofcclbkihemaaDoorMFnCueTextx8
import Derived.Test.YthofcclbkihemaaDoorMFnCueTextx9
import Derived.Test.YthofcclbkihemaaDoorMFnCueTextx10
namespace Go.Proofs.YthofcclbkihemaaDoor.MFnCueText
open Go.RowKit Go.Proofs.YthofcclbkihemaaDoorW.PrintWords Go.Proofs.YthofcclbkihemaaDoorW.PrintLast Go.Proofs.YthofcclbkihemaaDoorW.PrintMore
attribute [local go_sem] max2_int min2_int max_two min_two max_three min_three max_four min_four   -- for this text's walks alone
set_option linter.unusedVariables false
set_option linter.unusedSimpArgs false

end Go.Proofs.YthofcclbkihemaaDoor.MFnCueText
