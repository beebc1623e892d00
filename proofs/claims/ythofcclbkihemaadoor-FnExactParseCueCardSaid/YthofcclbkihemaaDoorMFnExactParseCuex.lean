-- Written by a program for this claim.
import Derived.Test.YthofcclbkihemaaDoorMFnExactParseCuex0
import Derived.Test.YthofcclbkihemaaDoorMFnExactParseCuex1
import Derived.Test.YthofcclbkihemaaDoorMFnExactParseCuex2
import Derived.Test.YthofcclbkihemaaDoorMFnExactParseCuex3
import Derived.Test.YthofcclbkihemaaDoorMFnExactParseCuex4
import Derived.Test.YthofcclbkihemaaDoorMFnExactParseCuex5
import Derived.Test.YthofcclbkihemaaDoorMFnExactParseCuex6
import Derived.Test.YthofcclbkihemaaDoorMFnExactParseCuex7
namespace Go.Proofs.YthofcclbkihemaaDoor.MFnExactParseCue
open Go.RowKit Go.Proofs.YthofcclbkihemaaDoorW.PrintWords Go.Proofs.YthofcclbkihemaaDoorW.PrintLast Go.Proofs.YthofcclbkihemaaDoorW.PrintMore
attribute [local go_sem] max2_int min2_int max_two min_two max_three min_three max_four min_four   -- for this text's walks alone
set_option linter.unusedVariables false
set_option linter.unusedSimpArgs false

end Go.Proofs.YthofcclbkihemaaDoor.MFnExactParseCue
