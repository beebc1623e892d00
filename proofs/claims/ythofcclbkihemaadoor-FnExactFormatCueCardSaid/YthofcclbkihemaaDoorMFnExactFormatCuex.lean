-- Written by a program for this claim.
import Derived.Test.YthofcclbkihemaaDoorMFnExactFormatCuex0
import Derived.Test.YthofcclbkihemaaDoorMFnExactFormatCuex1
import Derived.Test.YthofcclbkihemaaDoorMFnExactFormatCuex2
import Derived.Test.YthofcclbkihemaaDoorMFnExactFormatCuex3
import Derived.Test.YthofcclbkihemaaDoorMFnExactFormatCuex4
namespace Go.Proofs.YthofcclbkihemaaDoor.MFnExactFormatCue
open Go.RowKit Go.Proofs.YthofcclbkihemaaDoorW.PrintWords Go.Proofs.YthofcclbkihemaaDoorW.PrintLast Go.Proofs.YthofcclbkihemaaDoorW.PrintMore
attribute [local go_sem] max2_int min2_int max_two min_two max_three min_three max_four min_four   -- for this text's walks alone
set_option linter.unusedVariables false
set_option linter.unusedSimpArgs false

end Go.Proofs.YthofcclbkihemaaDoor.MFnExactFormatCue
