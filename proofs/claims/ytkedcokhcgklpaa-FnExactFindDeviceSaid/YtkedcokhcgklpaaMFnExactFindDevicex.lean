-- Written by a program for this claim.
import Derived.Test.YtkedcokhcgklpaaMFnExactFindDevicex0
import Derived.Test.YtkedcokhcgklpaaMFnExactFindDevicex1
import Derived.Test.YtkedcokhcgklpaaMFnExactFindDevicex2
namespace Go.Proofs.Ytkedcokhcgklpaa.MFnExactFindDevice
open Go.RowKit Go.Proofs.YtkedcokhcgklpaaW.PrintWords Go.Proofs.YtkedcokhcgklpaaW.PrintLast Go.Proofs.YtkedcokhcgklpaaW.PrintMore
attribute [local go_sem] max2_int min2_int max_two min_two max_three min_three max_four min_four   -- for this text's walks alone
set_option linter.unusedVariables false
set_option linter.unusedSimpArgs false

end Go.Proofs.Ytkedcokhcgklpaa.MFnExactFindDevice
