-- Written by a program for this claim.
import Derived.Test.YtkljnmojnkiafaaMFnRoseSidesx0
import Derived.Test.YtkljnmojnkiafaaMFnRoseSidesx1
import Derived.Test.YtkljnmojnkiafaaMFnRoseSidesx2
import Derived.Test.YtkljnmojnkiafaaMFnRoseSidesx3
import Derived.Test.YtkljnmojnkiafaaMFnRoseSidesx4
import Derived.Test.YtkljnmojnkiafaaMFnRoseSidesx5
import Derived.Test.YtkljnmojnkiafaaMFnRoseSidesx6
import Derived.Test.YtkljnmojnkiafaaMFnRoseSidesx7
import Derived.Test.YtkljnmojnkiafaaMFnRoseSidesx8
import Derived.Test.YtkljnmojnkiafaaMFnRoseSidesx9
namespace Go.Proofs.Ytkljnmojnkiafaa.MFnRoseSides
open Go.RowKit Go.Proofs.YtkljnmojnkiafaaW.PrintWords Go.Proofs.YtkljnmojnkiafaaW.PrintLast Go.Proofs.YtkljnmojnkiafaaW.PrintMore
attribute [local go_sem] max2_int min2_int max_two min_two max_three min_three max_four min_four   -- for this text's walks alone
set_option linter.unusedVariables false
set_option linter.unusedSimpArgs false

end Go.Proofs.Ytkljnmojnkiafaa.MFnRoseSides
