-- Written by a program for this claim.
import Derived.Test.YtkljnmojnkiafaaMFnRoseSumsx0
import Derived.Test.YtkljnmojnkiafaaMFnRoseSumsx1
import Derived.Test.YtkljnmojnkiafaaMFnRoseSumsx2
import Derived.Test.YtkljnmojnkiafaaMFnRoseSumsx3
import Derived.Test.YtkljnmojnkiafaaMFnRoseSumsx4
import Derived.Test.YtkljnmojnkiafaaMFnRoseSumsx5
import Derived.Test.YtkljnmojnkiafaaMFnRoseSumsx6
import Derived.Test.YtkljnmojnkiafaaMFnRoseSumsx7
import Derived.Test.YtkljnmojnkiafaaMFnRoseSumsx8
import Derived.Test.YtkljnmojnkiafaaMFnRoseSumsx9
namespace Go.Proofs.Ytkljnmojnkiafaa.MFnRoseSums
open Go.RowKit Go.Proofs.YtkljnmojnkiafaaW.PrintWords Go.Proofs.YtkljnmojnkiafaaW.PrintLast Go.Proofs.YtkljnmojnkiafaaW.PrintMore
attribute [local go_sem] max2_int min2_int max_two min_two max_three min_three max_four min_four   -- for this text's walks alone
set_option linter.unusedVariables false
set_option linter.unusedSimpArgs false

end Go.Proofs.Ytkljnmojnkiafaa.MFnRoseSums
