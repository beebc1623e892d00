-- Written by a program for this claim.
import Derived.Test.YtkljnmojnkiafaaMFnCuesx0
import Derived.Test.YtkljnmojnkiafaaMFnCuesx1
import Derived.Test.YtkljnmojnkiafaaMFnCuesx2
import Derived.Test.YtkljnmojnkiafaaMFnCuesx3
import Derived.Test.YtkljnmojnkiafaaMFnCuesx4
import Derived.Test.YtkljnmojnkiafaaMFnCuesx5
import Derived.Test.YtkljnmojnkiafaaMFnCuesx6
import Derived.Test.YtkljnmojnkiafaaMFnCuesx7
import Derived.Test.YtkljnmojnkiafaaMFnCuesx8
import Derived.Test.YtkljnmojnkiafaaMFnCuesx9
import Derived.Test.YtkljnmojnkiafaaMFnCuesx10
import Derived.Test.YtkljnmojnkiafaaMFnCuesx11
import Derived.Test.YtkljnmojnkiafaaMFnCuesx12
import Derived.Test.YtkljnmojnkiafaaMFnCuesx13
namespace Go.Proofs.Ytkljnmojnkiafaa.MFnCues
open Go.RowKit Go.Proofs.YtkljnmojnkiafaaW.PrintWords Go.Proofs.YtkljnmojnkiafaaW.PrintLast Go.Proofs.YtkljnmojnkiafaaW.PrintMore
attribute [local go_sem] max2_int min2_int max_two min_two max_three min_three max_four min_four   -- for this text's walks alone
set_option linter.unusedVariables false
set_option linter.unusedSimpArgs false

end Go.Proofs.Ytkljnmojnkiafaa.MFnCues
