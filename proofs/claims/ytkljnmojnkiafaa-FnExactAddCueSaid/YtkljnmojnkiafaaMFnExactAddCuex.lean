-- Written by a program for this claim.
import Derived.Test.YtkljnmojnkiafaaMFnExactAddCuex0
import Derived.Test.YtkljnmojnkiafaaMFnExactAddCuex1
import Derived.Test.YtkljnmojnkiafaaMFnExactAddCuex2
import Derived.Test.YtkljnmojnkiafaaMFnExactAddCuex3
import Derived.Test.YtkljnmojnkiafaaMFnExactAddCuex4
import Derived.Test.YtkljnmojnkiafaaMFnExactAddCuex5
import Derived.Test.YtkljnmojnkiafaaMFnExactAddCuex6
import Derived.Test.YtkljnmojnkiafaaMFnExactAddCuex7
import Derived.Test.YtkljnmojnkiafaaMFnExactAddCuex8
import Derived.Test.YtkljnmojnkiafaaMFnExactAddCuex9
import Derived.Test.YtkljnmojnkiafaaMFnExactAddCuex10
import Derived.Test.YtkljnmojnkiafaaMFnExactAddCuex11
namespace Go.Proofs.Ytkljnmojnkiafaa.MFnExactAddCue
open Go.RowKit Go.Proofs.YtkljnmojnkiafaaW.PrintWords Go.Proofs.YtkljnmojnkiafaaW.PrintLast Go.Proofs.YtkljnmojnkiafaaW.PrintMore
attribute [local go_sem] max2_int min2_int max_two min_two max_three min_three max_four min_four   -- for this text's walks alone
set_option linter.unusedVariables false
set_option linter.unusedSimpArgs false

end Go.Proofs.Ytkljnmojnkiafaa.MFnExactAddCue
