-- Written by a program for this claim.
import Derived.Test.YtkljnmojnkiafaaMFnExactFrameAtx0
import Derived.Test.YtkljnmojnkiafaaMFnExactFrameAtx1
import Derived.Test.YtkljnmojnkiafaaMFnExactFrameAtx2
import Derived.Test.YtkljnmojnkiafaaMFnExactFrameAtx3
import Derived.Test.YtkljnmojnkiafaaMFnExactFrameAtx4
import Derived.Test.YtkljnmojnkiafaaMFnExactFrameAtx5
import Derived.Test.YtkljnmojnkiafaaMFnExactFrameAtx6
import Derived.Test.YtkljnmojnkiafaaMFnExactFrameAtx7
import Derived.Test.YtkljnmojnkiafaaMFnExactFrameAtx8
import Derived.Test.YtkljnmojnkiafaaMFnExactFrameAtx9
import Derived.Test.YtkljnmojnkiafaaMFnExactFrameAtx10
namespace Go.Proofs.Ytkljnmojnkiafaa.MFnExactFrameAt
open Go.RowKit Go.Proofs.YtkljnmojnkiafaaW.PrintWords Go.Proofs.YtkljnmojnkiafaaW.PrintLast Go.Proofs.YtkljnmojnkiafaaW.PrintMore
attribute [local go_sem] max2_int min2_int max_two min_two max_three min_three max_four min_four   -- for this text's walks alone
set_option linter.unusedVariables false
set_option linter.unusedSimpArgs false

end Go.Proofs.Ytkljnmojnkiafaa.MFnExactFrameAt
