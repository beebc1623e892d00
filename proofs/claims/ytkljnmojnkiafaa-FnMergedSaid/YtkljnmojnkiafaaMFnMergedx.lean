-- Written by a program for this claim.
import Derived.Test.YtkljnmojnkiafaaMFnMergedx0
import Derived.Test.YtkljnmojnkiafaaMFnMergedx1
import Derived.Test.YtkljnmojnkiafaaMFnMergedx2
import Derived.Test.YtkljnmojnkiafaaMFnMergedx3
import Derived.Test.YtkljnmojnkiafaaMFnMergedx4
import Derived.Test.YtkljnmojnkiafaaMFnMergedx5
import Derived.Test.YtkljnmojnkiafaaMFnMergedx6
import Derived.Test.YtkljnmojnkiafaaMFnMergedx7
import Derived.Test.YtkljnmojnkiafaaMFnMergedx8
import Derived.Test.YtkljnmojnkiafaaMFnMergedx9
import Derived.Test.YtkljnmojnkiafaaMFnMergedx10
import Derived.Test.YtkljnmojnkiafaaMFnMergedx11
namespace Go.Proofs.Ytkljnmojnkiafaa.MFnMerged
open Go.RowKit Go.Proofs.YtkljnmojnkiafaaW.PrintWords Go.Proofs.YtkljnmojnkiafaaW.PrintLast Go.Proofs.YtkljnmojnkiafaaW.PrintMore
attribute [local go_sem] max2_int min2_int max_two min_two max_three min_three max_four min_four   -- for this text's walks alone
set_option linter.unusedVariables false
set_option linter.unusedSimpArgs false

end Go.Proofs.Ytkljnmojnkiafaa.MFnMerged
