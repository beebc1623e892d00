-- Written by a program for this claim.
import Derived.Test.YtkljnmojnkiafaaMFnMovedRigx0
import Derived.Test.YtkljnmojnkiafaaMFnMovedRigx1
import Derived.Test.YtkljnmojnkiafaaMFnMovedRigx2
import Derived.Test.YtkljnmojnkiafaaMFnMovedRigx3
import Derived.Test.YtkljnmojnkiafaaMFnMovedRigx4
import Derived.Test.YtkljnmojnkiafaaMFnMovedRigx5
import Derived.Test.YtkljnmojnkiafaaMFnMovedRigx6
import Derived.Test.YtkljnmojnkiafaaMFnMovedRigx7
import Derived.Test.YtkljnmojnkiafaaMFnMovedRigx8
import Derived.Test.YtkljnmojnkiafaaMFnMovedRigx9
import Derived.Test.YtkljnmojnkiafaaMFnMovedRigx10
import Derived.Test.YtkljnmojnkiafaaMFnMovedRigx11
import Derived.Test.YtkljnmojnkiafaaMFnMovedRigx12
import Derived.Test.YtkljnmojnkiafaaMFnMovedRigx13
import Derived.Test.YtkljnmojnkiafaaMFnMovedRigx14
import Derived.Test.YtkljnmojnkiafaaMFnMovedRigx15
namespace Go.Proofs.Ytkljnmojnkiafaa.MFnMovedRig
open Go.RowKit Go.Proofs.YtkljnmojnkiafaaW.PrintWords Go.Proofs.YtkljnmojnkiafaaW.PrintLast Go.Proofs.YtkljnmojnkiafaaW.PrintMore
attribute [local go_sem] max2_int min2_int max_two min_two max_three min_three max_four min_four   -- for this text's walks alone
set_option linter.unusedVariables false
set_option linter.unusedSimpArgs false

end Go.Proofs.Ytkljnmojnkiafaa.MFnMovedRig
