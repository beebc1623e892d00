-- Written by a program for this claim.
import Derived.Test.YtkedcokhcgklpaaMFnExactTurnRigx0
import Derived.Test.YtkedcokhcgklpaaMFnExactTurnRigx1
import Derived.Test.YtkedcokhcgklpaaMFnExactTurnRigx2
import Derived.Test.YtkedcokhcgklpaaMFnExactTurnRigx3
import Derived.Test.YtkedcokhcgklpaaMFnExactTurnRigx4
import Derived.Test.YtkedcokhcgklpaaMFnExactTurnRigx5
import Derived.Test.YtkedcokhcgklpaaMFnExactTurnRigx6
import Derived.Test.YtkedcokhcgklpaaMFnExactTurnRigx7
import Derived.Test.YtkedcokhcgklpaaMFnExactTurnRigx8
import Derived.Test.YtkedcokhcgklpaaMFnExactTurnRigx9
import Derived.Test.YtkedcokhcgklpaaMFnExactTurnRigx10
import Derived.Test.YtkedcokhcgklpaaMFnExactTurnRigx11
import Derived.Test.YtkedcokhcgklpaaMFnExactTurnRigx12
namespace Go.Proofs.Ytkedcokhcgklpaa.MFnExactTurnRig
open Go.RowKit Go.Proofs.YtkedcokhcgklpaaW.PrintWords Go.Proofs.YtkedcokhcgklpaaW.PrintLast Go.Proofs.YtkedcokhcgklpaaW.PrintMore
attribute [local go_sem] max2_int min2_int max_two min_two max_three min_three max_four min_four   -- for this text's walks alone
set_option linter.unusedVariables false
set_option linter.unusedSimpArgs false

end Go.Proofs.Ytkedcokhcgklpaa.MFnExactTurnRig
