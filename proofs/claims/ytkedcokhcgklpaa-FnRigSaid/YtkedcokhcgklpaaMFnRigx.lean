-- Written by a program for this claim.
import Derived.Test.YtkedcokhcgklpaaMFnRigx0
import Derived.Test.YtkedcokhcgklpaaMFnRigx1
import Derived.Test.YtkedcokhcgklpaaMFnRigx2
import Derived.Test.YtkedcokhcgklpaaMFnRigx3
import Derived.Test.YtkedcokhcgklpaaMFnRigx4
import Derived.Test.YtkedcokhcgklpaaMFnRigx5
import Derived.Test.YtkedcokhcgklpaaMFnRigx6
import Derived.Test.YtkedcokhcgklpaaMFnRigx7
import Derived.Test.YtkedcokhcgklpaaMFnRigx8
import Derived.Test.YtkedcokhcgklpaaMFnRigx9
import Derived.Test.YtkedcokhcgklpaaMFnRigx10
import Derived.Test.YtkedcokhcgklpaaMFnRigx11
import Derived.Test.YtkedcokhcgklpaaMFnRigx12
import Derived.Test.YtkedcokhcgklpaaMFnRigx13
import Derived.Test.YtkedcokhcgklpaaMFnRigx14
import Derived.Test.YtkedcokhcgklpaaMFnRigx15
namespace Go.Proofs.Ytkedcokhcgklpaa.MFnRig
open Go.RowKit Go.Proofs.YtkedcokhcgklpaaW.PrintWords Go.Proofs.YtkedcokhcgklpaaW.PrintLast Go.Proofs.YtkedcokhcgklpaaW.PrintMore
attribute [local go_sem] max2_int min2_int max_two min_two max_three min_three max_four min_four   -- for this text's walks alone
set_option linter.unusedVariables false
set_option linter.unusedSimpArgs false

end Go.Proofs.Ytkedcokhcgklpaa.MFnRig
