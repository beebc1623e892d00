-- Written by a program for this claim.
import Derived.Test.YtkedcokhcgklpaaMFnExactIsRigx0
import Derived.Test.YtkedcokhcgklpaaMFnExactIsRigx1
import Derived.Test.YtkedcokhcgklpaaMFnExactIsRigx2
import Derived.Test.YtkedcokhcgklpaaMFnExactIsRigx3
import Derived.Test.YtkedcokhcgklpaaMFnExactIsRigx4
import Derived.Test.YtkedcokhcgklpaaMFnExactIsRigx5
import Derived.Test.YtkedcokhcgklpaaMFnExactIsRigx6
import Derived.Test.YtkedcokhcgklpaaMFnExactIsRigx7
import Derived.Test.YtkedcokhcgklpaaMFnExactIsRigx8
import Derived.Test.YtkedcokhcgklpaaMFnExactIsRigx9
import Derived.Test.YtkedcokhcgklpaaMFnExactIsRigx10
namespace Go.Proofs.Ytkedcokhcgklpaa.MFnExactIsRig
open Go.RowKit Go.Proofs.YtkedcokhcgklpaaW.PrintWords Go.Proofs.YtkedcokhcgklpaaW.PrintLast Go.Proofs.YtkedcokhcgklpaaW.PrintMore
attribute [local go_sem] max2_int min2_int max_two min_two max_three min_three max_four min_four   -- for this text's walks alone
set_option linter.unusedVariables false
set_option linter.unusedSimpArgs false

end Go.Proofs.Ytkedcokhcgklpaa.MFnExactIsRig
