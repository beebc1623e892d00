-- Written by a program for this claim.
import Derived.Test.YtkedcokhcgklpaaMFnExactPumpOfx0
import Derived.Test.YtkedcokhcgklpaaMFnExactPumpOfx1
import Derived.Test.YtkedcokhcgklpaaMFnExactPumpOfx2
import Derived.Test.YtkedcokhcgklpaaMFnExactPumpOfx3
import Derived.Test.YtkedcokhcgklpaaMFnExactPumpOfx4
import Derived.Test.YtkedcokhcgklpaaMFnExactPumpOfx5
import Derived.Test.YtkedcokhcgklpaaMFnExactPumpOfx6
import Derived.Test.YtkedcokhcgklpaaMFnExactPumpOfx7
import Derived.Test.YtkedcokhcgklpaaMFnExactPumpOfx8
import Derived.Test.YtkedcokhcgklpaaMFnExactPumpOfx9
namespace Go.Proofs.Ytkedcokhcgklpaa.MFnExactPumpOf
open Go.RowKit Go.Proofs.YtkedcokhcgklpaaW.PrintWords Go.Proofs.YtkedcokhcgklpaaW.PrintLast Go.Proofs.YtkedcokhcgklpaaW.PrintMore
attribute [local go_sem] max2_int min2_int max_two min_two max_three min_three max_four min_four   -- for this text's walks alone
set_option linter.unusedVariables false
set_option linter.unusedSimpArgs false

end Go.Proofs.Ytkedcokhcgklpaa.MFnExactPumpOf
