-- Written by a program for this claim.
import Derived.Test.YtkedcokhcgklpaaMFnExactSameLinex0
import Derived.Test.YtkedcokhcgklpaaMFnExactSameLinex1
import Derived.Test.YtkedcokhcgklpaaMFnExactSameLinex2
import Derived.Test.YtkedcokhcgklpaaMFnExactSameLinex3
import Derived.Test.YtkedcokhcgklpaaMFnExactSameLinex4
import Derived.Test.YtkedcokhcgklpaaMFnExactSameLinex5
import Derived.Test.YtkedcokhcgklpaaMFnExactSameLinex6
import Derived.Test.YtkedcokhcgklpaaMFnExactSameLinex7
import Derived.Test.YtkedcokhcgklpaaMFnExactSameLinex8
import Derived.Test.YtkedcokhcgklpaaMFnExactSameLinex9
import Derived.Test.YtkedcokhcgklpaaMFnExactSameLinex10
import Derived.Test.YtkedcokhcgklpaaMFnExactSameLinex11
import Derived.Test.YtkedcokhcgklpaaMFnExactSameLinex12
namespace Go.Proofs.Ytkedcokhcgklpaa.MFnExactSameLine
open Go.RowKit Go.Proofs.YtkedcokhcgklpaaW.PrintWords Go.Proofs.YtkedcokhcgklpaaW.PrintLast Go.Proofs.YtkedcokhcgklpaaW.PrintMore
attribute [local go_sem] max2_int min2_int max_two min_two max_three min_three max_four min_four   -- for this text's walks alone
set_option linter.unusedVariables false
set_option linter.unusedSimpArgs false

end Go.Proofs.Ytkedcokhcgklpaa.MFnExactSameLine
