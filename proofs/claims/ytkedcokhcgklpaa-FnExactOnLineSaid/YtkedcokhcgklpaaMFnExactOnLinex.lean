-- Written by a program for this claim.
import Derived.Test.YtkedcokhcgklpaaMFnExactOnLinex0
import Derived.Test.YtkedcokhcgklpaaMFnExactOnLinex1
import Derived.Test.YtkedcokhcgklpaaMFnExactOnLinex2
import Derived.Test.YtkedcokhcgklpaaMFnExactOnLinex3
import Derived.Test.YtkedcokhcgklpaaMFnExactOnLinex4
import Derived.Test.YtkedcokhcgklpaaMFnExactOnLinex5
import Derived.Test.YtkedcokhcgklpaaMFnExactOnLinex6
import Derived.Test.YtkedcokhcgklpaaMFnExactOnLinex7
import Derived.Test.YtkedcokhcgklpaaMFnExactOnLinex8
import Derived.Test.YtkedcokhcgklpaaMFnExactOnLinex9
import Derived.Test.YtkedcokhcgklpaaMFnExactOnLinex10
namespace Go.Proofs.Ytkedcokhcgklpaa.MFnExactOnLine
open Go.RowKit Go.Proofs.YtkedcokhcgklpaaW.PrintWords Go.Proofs.YtkedcokhcgklpaaW.PrintLast Go.Proofs.YtkedcokhcgklpaaW.PrintMore
attribute [local go_sem] max2_int min2_int max_two min_two max_three min_three max_four min_four   -- for this text's walks alone
set_option linter.unusedVariables false
set_option linter.unusedSimpArgs false

end Go.Proofs.Ytkedcokhcgklpaa.MFnExactOnLine
