-- Written by a program for this claim.
import Derived.Test.YtkedcokhcgklpaaMFnLinesx0
import Derived.Test.YtkedcokhcgklpaaMFnLinesx1
import Derived.Test.YtkedcokhcgklpaaMFnLinesx2
import Derived.Test.YtkedcokhcgklpaaMFnLinesx3
import Derived.Test.YtkedcokhcgklpaaMFnLinesx4
import Derived.Test.YtkedcokhcgklpaaMFnLinesx5
import Derived.Test.YtkedcokhcgklpaaMFnLinesx6
import Derived.Test.YtkedcokhcgklpaaMFnLinesx7
import Derived.Test.YtkedcokhcgklpaaMFnLinesx8
import Derived.Test.YtkedcokhcgklpaaMFnLinesx9
import Derived.Test.YtkedcokhcgklpaaMFnLinesx10
import Derived.Test.YtkedcokhcgklpaaMFnLinesx11
import Derived.Test.YtkedcokhcgklpaaMFnLinesx12
import Derived.Test.YtkedcokhcgklpaaMFnLinesx14
namespace Go.Proofs.Ytkedcokhcgklpaa.MFnLines
open Go.RowKit Go.Proofs.YtkedcokhcgklpaaW.PrintWords Go.Proofs.YtkedcokhcgklpaaW.PrintLast Go.Proofs.YtkedcokhcgklpaaW.PrintMore
attribute [local go_sem] max2_int min2_int max_two min_two max_three min_three max_four min_four   -- for this text's walks alone
set_option linter.unusedVariables false
set_option linter.unusedSimpArgs false

end Go.Proofs.Ytkedcokhcgklpaa.MFnLines
