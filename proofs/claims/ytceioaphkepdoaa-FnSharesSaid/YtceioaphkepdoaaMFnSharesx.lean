-- Written by a program for this claim.
import Derived.Test.YtceioaphkepdoaaMFnSharesx0
import Derived.Test.YtceioaphkepdoaaMFnSharesx1
import Derived.Test.YtceioaphkepdoaaMFnSharesx2
import Derived.Test.YtceioaphkepdoaaMFnSharesx3
import Derived.Test.YtceioaphkepdoaaMFnSharesx4
import Derived.Test.YtceioaphkepdoaaMFnSharesx5
import Derived.Test.YtceioaphkepdoaaMFnSharesx6
namespace Go.Proofs.Ytceioaphkepdoaa.MFnShares
open Go.RowKit Go.Proofs.YtceioaphkepdoaaW.PrintWords Go.Proofs.YtceioaphkepdoaaW.PrintLast Go.Proofs.YtceioaphkepdoaaW.PrintMore
attribute [local go_sem] max2_int min2_int max_two min_two max_three min_three max_four min_four   -- for this text's walks alone
set_option linter.unusedVariables false
set_option linter.unusedSimpArgs false

end Go.Proofs.Ytceioaphkepdoaa.MFnShares
