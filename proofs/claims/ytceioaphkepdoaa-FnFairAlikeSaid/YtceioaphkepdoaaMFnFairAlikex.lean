-- Written by a program for this claim.
import Derived.Test.YtceioaphkepdoaaMFnFairAlikex0
import Derived.Test.YtceioaphkepdoaaMFnFairAlikex1
import Derived.Test.YtceioaphkepdoaaMFnFairAlikex2
import Derived.Test.YtceioaphkepdoaaMFnFairAlikex3
import Derived.Test.YtceioaphkepdoaaMFnFairAlikex4
import Derived.Test.YtceioaphkepdoaaMFnFairAlikex5
import Derived.Test.YtceioaphkepdoaaMFnFairAlikex6
import Derived.Test.YtceioaphkepdoaaMFnFairAlikex7
namespace Go.Proofs.Ytceioaphkepdoaa.MFnFairAlike
open Go.RowKit Go.Proofs.YtceioaphkepdoaaW.PrintWords Go.Proofs.YtceioaphkepdoaaW.PrintLast Go.Proofs.YtceioaphkepdoaaW.PrintMore
attribute [local go_sem] max2_int min2_int max_two min_two max_three min_three max_four min_four   -- for this text's walks alone
set_option linter.unusedVariables false
set_option linter.unusedSimpArgs false

end Go.Proofs.Ytceioaphkepdoaa.MFnFairAlike
