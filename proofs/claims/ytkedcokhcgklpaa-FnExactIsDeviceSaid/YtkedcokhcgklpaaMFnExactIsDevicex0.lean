-- Written by a program for this claim.
import Derived.Test.YtkedcokhcgklpaaProg
import Derived.Below
import Derived.Deep.Draws
import Derived.Deep.AppendLies
import Derived.Maps.AppendAt
import Derived.OwnWalk
import Derived.Laws.BytesArg
import Derived.Laws.MakeOwn
import Derived.Laws.OwnMore
import Derived.Deep.OwnRows
import Derived.Tactics
import Derived.Lib.ConvBytes
import Derived.Laws.Slices
import Derived.WalkKit
import Derived.KernelRfl
import Derived.RowKit3
import Derived.Deep.LoopGhost
import Derived.Deep.QuietTactic
import Derived.BigQuiet
import Derived.WideLaws
import Derived.Deep.DeepCutAuto
import Derived.Deep.CutBlock
import Derived.Deep.RegionHeld3
import Derived.Laws.Rows
import Derived.Lib.AppendStr
import Derived.ArgAppend
import Derived.Laws.IdiomCopy
import Derived.OrdersHeld
import Derived.Laws.BitsLemmas
import Derived.RowKit
import Derived.Test.YtkedcokhcgklpaaWWords
import Derived.Test.YtkedcokhcgklpaaWLast
import Derived.Test.YtkedcokhcgklpaaWTab
import Derived.Test.YtkedcokhcgklpaaWFour
import Derived.Test.YtkedcokhcgklpaaWQPut
import Derived.Test.YtkedcokhcgklpaaWApart
import Derived.Test.YtkedcokhcgklpaaWArr
import Derived.Test.YtkedcokhcgklpaaWZeros
import Derived.Test.YtkedcokhcgklpaaWFoot
import Derived.Test.YtkedcokhcgklpaaWKept
import Derived.Test.YtkedcokhcgklpaaWShare
import Derived.Test.YtkedcokhcgklpaaWN
import Derived.Test.YtkedcokhcgklpaaWFootNe
import Derived.Test.YtkedcokhcgklpaaWAt
import Derived.Test.YtkedcokhcgklpaaWEqStruct
import Derived.Test.YtkedcokhcgklpaaWRepsOne
import Derived.Test.YtkedcokhcgklpaaWInv
import Derived.Test.YtkedcokhcgklpaaWInvWords
import Derived.Test.YtkedcokhcgklpaaWGuard
import Derived.Test.YtkedcokhcgklpaaWNEv
import Derived.Test.YtkedcokhcgklpaaWMore
namespace Go.Proofs.Ytkedcokhcgklpaa.MFnExactIsDevice
open Go.RowKit Go.Proofs.YtkedcokhcgklpaaW.PrintWords Go.Proofs.YtkedcokhcgklpaaW.PrintLast Go.Proofs.YtkedcokhcgklpaaW.PrintMore
attribute [local go_sem] max2_int min2_int max_two min_two max_three min_three max_four min_four   -- for this text's walks alone
set_option linter.unusedVariables false
set_option linter.unusedSimpArgs false



def errW : Option Int → Value
  | none => .nilIface
  | some c => .iface 0 (.int .i64 c)
theorem errW_none : errW none = .nilIface := rfl
theorem errW_some (c : Int) : errW (some c) = .iface 0 (.int .i64 c) := rfl

-- the values' own types

end Go.Proofs.Ytkedcokhcgklpaa.MFnExactIsDevice
