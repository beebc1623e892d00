/- The one statement over numbers, texts and lists that the law FnRoseSides comes down to; it is stated here and proved in the text Pure. -/
import Derived.Test.YtkljnmojnkiafaaMFnRoseSidesx
namespace Go.Proofs.Ytkljnmojnkiafaa.MFnRoseSides
open Go Go.RowKit Go.Proofs.YtkljnmojnkiafaaW.PrintWords
def laws_FnRoseSides.Pure : Prop := ∀ (l0 : List Int), l0.length ≤ maxLen → l0.length * 1 ≤ 140737488351232 → (∀ x ∈ l0, (Lit.int .u8 x).wf = true) → ∃ k, laws_FnRoseSides.f k l0 = some true
end Go.Proofs.Ytkljnmojnkiafaa.MFnRoseSides
