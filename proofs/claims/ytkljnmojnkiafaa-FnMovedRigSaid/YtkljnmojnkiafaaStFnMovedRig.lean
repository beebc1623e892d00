/- The one statement over numbers, texts and lists that the law FnMovedRig comes down to; it is stated here and proved in the text Pure. -/
import Derived.Test.YtkljnmojnkiafaaMFnMovedRigx
namespace Go.Proofs.Ytkljnmojnkiafaa.MFnMovedRig
open Go Go.RowKit Go.Proofs.YtkljnmojnkiafaaW.PrintWords
def laws_FnMovedRig.Pure : Prop := ∀ (l0 : List Int), l0.length ≤ maxLen → l0.length * 1 ≤ 140737488351232 → (∀ x ∈ l0, (Lit.int .u8 x).wf = true) → ∃ k, laws_FnMovedRig.f k l0 = some true
end Go.Proofs.Ytkljnmojnkiafaa.MFnMovedRig
