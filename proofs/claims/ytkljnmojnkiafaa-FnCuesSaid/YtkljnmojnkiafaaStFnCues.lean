/- The one statement over numbers, texts and lists that the law FnCues comes down to; it is stated here and proved in the text Pure. -/
import Derived.Test.YtkljnmojnkiafaaMFnCuesx
namespace Go.Proofs.Ytkljnmojnkiafaa.MFnCues
open Go Go.RowKit Go.Proofs.YtkljnmojnkiafaaW.PrintWords
def laws_FnCues.Pure : Prop := ∀ (l0 : List Int), l0.length ≤ maxLen → l0.length * 1 ≤ 140737488351232 → (∀ x ∈ l0, (Lit.int .u8 x).wf = true) → ∃ k, laws_FnCues.f k l0 = some true
end Go.Proofs.Ytkljnmojnkiafaa.MFnCues
