/- The one statement over numbers, texts and lists that the law FnMerged comes down to; it is stated here and proved in the text Pure. -/
import Derived.Test.YtkljnmojnkiafaaMFnMergedx
namespace Go.Proofs.Ytkljnmojnkiafaa.MFnMerged
open Go Go.RowKit Go.Proofs.YtkljnmojnkiafaaW.PrintWords
def laws_FnMerged.Pure : Prop := ∀ (l0 : List Int), l0.length ≤ maxLen → l0.length * 1 ≤ 140737488351232 → (∀ x ∈ l0, (Lit.int .u8 x).wf = true) → ∃ k, laws_FnMerged.f k l0 = some true
end Go.Proofs.Ytkljnmojnkiafaa.MFnMerged
