/- The one statement over numbers, texts and lists that the law FnLines comes down to; it is stated here and proved in the text Pure. -/
import Derived.Test.YtkedcokhcgklpaaMFnLinesx
namespace Go.Proofs.Ytkedcokhcgklpaa.MFnLines
open Go Go.RowKit Go.Proofs.YtkedcokhcgklpaaW.PrintWords
def laws_FnLines.Pure : Prop := ∀ (l0 : List Int), l0.length ≤ maxLen → l0.length * 1 ≤ 140737488351232 → (∀ x ∈ l0, (Lit.int .u8 x).wf = true) → ∃ k, laws_FnLines.f k l0 = some true
end Go.Proofs.Ytkedcokhcgklpaa.MFnLines
