/- The one statement over numbers, texts and lists that the law FnCueText comes down to; it is stated here and proved in the text Pure. -/
import Derived.Test.YthofcclbkihemaaDoorMFnCueTextx
namespace Go.Proofs.YthofcclbkihemaaDoor.MFnCueText
open Go Go.RowKit Go.Proofs.YthofcclbkihemaaDoorW.PrintWords
def laws_FnCueText.Pure : Prop := ∀ (l0 : List Int), l0.length ≤ maxLen → l0.length * 1 ≤ 140737488351232 → (∀ x ∈ l0, (Lit.int .u8 x).wf = true) → ∃ k, laws_FnCueText.f k l0 = some true
end Go.Proofs.YthofcclbkihemaaDoor.MFnCueText
