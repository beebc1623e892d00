/- The one statement over numbers, texts and lists that the law FnRig comes down to; it is stated here and proved in the text Pure. -/
import Derived.Test.YtkedcokhcgklpaaMFnRigx
namespace Go.Proofs.Ytkedcokhcgklpaa.MFnRig
open Go Go.RowKit Go.Proofs.YtkedcokhcgklpaaW.PrintWords
def laws_FnRig.Pure : Prop := ∀ (l0 : List Int), l0.length ≤ maxLen → l0.length * 1 ≤ 140737488351232 → (∀ x ∈ l0, (Lit.int .u8 x).wf = true) → ∃ k, laws_FnRig.f k l0 = some true
end Go.Proofs.Ytkedcokhcgklpaa.MFnRig
