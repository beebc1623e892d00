/- The one statement over numbers, texts and lists that the law FnEnd comes down to; it is stated here and proved in the text Pure. -/
import Derived.Test.YtamddnjcgnidiaaMFnEndx
namespace Go.Proofs.Ytamddnjcgnidiaa.MFnEnd
open Go Go.RowKit Go.Proofs.YtamddnjcgnidiaaW.PrintWords
def laws_FnEnd.Pure : Prop := ∀ (l0 : List Int), l0.length ≤ maxLen → l0.length * 1 ≤ 140737488351232 → (∀ x ∈ l0, (Lit.int .u8 x).wf = true) → ∃ k, laws_FnEnd.f k l0 = some true
end Go.Proofs.Ytamddnjcgnidiaa.MFnEnd
