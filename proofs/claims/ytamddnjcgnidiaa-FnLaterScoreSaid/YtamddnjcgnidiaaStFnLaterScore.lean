/- The one statement over numbers, texts and lists that the law FnLaterScore comes down to; it is stated here and proved in the text Pure. -/
import Derived.Test.YtamddnjcgnidiaaMFnLaterScorex
namespace Go.Proofs.Ytamddnjcgnidiaa.MFnLaterScore
open Go Go.RowKit Go.Proofs.YtamddnjcgnidiaaW.PrintWords
def laws_FnLaterScore.Pure : Prop := ∀ (l0 : List Int), l0.length ≤ maxLen → l0.length * 1 ≤ 140737488351232 → (∀ x ∈ l0, (Lit.int .u8 x).wf = true) → ∃ k, laws_FnLaterScore.f k l0 = some true
end Go.Proofs.Ytamddnjcgnidiaa.MFnLaterScore
