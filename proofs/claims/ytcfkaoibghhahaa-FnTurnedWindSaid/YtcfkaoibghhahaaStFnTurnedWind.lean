/- The one statement over numbers, texts and lists that the law FnTurnedWind comes down to; it is stated here and proved in the text Pure. -/
import Derived.Test.YtcfkaoibghhahaaMFnTurnedWindx
namespace Go.Proofs.Ytcfkaoibghhahaa.MFnTurnedWind
open Go Go.RowKit Go.Proofs.YtcfkaoibghhahaaW.PrintWords
def laws_FnTurnedWind.Pure : Prop := ∀ (l0 : List Int), l0.length ≤ maxLen → l0.length * 1 ≤ 140737488351232 → (∀ x ∈ l0, (Lit.int .u8 x).wf = true) → ∃ k, laws_FnTurnedWind.f k l0 = some true
end Go.Proofs.Ytcfkaoibghhahaa.MFnTurnedWind
