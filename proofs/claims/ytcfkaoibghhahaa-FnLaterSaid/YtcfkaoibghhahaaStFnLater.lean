/- The one statement over numbers, texts and lists that the law FnLater comes down to; it is stated here and proved in the text Pure. -/
import Derived.Test.YtcfkaoibghhahaaMFnLaterx
namespace Go.Proofs.Ytcfkaoibghhahaa.MFnLater
open Go Go.RowKit Go.Proofs.YtcfkaoibghhahaaW.PrintWords
def laws_FnLater.Pure : Prop := ∀ (l0 : List Int), l0.length ≤ maxLen → l0.length * 1 ≤ 140737488351232 → (∀ x ∈ l0, (Lit.int .u8 x).wf = true) → ∃ k, laws_FnLater.f k l0 = some true
end Go.Proofs.Ytcfkaoibghhahaa.MFnLater
