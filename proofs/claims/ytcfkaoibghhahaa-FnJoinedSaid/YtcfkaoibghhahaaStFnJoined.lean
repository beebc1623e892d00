/- The one statement over numbers, texts and lists that the law FnJoined comes down to; it is stated here and proved in the text Pure. -/
import Derived.Test.YtcfkaoibghhahaaMFnJoinedx
namespace Go.Proofs.Ytcfkaoibghhahaa.MFnJoined
open Go Go.RowKit Go.Proofs.YtcfkaoibghhahaaW.PrintWords
def laws_FnJoined.Pure : Prop := ∀ (l0 : List Int), l0.length ≤ maxLen → l0.length * 1 ≤ 140737488351232 → (∀ x ∈ l0, (Lit.int .u8 x).wf = true) → ∃ k, laws_FnJoined.f k l0 = some true
end Go.Proofs.Ytcfkaoibghhahaa.MFnJoined
