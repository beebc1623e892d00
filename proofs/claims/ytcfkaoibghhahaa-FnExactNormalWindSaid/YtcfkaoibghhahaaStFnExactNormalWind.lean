/- The one statement over numbers, texts and lists that the law FnExactNormalWind comes down to; it is stated here and proved in the text Pure. -/
import Derived.Test.YtcfkaoibghhahaaMFnExactNormalWindx
namespace Go.Proofs.Ytcfkaoibghhahaa.MFnExactNormalWind
open Go Go.RowKit Go.Proofs.YtcfkaoibghhahaaW.PrintWords
def laws_FnExactNormalWind.Pure : Prop := ∀ (l0 : List S73), l0.length ≤ maxLen → l0.length * 24 ≤ 140737488351232 → (∀ x ∈ l0, (Lit.int .i64 x.f0).wf = true ∧ (((Lit.int .i64 x.f1.f0).wf = true ∧ ((Lit.int .i64 x.f1.f1).wf = true)))) → ∃ k, laws_FnExactNormalWind.f k l0 = some true
end Go.Proofs.Ytcfkaoibghhahaa.MFnExactNormalWind
