/- The one statement over numbers, texts and lists that the law FnExactLaterWind comes down to; it is stated here and proved in the text Pure. -/
import Derived.Test.YtcfkaoibghhahaaMFnExactLaterWindx
namespace Go.Proofs.Ytcfkaoibghhahaa.MFnExactLaterWind
open Go Go.RowKit Go.Proofs.YtcfkaoibghhahaaW.PrintWords
def laws_FnExactLaterWind.Pure : Prop := ∀ (l0 : List S73) (a1 : Int), l0.length ≤ maxLen → l0.length * 24 ≤ 140737488351232 → (∀ x ∈ l0, (Lit.int .i64 x.f0).wf = true ∧ (((Lit.int .i64 x.f1.f0).wf = true ∧ ((Lit.int .i64 x.f1.f1).wf = true)))) → (Lit.int .i64 a1).wf = true → ∃ k, laws_FnExactLaterWind.f k l0 a1 = some true
end Go.Proofs.Ytcfkaoibghhahaa.MFnExactLaterWind
