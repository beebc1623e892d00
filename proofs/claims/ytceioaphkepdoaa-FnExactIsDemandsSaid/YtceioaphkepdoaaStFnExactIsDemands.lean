/- The one statement over numbers, texts and lists that the law FnExactIsDemands comes down to; it is stated here and proved in the text Pure. -/
import Derived.Test.YtceioaphkepdoaaMFnExactIsDemandsx
namespace Go.Proofs.Ytceioaphkepdoaa.MFnExactIsDemands
open Go Go.RowKit Go.Proofs.YtceioaphkepdoaaW.PrintWords
def laws_FnExactIsDemands.Pure : Prop := ∀ (l0 : List Int), l0.length ≤ maxLen → l0.length * 8 ≤ 140737488351232 → (∀ x ∈ l0, (Lit.int .i64 x).wf = true) → ∃ k, laws_FnExactIsDemands.f k l0 = some true
end Go.Proofs.Ytceioaphkepdoaa.MFnExactIsDemands
