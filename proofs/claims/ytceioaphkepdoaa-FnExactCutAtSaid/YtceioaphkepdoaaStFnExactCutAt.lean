/- The one statement over numbers, texts and lists that the law FnExactCutAt comes down to; it is stated here and proved in the text Pure. -/
import Derived.Test.YtceioaphkepdoaaMFnExactCutAtx
namespace Go.Proofs.Ytceioaphkepdoaa.MFnExactCutAt
open Go Go.RowKit Go.Proofs.YtceioaphkepdoaaW.PrintWords
def laws_FnExactCutAt.Pure : Prop := ∀ (l0 : List Int) (a1 : Int), l0.length ≤ maxLen → l0.length * 8 ≤ 140737488351232 → (∀ x ∈ l0, (Lit.int .i64 x).wf = true) → (Lit.int .i64 a1).wf = true → ∃ k, laws_FnExactCutAt.f k l0 a1 = some true
end Go.Proofs.Ytceioaphkepdoaa.MFnExactCutAt
