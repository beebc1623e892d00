/- The one statement over numbers, texts and lists that the law FnExactLevelFor comes down to; it is stated here and proved in the text Pure. -/
import Derived.Test.YtceioaphkepdoaaMFnExactLevelForx
namespace Go.Proofs.Ytceioaphkepdoaa.MFnExactLevelFor
open Go Go.RowKit Go.Proofs.YtceioaphkepdoaaW.PrintWords
def laws_FnExactLevelFor.Pure : Prop := ∀ (a0 : Int) (l1 : List Int), (Lit.int .i64 a0).wf = true → l1.length ≤ maxLen → l1.length * 8 ≤ 140737488351232 → (∀ x ∈ l1, (Lit.int .i64 x).wf = true) → ∃ k, laws_FnExactLevelFor.f k a0 l1 = some true
end Go.Proofs.Ytceioaphkepdoaa.MFnExactLevelFor
