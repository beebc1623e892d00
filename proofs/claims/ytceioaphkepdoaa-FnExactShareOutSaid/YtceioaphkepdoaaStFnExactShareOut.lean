/- The one statement over numbers, texts and lists that the law FnExactShareOut comes down to; it is stated here and proved in the text Pure. -/
import Derived.Test.YtceioaphkepdoaaMFnExactShareOutx
namespace Go.Proofs.Ytceioaphkepdoaa.MFnExactShareOut
open Go Go.RowKit Go.Proofs.YtceioaphkepdoaaW.PrintWords
def laws_FnExactShareOut.Pure : Prop := ∀ (a0 : Int) (l1 : List Int), (Lit.int .i64 a0).wf = true → l1.length ≤ maxLen → l1.length * 8 ≤ 140737488351232 → (∀ x ∈ l1, (Lit.int .i64 x).wf = true) → ∃ k, laws_FnExactShareOut.f k a0 l1 = some true
end Go.Proofs.Ytceioaphkepdoaa.MFnExactShareOut
