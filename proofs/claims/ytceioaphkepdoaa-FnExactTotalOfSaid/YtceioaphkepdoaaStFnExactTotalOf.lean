/- The one statement over numbers, texts and lists that the law FnExactTotalOf comes down to; it is stated here and proved in the text Pure. -/
import Derived.Test.YtceioaphkepdoaaMFnExactTotalOfx
namespace Go.Proofs.Ytceioaphkepdoaa.MFnExactTotalOf
open Go Go.RowKit Go.Proofs.YtceioaphkepdoaaW.PrintWords
def laws_FnExactTotalOf.Pure : Prop := ∀ (l0 : List Int), l0.length ≤ maxLen → l0.length * 8 ≤ 140737488351232 → (∀ x ∈ l0, (Lit.int .i64 x).wf = true) → ∃ k, laws_FnExactTotalOf.f k l0 = some true
end Go.Proofs.Ytceioaphkepdoaa.MFnExactTotalOf
