/- The one statement over numbers, texts and lists that the law FnExactLackOf comes down to; it is stated here and proved in the text Pure. -/
import Derived.Test.YtceioaphkepdoaaMFnExactLackOfx
namespace Go.Proofs.Ytceioaphkepdoaa.MFnExactLackOf
open Go Go.RowKit Go.Proofs.YtceioaphkepdoaaW.PrintWords
def laws_FnExactLackOf.Pure : Prop := ∀ (l0 : List Int) (l1 : List Int), l0.length ≤ maxLen → l0.length * 8 ≤ 140737488351232 → (∀ x ∈ l0, (Lit.int .i64 x).wf = true) → l1.length ≤ maxLen → l1.length * 8 ≤ 140737488351232 → (∀ x ∈ l1, (Lit.int .i64 x).wf = true) → ∃ k, laws_FnExactLackOf.f k l0 l1 = some true
end Go.Proofs.Ytceioaphkepdoaa.MFnExactLackOf
