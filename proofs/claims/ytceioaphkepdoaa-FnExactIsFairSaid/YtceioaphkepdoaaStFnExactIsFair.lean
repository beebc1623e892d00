/- The one statement over numbers, texts and lists that the law FnExactIsFair comes down to; it is stated here and proved in the text Pure. -/
import Derived.Test.YtceioaphkepdoaaMFnExactIsFairx
namespace Go.Proofs.Ytceioaphkepdoaa.MFnExactIsFair
open Go Go.RowKit Go.Proofs.YtceioaphkepdoaaW.PrintWords
def laws_FnExactIsFair.Pure : Prop := ∀ (a0 : Int) (l1 : List Int) (l2 : List Int), (Lit.int .i64 a0).wf = true → l1.length ≤ maxLen → l1.length * 8 ≤ 140737488351232 → (∀ x ∈ l1, (Lit.int .i64 x).wf = true) → l2.length ≤ maxLen → l2.length * 8 ≤ 140737488351232 → (∀ x ∈ l2, (Lit.int .i64 x).wf = true) → ∃ k, laws_FnExactIsFair.f k a0 l1 l2 = some true
end Go.Proofs.Ytceioaphkepdoaa.MFnExactIsFair
