/- The one statement over numbers, texts and lists that the law FnFairAlike comes down to; it is stated here and proved in the text Pure. -/
import Derived.Test.YtceioaphkepdoaaMFnFairAlikex
namespace Go.Proofs.Ytceioaphkepdoaa.MFnFairAlike
open Go Go.RowKit Go.Proofs.YtceioaphkepdoaaW.PrintWords
def laws_FnFairAlike.Pure : Prop := ∀ (l0 : List Int), l0.length ≤ maxLen → l0.length * 1 ≤ 140737488351232 → (∀ x ∈ l0, (Lit.int .u8 x).wf = true) → ∃ k, laws_FnFairAlike.f k l0 = some true
end Go.Proofs.Ytceioaphkepdoaa.MFnFairAlike
