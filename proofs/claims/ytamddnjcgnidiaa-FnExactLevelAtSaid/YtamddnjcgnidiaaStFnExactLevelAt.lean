/- The one statement over numbers, texts and lists that the law FnExactLevelAt comes down to; it is stated here and proved in the text Pure. -/
import Derived.Test.YtamddnjcgnidiaaMFnExactLevelAtx
namespace Go.Proofs.Ytamddnjcgnidiaa.MFnExactLevelAt
open Go Go.RowKit Go.Proofs.YtamddnjcgnidiaaW.PrintWords
def laws_FnExactLevelAt.Pure : Prop := ∀ (l0 : List S23) (a1 : ByteArray) (a2 : Int), l0.length ≤ maxLen → l0.length * 40 ≤ 140737488351232 → (∀ x ∈ l0, (Lit.int .i64 x.f0).wf = true ∧ (x.f1.size ≤ maxLen ∧ ((Lit.int .i64 x.f2).wf = true ∧ ((Lit.int .i64 x.f3).wf = true)))) → a1.size ≤ 140737488351232 → (Lit.int .i64 a2).wf = true → ∃ k, laws_FnExactLevelAt.f k l0 a1 a2 = some true
end Go.Proofs.Ytamddnjcgnidiaa.MFnExactLevelAt
