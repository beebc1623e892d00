/- The one statement over numbers, texts and lists that the law FnExactEndOf comes down to; it is stated here and proved in the text Pure. -/
import Derived.Test.YtamddnjcgnidiaaMFnExactEndOfx
namespace Go.Proofs.Ytamddnjcgnidiaa.MFnExactEndOf
open Go Go.RowKit Go.Proofs.YtamddnjcgnidiaaW.PrintWords
def laws_FnExactEndOf.Pure : Prop := ∀ (l0 : List S23), l0.length ≤ maxLen → l0.length * 40 ≤ 140737488351232 → (∀ x ∈ l0, (Lit.int .i64 x.f0).wf = true ∧ (x.f1.size ≤ maxLen ∧ ((Lit.int .i64 x.f2).wf = true ∧ ((Lit.int .i64 x.f3).wf = true)))) → ∃ k, laws_FnExactEndOf.f k l0 = some true
end Go.Proofs.Ytamddnjcgnidiaa.MFnExactEndOf
