/- The one statement over numbers, texts and lists that the law FnExactOnlyNames comes down to; it is stated here and proved in the text Pure. -/
import Derived.Test.YtamddnjcgnidiaaMFnExactOnlyNamesx
namespace Go.Proofs.Ytamddnjcgnidiaa.MFnExactOnlyNames
open Go Go.RowKit Go.Proofs.YtamddnjcgnidiaaW.PrintWords
def laws_FnExactOnlyNames.Pure : Prop := ∀ (l0 : List S23) (l1 : List ByteArray), l0.length ≤ maxLen → l0.length * 40 ≤ 140737488351232 → (∀ x ∈ l0, (Lit.int .i64 x.f0).wf = true ∧ (x.f1.size ≤ maxLen ∧ ((Lit.int .i64 x.f2).wf = true ∧ ((Lit.int .i64 x.f3).wf = true)))) → l1.length ≤ maxLen → l1.length * 16 ≤ 140737488351232 → (∀ x ∈ l1, x.size ≤ maxLen) → ∃ k, laws_FnExactOnlyNames.f k l0 l1 = some true
end Go.Proofs.Ytamddnjcgnidiaa.MFnExactOnlyNames
