/- The one statement over numbers, texts and lists that the law FnExactRemoveCue comes down to; it is stated here and proved in the text Pure. -/
import Derived.Test.YtamddnjcgnidiaaMFnExactRemoveCuex
namespace Go.Proofs.Ytamddnjcgnidiaa.MFnExactRemoveCue
open Go Go.RowKit Go.Proofs.YtamddnjcgnidiaaW.PrintWords
def laws_FnExactRemoveCue.Pure : Prop := ∀ (l0 : List S23) (a1 : Int) (a2 : ByteArray), l0.length ≤ maxLen → l0.length * 40 ≤ 140737488351232 → (∀ x ∈ l0, (Lit.int .i64 x.f0).wf = true ∧ (x.f1.size ≤ maxLen ∧ ((Lit.int .i64 x.f2).wf = true ∧ ((Lit.int .i64 x.f3).wf = true)))) → (Lit.int .i64 a1).wf = true → a2.size ≤ 140737488351232 → ∃ k, laws_FnExactRemoveCue.f k l0 a1 a2 = some true
end Go.Proofs.Ytamddnjcgnidiaa.MFnExactRemoveCue
