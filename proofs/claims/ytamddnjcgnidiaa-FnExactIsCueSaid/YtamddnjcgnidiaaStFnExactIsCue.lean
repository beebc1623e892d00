/- The one statement over numbers, texts and lists that the law FnExactIsCue comes down to; it is stated here and proved in the text Pure. -/
import Derived.Test.YtamddnjcgnidiaaMFnExactIsCuex
namespace Go.Proofs.Ytamddnjcgnidiaa.MFnExactIsCue
open Go Go.RowKit Go.Proofs.YtamddnjcgnidiaaW.PrintWords
def laws_FnExactIsCue.Pure : Prop := ∀ (a0_0 : Int) (a0_1 : ByteArray) (a0_2 : Int) (a0_3 : Int), (Lit.int .i64 a0_0).wf = true → a0_1.size ≤ maxLen → (Lit.int .i64 a0_2).wf = true → (Lit.int .i64 a0_3).wf = true → ∃ k, laws_FnExactIsCue.f k a0_0 a0_1 a0_2 a0_3 = some true
end Go.Proofs.Ytamddnjcgnidiaa.MFnExactIsCue
