/- The one statement over numbers, texts and lists that the law FnExactCompareCues comes down to; it is stated here and proved in the text Pure. -/
import Derived.Test.YtamddnjcgnidiaaMFnExactCompareCuesx
namespace Go.Proofs.Ytamddnjcgnidiaa.MFnExactCompareCues
open Go Go.RowKit Go.Proofs.YtamddnjcgnidiaaW.PrintWords
def laws_FnExactCompareCues.Pure : Prop := ∀ (a0_0 : Int) (a0_1 : ByteArray) (a0_2 : Int) (a0_3 : Int) (a1_0 : Int) (a1_1 : ByteArray) (a1_2 : Int) (a1_3 : Int), (Lit.int .i64 a0_0).wf = true → a0_1.size ≤ maxLen → (Lit.int .i64 a0_2).wf = true → (Lit.int .i64 a0_3).wf = true → (Lit.int .i64 a1_0).wf = true → a1_1.size ≤ maxLen → (Lit.int .i64 a1_2).wf = true → (Lit.int .i64 a1_3).wf = true → ∃ k, laws_FnExactCompareCues.f k a0_0 a0_1 a0_2 a0_3 a1_0 a1_1 a1_2 a1_3 = some true
end Go.Proofs.Ytamddnjcgnidiaa.MFnExactCompareCues
