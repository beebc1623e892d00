/- The one statement over numbers, texts and lists that the law FnExactParseCue comes down to; it is stated here and proved in the text Pure. -/
import Derived.Test.YthofcclbkihemaaDoorMFnExactParseCuex
namespace Go.Proofs.YthofcclbkihemaaDoor.MFnExactParseCue
open Go Go.RowKit Go.Proofs.YthofcclbkihemaaDoorW.PrintWords
def laws_FnExactParseCue.Pure : Prop := ∀ (a0 : ByteArray), a0.size ≤ 140737488351232 → ∃ k, laws_FnExactParseCue.f k a0 = some true
end Go.Proofs.YthofcclbkihemaaDoor.MFnExactParseCue
