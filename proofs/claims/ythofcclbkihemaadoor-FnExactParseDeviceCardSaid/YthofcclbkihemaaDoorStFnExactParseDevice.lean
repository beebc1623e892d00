/- The one statement over numbers, texts and lists that the law FnExactParseDevice comes down to; it is stated here and proved in the text Pure. -/
import Derived.Test.YthofcclbkihemaaDoorMFnExactParseDevicex
namespace Go.Proofs.YthofcclbkihemaaDoor.MFnExactParseDevice
open Go Go.RowKit Go.Proofs.YthofcclbkihemaaDoorW.PrintWords
def laws_FnExactParseDevice.Pure : Prop := ∀ (a0 : ByteArray), a0.size ≤ 140737488351232 → ∃ k, laws_FnExactParseDevice.f k a0 = some true
end Go.Proofs.YthofcclbkihemaaDoor.MFnExactParseDevice
