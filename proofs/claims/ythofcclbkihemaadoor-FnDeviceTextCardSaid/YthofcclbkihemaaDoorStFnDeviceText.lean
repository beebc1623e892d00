/- The one statement over numbers, texts and lists that the law FnDeviceText comes down to; it is stated here and proved in the text Pure. -/
import Derived.Test.YthofcclbkihemaaDoorMFnDeviceTextx
namespace Go.Proofs.YthofcclbkihemaaDoor.MFnDeviceText
open Go Go.RowKit Go.Proofs.YthofcclbkihemaaDoorW.PrintWords
def laws_FnDeviceText.Pure : Prop := ∀ (l0 : List Int), l0.length ≤ maxLen → l0.length * 1 ≤ 140737488351232 → (∀ x ∈ l0, (Lit.int .u8 x).wf = true) → ∃ k, laws_FnDeviceText.f k l0 = some true
end Go.Proofs.YthofcclbkihemaaDoor.MFnDeviceText
