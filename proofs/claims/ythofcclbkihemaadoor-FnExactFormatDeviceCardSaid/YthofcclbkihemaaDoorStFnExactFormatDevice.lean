/- The one statement over numbers, texts and lists that the law FnExactFormatDevice comes down to; it is stated here and proved in the text Pure. -/
import Derived.Test.YthofcclbkihemaaDoorMFnExactFormatDevicex
namespace Go.Proofs.YthofcclbkihemaaDoor.MFnExactFormatDevice
open Go Go.RowKit Go.Proofs.YthofcclbkihemaaDoorW.PrintWords
def laws_FnExactFormatDevice.Pure : Prop := ∀ (a0_0 : ByteArray) (a0_1 : Int) (a0_2 : ByteArray) (a0_3 : Int) (a0_4 : Int) (a0_5 : Int) (a0_6 : Int) (a0_7 : Int), a0_0.size ≤ maxLen → (Lit.int .i64 a0_1).wf = true → a0_2.size ≤ maxLen → (Lit.int .i64 a0_3).wf = true → (Lit.int .i64 a0_4).wf = true → (Lit.int .i64 a0_5).wf = true → (Lit.int .i64 a0_6).wf = true → (Lit.int .i64 a0_7).wf = true → ∃ k, laws_FnExactFormatDevice.f k a0_0 a0_1 a0_2 a0_3 a0_4 a0_5 a0_6 a0_7 = some true
end Go.Proofs.YthofcclbkihemaaDoor.MFnExactFormatDevice
