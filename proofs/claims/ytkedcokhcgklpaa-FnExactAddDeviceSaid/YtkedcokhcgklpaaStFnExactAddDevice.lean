/- The one statement over numbers, texts and lists that the law FnExactAddDevice comes down to; it is stated here and proved in the text Pure. -/
import Derived.Test.YtkedcokhcgklpaaMFnExactAddDevicex
namespace Go.Proofs.Ytkedcokhcgklpaa.MFnExactAddDevice
open Go Go.RowKit Go.Proofs.YtkedcokhcgklpaaW.PrintWords
def laws_FnExactAddDevice.Pure : Prop := ∀ (l0 : List S25) (a1_0 : ByteArray) (a1_1 : Int) (a1_2 : ByteArray) (a1_3 : Int) (a1_4 : Int) (a1_5 : Int) (a1_6 : Int) (a1_7 : Int), l0.length ≤ maxLen → l0.length * 80 ≤ 140737488351232 → (∀ x ∈ l0, x.f0.size ≤ maxLen ∧ ((Lit.int .i64 x.f1).wf = true ∧ (x.f2.size ≤ maxLen ∧ (((Lit.int .i64 x.f3.f0).wf = true ∧ ((Lit.int .i64 x.f3.f1).wf = true)) ∧ ((Lit.int .i64 x.f4).wf = true ∧ ((Lit.int .i64 x.f5).wf = true ∧ ((Lit.int .i64 x.f6).wf = true))))))) → a1_0.size ≤ maxLen → (Lit.int .i64 a1_1).wf = true → a1_2.size ≤ maxLen → (Lit.int .i64 a1_3).wf = true → (Lit.int .i64 a1_4).wf = true → (Lit.int .i64 a1_5).wf = true → (Lit.int .i64 a1_6).wf = true → (Lit.int .i64 a1_7).wf = true → ∃ k, laws_FnExactAddDevice.f k l0 a1_0 a1_1 a1_2 a1_3 a1_4 a1_5 a1_6 a1_7 = some true
end Go.Proofs.Ytkedcokhcgklpaa.MFnExactAddDevice
