/- The one statement over numbers, texts and lists that the law FnExactShiftRig comes down to; it is stated here and proved in the text Pure. -/
import Derived.Test.YtkedcokhcgklpaaMFnExactShiftRigx
namespace Go.Proofs.Ytkedcokhcgklpaa.MFnExactShiftRig
open Go Go.RowKit Go.Proofs.YtkedcokhcgklpaaW.PrintWords
def laws_FnExactShiftRig.Pure : Prop := ∀ (l0 : List S25) (a1_0 : Int) (a1_1 : Int), l0.length ≤ maxLen → l0.length * 80 ≤ 140737488351232 → (∀ x ∈ l0, x.f0.size ≤ maxLen ∧ ((Lit.int .i64 x.f1).wf = true ∧ (x.f2.size ≤ maxLen ∧ (((Lit.int .i64 x.f3.f0).wf = true ∧ ((Lit.int .i64 x.f3.f1).wf = true)) ∧ ((Lit.int .i64 x.f4).wf = true ∧ ((Lit.int .i64 x.f5).wf = true ∧ ((Lit.int .i64 x.f6).wf = true))))))) → (Lit.int .i64 a1_0).wf = true → (Lit.int .i64 a1_1).wf = true → ∃ k, laws_FnExactShiftRig.f k l0 a1_0 a1_1 = some true
end Go.Proofs.Ytkedcokhcgklpaa.MFnExactShiftRig
