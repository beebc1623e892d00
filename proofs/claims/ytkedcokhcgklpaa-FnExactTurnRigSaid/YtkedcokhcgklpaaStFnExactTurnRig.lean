/- The one statement over numbers, texts and lists that the law FnExactTurnRig comes down to; it is stated here and proved in the text Pure. -/
import Derived.Test.YtkedcokhcgklpaaMFnExactTurnRigx
namespace Go.Proofs.Ytkedcokhcgklpaa.MFnExactTurnRig
open Go Go.RowKit Go.Proofs.YtkedcokhcgklpaaW.PrintWords
def laws_FnExactTurnRig.Pure : Prop := ∀ (l0 : List S25) (a1 : Int), l0.length ≤ maxLen → l0.length * 80 ≤ 140737488351232 → (∀ x ∈ l0, x.f0.size ≤ maxLen ∧ ((Lit.int .i64 x.f1).wf = true ∧ (x.f2.size ≤ maxLen ∧ (((Lit.int .i64 x.f3.f0).wf = true ∧ ((Lit.int .i64 x.f3.f1).wf = true)) ∧ ((Lit.int .i64 x.f4).wf = true ∧ ((Lit.int .i64 x.f5).wf = true ∧ ((Lit.int .i64 x.f6).wf = true))))))) → (Lit.int .i64 a1).wf = true → ∃ k, laws_FnExactTurnRig.f k l0 a1 = some true
end Go.Proofs.Ytkedcokhcgklpaa.MFnExactTurnRig
