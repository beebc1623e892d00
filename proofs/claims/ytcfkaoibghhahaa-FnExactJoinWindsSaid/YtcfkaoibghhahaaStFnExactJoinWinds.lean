/- The one statement over numbers, texts and lists that the law FnExactJoinWinds comes down to; it is stated here and proved in the text Pure. -/
import Derived.Test.YtcfkaoibghhahaaMFnExactJoinWindsx
namespace Go.Proofs.Ytcfkaoibghhahaa.MFnExactJoinWinds
open Go Go.RowKit Go.Proofs.YtcfkaoibghhahaaW.PrintWords
def laws_FnExactJoinWinds.Pure : Prop := ∀ (l0 : List S73) (l1 : List S73) (a2 : Int), l0.length ≤ maxLen → l0.length * 24 ≤ 140737488351232 → (∀ x ∈ l0, (Lit.int .i64 x.f0).wf = true ∧ (((Lit.int .i64 x.f1.f0).wf = true ∧ ((Lit.int .i64 x.f1.f1).wf = true)))) → l1.length ≤ maxLen → l1.length * 24 ≤ 140737488351232 → (∀ x ∈ l1, (Lit.int .i64 x.f0).wf = true ∧ (((Lit.int .i64 x.f1.f0).wf = true ∧ ((Lit.int .i64 x.f1.f1).wf = true)))) → (Lit.int .i64 a2).wf = true → ∃ k, laws_FnExactJoinWinds.f k l0 l1 a2 = some true
end Go.Proofs.Ytcfkaoibghhahaa.MFnExactJoinWinds
