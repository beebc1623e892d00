/- The one statement over numbers, texts and lists that the law FnExactMergeScores comes down to; it is stated here and proved in the text Pure. -/
import Derived.Test.YtkljnmojnkiafaaMFnExactMergeScoresx
namespace Go.Proofs.Ytkljnmojnkiafaa.MFnExactMergeScores
open Go Go.RowKit Go.Proofs.YtkljnmojnkiafaaW.PrintWords
def laws_FnExactMergeScores.Pure : Prop := ∀ (l0 : List S38) (l1 : List S38), l0.length ≤ maxLen → l0.length * 40 ≤ 140737488351232 → (∀ x ∈ l0, (Lit.int .i64 x.f0).wf = true ∧ (x.f1.size ≤ maxLen ∧ ((Lit.int .i64 x.f2).wf = true ∧ ((Lit.int .i64 x.f3).wf = true)))) → l1.length ≤ maxLen → l1.length * 40 ≤ 140737488351232 → (∀ x ∈ l1, (Lit.int .i64 x.f0).wf = true ∧ (x.f1.size ≤ maxLen ∧ ((Lit.int .i64 x.f2).wf = true ∧ ((Lit.int .i64 x.f3).wf = true)))) → ∃ k, laws_FnExactMergeScores.f k l0 l1 = some true
end Go.Proofs.Ytkljnmojnkiafaa.MFnExactMergeScores
