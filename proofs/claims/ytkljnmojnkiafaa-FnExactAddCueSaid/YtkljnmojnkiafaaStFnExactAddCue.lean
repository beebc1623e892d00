/- The one statement over numbers, texts and lists that the law FnExactAddCue comes down to; it is stated here and proved in the text Pure. -/
import Derived.Test.YtkljnmojnkiafaaMFnExactAddCuex
namespace Go.Proofs.Ytkljnmojnkiafaa.MFnExactAddCue
open Go Go.RowKit Go.Proofs.YtkljnmojnkiafaaW.PrintWords
def laws_FnExactAddCue.Pure : Prop := ∀ (l0 : List S38) (a1_0 : Int) (a1_1 : ByteArray) (a1_2 : Int) (a1_3 : Int), l0.length ≤ maxLen → l0.length * 40 ≤ 140737488351232 → (∀ x ∈ l0, (Lit.int .i64 x.f0).wf = true ∧ (x.f1.size ≤ maxLen ∧ ((Lit.int .i64 x.f2).wf = true ∧ ((Lit.int .i64 x.f3).wf = true)))) → (Lit.int .i64 a1_0).wf = true → a1_1.size ≤ maxLen → (Lit.int .i64 a1_2).wf = true → (Lit.int .i64 a1_3).wf = true → ∃ k, laws_FnExactAddCue.f k l0 a1_0 a1_1 a1_2 a1_3 = some true
end Go.Proofs.Ytkljnmojnkiafaa.MFnExactAddCue
