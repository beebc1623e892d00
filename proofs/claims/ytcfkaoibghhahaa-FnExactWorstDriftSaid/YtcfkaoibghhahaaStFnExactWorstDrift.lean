/- The one statement over numbers, texts and lists that the law FnExactWorstDrift comes down to; it is stated here and proved in the text Pure. -/
import Derived.Test.YtcfkaoibghhahaaMFnExactWorstDriftx
namespace Go.Proofs.Ytcfkaoibghhahaa.MFnExactWorstDrift
open Go Go.RowKit Go.Proofs.YtcfkaoibghhahaaW.PrintWords
def laws_FnExactWorstDrift.Pure : Prop := ∀ (l0 : List S71) (a1 : Int), l0.length ≤ maxLen → l0.length * 16 ≤ 140737488351232 → (∀ x ∈ l0, (Lit.int .i64 x.f0).wf = true ∧ ((Lit.int .i64 x.f1).wf = true)) → (Lit.int .i64 a1).wf = true → ∃ k, laws_FnExactWorstDrift.f k l0 a1 = some true
end Go.Proofs.Ytcfkaoibghhahaa.MFnExactWorstDrift
