/-
  No cell of these rows narrows 'for every input' (looked for: loops, veiled, ifaces, maps, wideKeys, modest, calm, conditions, laid).
  DERIVED. THE GIVEN ROWS OF THIS SEAT. 8 by the template 'for every input the law returns true; each argument reads behind the call as it read before'; 0 by the template 'total and deterministic' (their statements: YtkljnmojnkiafaaTotals.lean).
  GIVEN WITH THE SEED: the statements are not yours to turn. If you find one false, say at which input.
  Laid BY PROGRAM, IN A SANDBOX (cutbox-rows.mjs): the forced cells as the released guide's own fill.sh prints them over the translation b137a63265f8e99b… (all of the seat's roots in one cut). By AI agents, Wed Nov 11 2026. No macro, syntax, notation, axiom, sorry.
-/
import Derived.Test.YtkljnmojnkiafaaChecked
import GoSem.Claim
import GoSem.ClaimJoined
import GoSem.ClaimMapViews
import Derived.JoinedTies
import Derived.KernelRfl
namespace Go.Proofs.Ytkljnmojnkiafaa
/- THE CELL 'sum', in the pinned program and in every row, IS THE sha256 OF THE DUMP (.gsa) THAT YtkljnmojnkiafaaProg.lean LOADS. Nothing in Lean hashes anything: it is a label: what it is worth is what the hold of that sum in a sandbox is worth. -/
noncomputable def Try.pinned : Pinned := { name := "ytkljnmojnkiafaa", sum := "b137a63265f8e99b3dd8927e9669176238d4647c854ecf4686dcbcd480533804", checked := Try.checked }
namespace Rows
def none {H : Type} : Left H := { results := [], args := [] }

/-- 'laws.FnExactFrameAt': WHATEVER THE INPUT: true; the input reads as it did. -/
def fnExactFrameAtSpec : ChangeSpec := { name := "fnExactFrameAt", fn := fun _ => fun
  | [d1, d2, d3] => { results := [.lit (.bool true)], args := [d1, d2, d3] }
  | _ => none }
def fnExactFrameAtRow : OpenClaim := { program := "ytkljnmojnkiafaa", sum := "b137a63265f8e99b3dd8927e9669176238d4647c854ecf4686dcbcd480533804", func := "loop.example/g03017/laws.FnExactFrameAt", spec := "fnExactFrameAt", apart := false }
def FnExactFrameAtSaid : Prop := fnExactFrameAtRow.holds Try.pinned (OpenSpec.ofChange fnExactFrameAtSpec)

/-- ITS FALSE NEIGHBOUR: 'it returns false'. Refute it at one input. -/
def fnExactFrameAtWrong : ChangeSpec := { name := "fnExactFrameAt", fn := fun _ => fun
  | [d1, d2, d3] => { results := [.lit (.bool false)], args := [d1, d2, d3] }
  | _ => none }
def FnExactFrameAtWrongFalsely : Prop := fnExactFrameAtRow.holds Try.pinned (OpenSpec.ofChange fnExactFrameAtWrong)

/-- 'laws.FnExactAddCue': WHATEVER THE INPUT: true; the input reads as it did. -/
def fnExactAddCueSpec : ChangeSpec := { name := "fnExactAddCue", fn := fun _ => fun
  | [d1, d2] => { results := [.lit (.bool true)], args := [d1, d2] }
  | _ => none }
def fnExactAddCueRow : OpenClaim := { program := "ytkljnmojnkiafaa", sum := "b137a63265f8e99b3dd8927e9669176238d4647c854ecf4686dcbcd480533804", func := "loop.example/g03017/laws.FnExactAddCue", spec := "fnExactAddCue", inPlace := ["slices.overlaps[loop.example/g03017/impl.Cue]"], unfollowed := true, recurses := true, apart := false }
def FnExactAddCueSaid : Prop := fnExactAddCueRow.holds Try.pinned (OpenSpec.ofChange fnExactAddCueSpec)

/-- ITS FALSE NEIGHBOUR: 'it returns false'. Refute it at one input. -/
def fnExactAddCueWrong : ChangeSpec := { name := "fnExactAddCue", fn := fun _ => fun
  | [d1, d2] => { results := [.lit (.bool false)], args := [d1, d2] }
  | _ => none }
def FnExactAddCueWrongFalsely : Prop := fnExactAddCueRow.holds Try.pinned (OpenSpec.ofChange fnExactAddCueWrong)

/-- 'laws.FnCues': WHATEVER THE INPUT: true; the input reads as it did. -/
def fnCuesSpec : ChangeSpec := { name := "fnCues", fn := fun _ => fun
  | [d] => { results := [.lit (.bool true)], args := [d] }
  | _ => none }
def fnCuesRow : OpenClaim := { program := "ytkljnmojnkiafaa", sum := "b137a63265f8e99b3dd8927e9669176238d4647c854ecf4686dcbcd480533804", func := "loop.example/g03017/laws.FnCues", spec := "fnCues", inPlace := ["slices.overlaps[loop.example/g03017/impl.Cue]"], unfollowed := true, recurses := true, apart := false }
def FnCuesSaid : Prop := fnCuesRow.holds Try.pinned (OpenSpec.ofChange fnCuesSpec)

/-- ITS FALSE NEIGHBOUR: 'it returns false'. Refute it at one input. -/
def fnCuesWrong : ChangeSpec := { name := "fnCues", fn := fun _ => fun
  | [d] => { results := [.lit (.bool false)], args := [d] }
  | _ => none }
def FnCuesWrongFalsely : Prop := fnCuesRow.holds Try.pinned (OpenSpec.ofChange fnCuesWrong)

/-- 'laws.FnExactMergeScores': WHATEVER THE INPUT: true; the input reads as it did. -/
def fnExactMergeScoresSpec : ChangeSpec := { name := "fnExactMergeScores", fn := fun _ => fun
  | [d1, d2] => { results := [.lit (.bool true)], args := [d1, d2] }
  | _ => none }
def fnExactMergeScoresRow : OpenClaim := { program := "ytkljnmojnkiafaa", sum := "b137a63265f8e99b3dd8927e9669176238d4647c854ecf4686dcbcd480533804", func := "loop.example/g03017/laws.FnExactMergeScores", spec := "fnExactMergeScores", unfollowed := true, recurses := true, apart := false }
def FnExactMergeScoresSaid : Prop := fnExactMergeScoresRow.holds Try.pinned (OpenSpec.ofChange fnExactMergeScoresSpec)

/-- ITS FALSE NEIGHBOUR: 'it returns false'. Refute it at one input. -/
def fnExactMergeScoresWrong : ChangeSpec := { name := "fnExactMergeScores", fn := fun _ => fun
  | [d1, d2] => { results := [.lit (.bool false)], args := [d1, d2] }
  | _ => none }
def FnExactMergeScoresWrongFalsely : Prop := fnExactMergeScoresRow.holds Try.pinned (OpenSpec.ofChange fnExactMergeScoresWrong)

/-- 'laws.FnMerged': WHATEVER THE INPUT: true; the input reads as it did. -/
def fnMergedSpec : ChangeSpec := { name := "fnMerged", fn := fun _ => fun
  | [d] => { results := [.lit (.bool true)], args := [d] }
  | _ => none }
def fnMergedRow : OpenClaim := { program := "ytkljnmojnkiafaa", sum := "b137a63265f8e99b3dd8927e9669176238d4647c854ecf4686dcbcd480533804", func := "loop.example/g03017/laws.FnMerged", spec := "fnMerged", unfollowed := true, recurses := true, apart := false }
def FnMergedSaid : Prop := fnMergedRow.holds Try.pinned (OpenSpec.ofChange fnMergedSpec)

/-- ITS FALSE NEIGHBOUR: 'it returns false'. Refute it at one input. -/
def fnMergedWrong : ChangeSpec := { name := "fnMerged", fn := fun _ => fun
  | [d] => { results := [.lit (.bool false)], args := [d] }
  | _ => none }
def FnMergedWrongFalsely : Prop := fnMergedRow.holds Try.pinned (OpenSpec.ofChange fnMergedWrong)

/-- 'laws.FnRoseSums': WHATEVER THE INPUT: true; the input reads as it did. -/
def fnRoseSumsSpec : ChangeSpec := { name := "fnRoseSums", fn := fun _ => fun
  | [d] => { results := [.lit (.bool true)], args := [d] }
  | _ => none }
def fnRoseSumsRow : OpenClaim := { program := "ytkljnmojnkiafaa", sum := "b137a63265f8e99b3dd8927e9669176238d4647c854ecf4686dcbcd480533804", func := "loop.example/g03017/laws.FnRoseSums", spec := "fnRoseSums", apart := false }
def FnRoseSumsSaid : Prop := fnRoseSumsRow.holds Try.pinned (OpenSpec.ofChange fnRoseSumsSpec)

/-- ITS FALSE NEIGHBOUR: 'it returns false'. Refute it at one input. -/
def fnRoseSumsWrong : ChangeSpec := { name := "fnRoseSums", fn := fun _ => fun
  | [d] => { results := [.lit (.bool false)], args := [d] }
  | _ => none }
def FnRoseSumsWrongFalsely : Prop := fnRoseSumsRow.holds Try.pinned (OpenSpec.ofChange fnRoseSumsWrong)

/-- 'laws.FnRoseSides': WHATEVER THE INPUT: true; the input reads as it did. -/
def fnRoseSidesSpec : ChangeSpec := { name := "fnRoseSides", fn := fun _ => fun
  | [d] => { results := [.lit (.bool true)], args := [d] }
  | _ => none }
def fnRoseSidesRow : OpenClaim := { program := "ytkljnmojnkiafaa", sum := "b137a63265f8e99b3dd8927e9669176238d4647c854ecf4686dcbcd480533804", func := "loop.example/g03017/laws.FnRoseSides", spec := "fnRoseSides", apart := false }
def FnRoseSidesSaid : Prop := fnRoseSidesRow.holds Try.pinned (OpenSpec.ofChange fnRoseSidesSpec)

/-- ITS FALSE NEIGHBOUR: 'it returns false'. Refute it at one input. -/
def fnRoseSidesWrong : ChangeSpec := { name := "fnRoseSides", fn := fun _ => fun
  | [d] => { results := [.lit (.bool false)], args := [d] }
  | _ => none }
def FnRoseSidesWrongFalsely : Prop := fnRoseSidesRow.holds Try.pinned (OpenSpec.ofChange fnRoseSidesWrong)

/-- 'laws.FnMovedRig': WHATEVER THE INPUT: true; the input reads as it did. -/
def fnMovedRigSpec : ChangeSpec := { name := "fnMovedRig", fn := fun _ => fun
  | [d] => { results := [.lit (.bool true)], args := [d] }
  | _ => none }
def fnMovedRigRow : OpenClaim := { program := "ytkljnmojnkiafaa", sum := "b137a63265f8e99b3dd8927e9669176238d4647c854ecf4686dcbcd480533804", func := "loop.example/g03017/laws.FnMovedRig", spec := "fnMovedRig", unfollowed := true, recurses := true, apart := false }
def FnMovedRigSaid : Prop := fnMovedRigRow.holds Try.pinned (OpenSpec.ofChange fnMovedRigSpec)

/-- ITS FALSE NEIGHBOUR: 'it returns false'. Refute it at one input. -/
def fnMovedRigWrong : ChangeSpec := { name := "fnMovedRig", fn := fun _ => fun
  | [d] => { results := [.lit (.bool false)], args := [d] }
  | _ => none }
def FnMovedRigWrongFalsely : Prop := fnMovedRigRow.holds Try.pinned (OpenSpec.ofChange fnMovedRigWrong)

/- THE SECOND FORM. 'bulk': how many values and letters a reading holds, each counted each time it is reached (what is shared counts as often as it is met; a slice's spare places count too). A statement '..UptoSaid' is the law's where the arguments, and the package variables that the reading takes, are together of bulk at most 1048576: NARROWER than '..Said'. Prove '..Said' where nothing that the law and all that it calls make is longer than what came in: it says more and counts as full. Else prove '..UptoSaid'. A law counts once. -/
mutual
def uptoBulk {H : Type} : DataW H → Nat
  | .lit (.string bytes) => bytes.length + 1
  | .lit _ => 1
  | .nil => 1
  | .ptr d => uptoBulk d + 1
  | .slice elems spare => uptoBulkAll elems + uptoBulkAll spare + 1
  | .agg parts => uptoBulkAll parts + 1
  | .iface _ d => uptoBulk d + 1
  | .map entries => uptoBulkEntries entries + 1
  | .held _ => 1
def uptoBulkAll {H : Type} : List (DataW H) → Nat
  | [] => 0
  | d :: r => uptoBulk d + uptoBulkAll r
def uptoBulkEntries {H : Type} : List (Lit × DataW H) → Nat
  | [] => 0
  | x :: r => uptoBulkEntry x + uptoBulkEntries r
def uptoBulkEntry {H : Type} : Lit × DataW H → Nat
  | (.string bytes, d) => bytes.length + uptoBulk d + 1
  | (_, d) => uptoBulk d + 1
 end
def uptoSmall : (H : Type) → List (DataW H) → Bool := fun _ ds => decide (uptoBulkAll ds ≤ 1048576)
def OpenSpec.upto (s : _root_.Go.ChangeSpec) : _root_.Go.OpenSpec := { _root_.Go.OpenSpec.ofChange s with cond := some uptoSmall }

/-- 'laws.FnExactFrameAt', WHERE WHAT IT READS IS OF BULK AT MOST 1048576: true; the input reads as it did. -/
def fnExactFrameAtUptoRow : OpenClaim := { program := "ytkljnmojnkiafaa", sum := "b137a63265f8e99b3dd8927e9669176238d4647c854ecf4686dcbcd480533804", func := "loop.example/g03017/laws.FnExactFrameAt", spec := "fnExactFrameAt", apart := false, narrowed := true }
def FnExactFrameAtUptoSaid : Prop := fnExactFrameAtUptoRow.holds Try.pinned (OpenSpec.upto fnExactFrameAtSpec)

/-- 'laws.FnExactAddCue', WHERE WHAT IT READS IS OF BULK AT MOST 1048576: true; the input reads as it did. -/
def fnExactAddCueUptoRow : OpenClaim := { program := "ytkljnmojnkiafaa", sum := "b137a63265f8e99b3dd8927e9669176238d4647c854ecf4686dcbcd480533804", func := "loop.example/g03017/laws.FnExactAddCue", spec := "fnExactAddCue", inPlace := ["slices.overlaps[loop.example/g03017/impl.Cue]"], unfollowed := true, recurses := true, apart := false, narrowed := true }
def FnExactAddCueUptoSaid : Prop := fnExactAddCueUptoRow.holds Try.pinned (OpenSpec.upto fnExactAddCueSpec)

/-- 'laws.FnCues', WHERE WHAT IT READS IS OF BULK AT MOST 1048576: true; the input reads as it did. -/
def fnCuesUptoRow : OpenClaim := { program := "ytkljnmojnkiafaa", sum := "b137a63265f8e99b3dd8927e9669176238d4647c854ecf4686dcbcd480533804", func := "loop.example/g03017/laws.FnCues", spec := "fnCues", inPlace := ["slices.overlaps[loop.example/g03017/impl.Cue]"], unfollowed := true, recurses := true, apart := false, narrowed := true }
def FnCuesUptoSaid : Prop := fnCuesUptoRow.holds Try.pinned (OpenSpec.upto fnCuesSpec)

/-- 'laws.FnExactMergeScores', WHERE WHAT IT READS IS OF BULK AT MOST 1048576: true; the input reads as it did. -/
def fnExactMergeScoresUptoRow : OpenClaim := { program := "ytkljnmojnkiafaa", sum := "b137a63265f8e99b3dd8927e9669176238d4647c854ecf4686dcbcd480533804", func := "loop.example/g03017/laws.FnExactMergeScores", spec := "fnExactMergeScores", unfollowed := true, recurses := true, apart := false, narrowed := true }
def FnExactMergeScoresUptoSaid : Prop := fnExactMergeScoresUptoRow.holds Try.pinned (OpenSpec.upto fnExactMergeScoresSpec)

/-- 'laws.FnMerged', WHERE WHAT IT READS IS OF BULK AT MOST 1048576: true; the input reads as it did. -/
def fnMergedUptoRow : OpenClaim := { program := "ytkljnmojnkiafaa", sum := "b137a63265f8e99b3dd8927e9669176238d4647c854ecf4686dcbcd480533804", func := "loop.example/g03017/laws.FnMerged", spec := "fnMerged", unfollowed := true, recurses := true, apart := false, narrowed := true }
def FnMergedUptoSaid : Prop := fnMergedUptoRow.holds Try.pinned (OpenSpec.upto fnMergedSpec)

/-- 'laws.FnRoseSums', WHERE WHAT IT READS IS OF BULK AT MOST 1048576: true; the input reads as it did. -/
def fnRoseSumsUptoRow : OpenClaim := { program := "ytkljnmojnkiafaa", sum := "b137a63265f8e99b3dd8927e9669176238d4647c854ecf4686dcbcd480533804", func := "loop.example/g03017/laws.FnRoseSums", spec := "fnRoseSums", apart := false, narrowed := true }
def FnRoseSumsUptoSaid : Prop := fnRoseSumsUptoRow.holds Try.pinned (OpenSpec.upto fnRoseSumsSpec)

/-- 'laws.FnRoseSides', WHERE WHAT IT READS IS OF BULK AT MOST 1048576: true; the input reads as it did. -/
def fnRoseSidesUptoRow : OpenClaim := { program := "ytkljnmojnkiafaa", sum := "b137a63265f8e99b3dd8927e9669176238d4647c854ecf4686dcbcd480533804", func := "loop.example/g03017/laws.FnRoseSides", spec := "fnRoseSides", apart := false, narrowed := true }
def FnRoseSidesUptoSaid : Prop := fnRoseSidesUptoRow.holds Try.pinned (OpenSpec.upto fnRoseSidesSpec)

/-- 'laws.FnMovedRig', WHERE WHAT IT READS IS OF BULK AT MOST 1048576: true; the input reads as it did. -/
def fnMovedRigUptoRow : OpenClaim := { program := "ytkljnmojnkiafaa", sum := "b137a63265f8e99b3dd8927e9669176238d4647c854ecf4686dcbcd480533804", func := "loop.example/g03017/laws.FnMovedRig", spec := "fnMovedRig", unfollowed := true, recurses := true, apart := false, narrowed := true }
def FnMovedRigUptoSaid : Prop := fnMovedRigUptoRow.holds Try.pinned (OpenSpec.upto fnMovedRigSpec)

end Rows
end Go.Proofs.Ytkljnmojnkiafaa
