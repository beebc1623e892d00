/- The row of the law FnExactFormatCue: The program's FormatCue returns what the reference's returns, for all arguments. It holds by the law's plain statement (text Pure) and by what the text M shows of each function. No condition beside the statement's own. -/
import Derived.Test.YthofcclbkihemaaDoorTx
import Derived.Stop.LaidErr
import Derived.Deep.DeepHandedRow
import Derived.Test.YthofcclbkihemaaDoorRows
import Derived.Test.YthofcclbkihemaaDoorOp
import Derived.Test.YthofcclbkihemaaDoorStFnExactFormatCue
import Derived.Test.YthofcclbkihemaaDoorPureFnExactFormatCue
namespace Go.Proofs.YthofcclbkihemaaDoor.fnExactFormatCue
open Go Go.ChangeShapes Go.WideShapes Go.ChangeAt Go.RowKit Go.Proofs.YthofcclbkihemaaDoor.Op Go.Proofs.YthofcclbkihemaaDoor.MFnExactFormatCue Go.Proofs.YthofcclbkihemaaDoorW.PrintWords
open Go.ChangeMaps (open_string shut_string)
set_option linter.unusedVariables false
set_option linter.unusedSimpArgs false
theorem own : ownKnob Tryd.prog.godebug = none := by kernel_rfl
theorem laidOut : laidOutB Tryd.prog = true := by kernel_rfl
structure S46 where
  f0 : Int
  f1 : ByteArray
  f2 : Int
  f3 : Int
def k46 : Kd S46 := Kd.iso (Kd.pair (Kd.int .i64) (Kd.pair Kd.string (Kd.pair (Kd.int .i64) (Kd.int .i64)))) (fun x : S46 => (x.f0, x.f1, x.f2, x.f3))
theorem k46_open {w : World} {x : S46} {cs : List Value} (h : k46.K w x cs) : cs = [.int .i64 x.f0, .string x.f1, .int .i64 x.f2, .int .i64 x.f3] := by
  obtain ⟨_, _, rfl, rfl, ⟨_, _, rfl, rfl, ⟨_, _, rfl, rfl, rfl⟩⟩⟩ := h
  exact rfl
theorem op46 : Opens Tryd.prog 46 k46 (fun x => (Lit.int .i64 x.f0).wf = true ∧ (x.f1.size ≤ maxLen ∧ ((Lit.int .i64 x.f2).wf = true ∧ ((Lit.int .i64 x.f3).wf = true)))) := by
  refine opens_iso (d := (Kd.pair (Kd.int .i64) (Kd.pair Kd.string (Kd.pair (Kd.int .i64) (Kd.int .i64))))) (Q := fun x => (Lit.int .i64 x.1).wf = true ∧ (x.2.1.size ≤ maxLen ∧ ((Lit.int .i64 x.2.2.1).wf = true ∧ ((Lit.int .i64 x.2.2.2).wf = true)))) (fun x : S46 => (x.f0, x.f1, x.f2, x.f3)) (fun y => ⟨y.1, y.2.1, y.2.2.1, y.2.2.2⟩) (fun _ => rfl) ?_
  refine opens_struct Tryd.underlying46 (by kernel_rfl) ?_
  refine opensFs_cons (Qa := fun x : Int => (Lit.int .i64 x).wf = true) (Qb := fun x : ByteArray × Int × Int => x.1.size ≤ maxLen ∧ ((Lit.int .i64 x.2.1).wf = true ∧ ((Lit.int .i64 x.2.2).wf = true))) (opens_int Tryd.underlying3 (by kernel_rfl)) rfl ?_
  refine opensFs_cons (Qa := fun x : ByteArray => x.size ≤ maxLen) (Qb := fun x : Int × Int => (Lit.int .i64 x.1).wf = true ∧ ((Lit.int .i64 x.2).wf = true)) (opens_string Tryd.underlying9 (by kernel_rfl)) rfl ?_
  refine opensFs_cons (Qa := fun x : Int => (Lit.int .i64 x).wf = true) (Qb := fun x : Int => (Lit.int .i64 x).wf = true) (opens_int Tryd.underlying3 (by kernel_rfl)) rfl ?_
  exact opensFs_last (Q := fun x : Int => (Lit.int .i64 x).wf = true) (opens_int Tryd.underlying3 (by kernel_rfl)) rfl
/-- A listed datum as cells. -/
def cellsOfData : DataW Unit → List Value
  | .agg xs => xs.flatMap fun x => match x with
    | .lit (.int k n) => [Value.int k n]
    | .agg ys => ys.filterMap fun y => match y with
      | .lit (.int k n) => some (Value.int k n)
      | _ => none
    | _ => []
  | _ => []
def put (d : DataW Unit) : Obj → Obj
  | .cells _ t frozen => .cells (cellsOfData d).toArray t frozen
  | o => o
/-- The settled world, the tables that the row lists in it: the witness. -/
noncomputable def laidWorld (os : Os) : World := { World.holding Tryd.prog os ⟨#[], #[], []⟩ with heap := (((((((((((World.holding Tryd.prog os ⟨#[], #[], []⟩).heap).modify 1 (put Rows.laid_internal_strconv_uint64pow10))).modify 4 (put Rows.laid_math_bits_deBruijn32tab))).modify 5 (put Rows.laid_math_bits_deBruijn64tab))).modify 3 (put Rows.laid_unicode_utf8_acceptRanges))).modify 2 (put Rows.laid_unicode_utf8_first)) }
set_option maxRecDepth 1000000 in
theorem laid_met (os : Os) (args : Array Value) : laidMet Tryd.prog Rows.fnExactFormatCueRow.laid ((laidWorld os).forCall (fun _ _ => 0) ⟨#[], args, []⟩).memory :=
  laidMet_of_run' 8 (by kernel_rfl) (by kernel_rfl)
set_option maxRecDepth 1000000 in
theorem witness_row (os : Os) {H : Type} (enc : TypeId × Value → H) :
    (OpenSpec.ofChange Rows.fnExactFormatCueSpec).preRow enc Tryd.prog Tryd.f6 Rows.fnExactFormatCueRow.domain false Rows.fnExactFormatCueRow.laid ((laidWorld os).forCall (fun _ _ => 0) ⟨#[], #[.agg #[.int .i64 0, .string ByteArray.empty, .int .i64 0, .int .i64 0]], []⟩).memory #[.agg #[.int .i64 0, .string ByteArray.empty, .int .i64 0, .int .i64 0]] := by
  have hw : ((DataW.whole enc Tryd.prog ((laidWorld os).forCall (fun _ _ => 0) ⟨#[], #[.agg #[.int .i64 0, .string ByteArray.empty, .int .i64 0, .int .i64 0]], []⟩).memory Tryd.f6.params.toList (OpenSpec.ofChange Rows.fnExactFormatCueSpec).vars false (#[.agg #[.int .i64 0, .string ByteArray.empty, .int .i64 0, .int .i64 0]] : Array Value).toList 8).map (fun _ => ())) = some () := by kernel_rfl
  obtain ⟨x, hx, _⟩ := Option.map_eq_some_iff.1 hw
  exact OpenSpec.preRow_of_cond 8 hx (by rfl) (fun k hk => by cases hk) (by kernel_rfl) (laid_met os _)
set_option maxRecDepth 100000 in
theorem lifted (os : Os) (started : os.Started) (H : Type) (enc : TypeId × Value → H) (F : Stop.Interp) :
    ReturnsInHanded {} Tryd.checked os 6 .any ((OpenSpec.ofChange Rows.fnExactFormatCueSpec).preRow enc Tryd.prog Tryd.f6 Rows.fnExactFormatCueRow.domain false Rows.fnExactFormatCueRow.laid) (((OpenSpec.ofChange Rows.fnExactFormatCueSpec).at F).post enc Tryd.prog Tryd.f6 false true false false) := by
  refine returnsInHanded_of_row (C := Tryd.checked) (s := OpenSpec.ofChange Rows.fnExactFormatCueSpec) own started (by kernel_rfl) Tryd.func6
    (witness_row_at (enc := enc) (C := Tryd.checked) false (laidWorld os) #[.agg #[.int .i64 0, .string ByteArray.empty, .int .i64 0, .int .i64 0]] rfl (by kernel_rfl) (by kernel_rfl) (by kernel_rfl) (witness_row os enc)) ?_
  intro W base args ds gs before hval0 hW hcnd _ hsz0 hL hsh _
  have hL1 : laidMet Tryd.prog Rows.fnExactFormatCueRow.laid W := hL
  have hT : Tx.TabP W := ⟨Lib.tabIs_of_head (g := 1) (t := 127) (e := 118) (n := 20) (by kernel_rfl) (by kernel_rfl) Tryd.underlying127 (by kernel_rfl) (by kernel_rfl) (by kernel_rfl) (show laidMet Tryd.prog (("internal/strconv.uint64pow10", Lib.tabData .u64 Lib.pow10Tab) :: _) W from hL1.tail.tail), Tx.Tryd.lCut.s1_3 W hsh⟩
  have hsz : (DataW.weightsEach Tryd.prog (Tryd.f6.params.toList ++ Rows.fnExactFormatCueSpec.plain.varTypes Tryd.prog) (ds ++ gs)).all (· ≤ reachBytes) = true := hsz0
  have hval : ∀ (j : Nat) t v, Tryd.f6.params[j]? = some t → args[j]? = some v → Value.okWide Tryd.prog W .any base t v := hval0
  have hW' := hW
  obtain ⟨p, q, hA0, hV, rfl, hfz, hnd⟩ := hW
  have hA : DataW.TrodAll enc Tryd.prog W 0 (fun _ => true) true Tryd.f6.params.toList args.toList ds p := hA0
  rw [Tryd.params6] at hA hval hsz
  obtain ⟨v0, vs0, d0, ds0, p0, q0, hargs, rfl, rfl, h0, r0⟩ := trodAll_cons hA
  obtain ⟨rfl, rfl, rfl⟩ := trodAll_nil r0
  obtain rfl : args = #[v0] := by cases args; simp_all
  obtain ⟨rfl, rfl⟩ := trodVars_none hV
  have k0 := h0
  have lt0 : ∀ x ∈ p0, x.block < W.heap.size := by obtain ⟨m, hm⟩ := k0; exact DataW.trod_lt m _ _ _ hm
  obtain ⟨x0, cs0, rfl, hk0, hq0⟩ := opens_agg Tryd.underlying46 op46 (hval 0 46 v0 rfl rfl) h0
  obtain rfl := k46_open hk0
  clear hA0 hval0 hsz0 hsz
  obtain ⟨k, hp⟩ := Pure.FnExactFormatCue x0.f0 x0.f1 x0.f2 x0.f3 hq0.1 hq0.2.1 hq0.2.2.1 hq0.2.2.2
  refine (laws_FnExactFormatCue.calls k x0.f0 x0.f1 x0.f2 x0.f3 true W hp).mono ?_
  rintro e W' ⟨rfl, hd⟩
  have bel : Below W.heap.size W W' := hd
  exact ⟨_, rfl, _, _, _, [], _, [], hW', trodAll_mk1 (shut_bool Tryd.underlying4 _), (trodAll_cons_mk (Below.trod laidOut (by kernel_rfl) (of_decide_eq_true (by kernel_rfl)) k0 bel lt0) trodAll_mk0), rfl, bel.frame _, fun h => by cases h⟩
theorem over : Rows.fnExactFormatCueRow.holds Tryd.pinned (OpenSpec.ofChange Rows.fnExactFormatCueSpec) :=
  OpenClaim.holds_of_cond 6 Tryd.f6 rfl rfl rfl rfl rfl rfl rfl ⟨rfl, rfl, rfl, rfl, rfl⟩ rfl rfl rfl rfl rfl (by kernel_rfl) Tryd.func6 (by kernel_rfl)
    (of_decide_eq_true (by kernel_rfl)) (by unfold Func.isWrapper; first | (rw [if_pos (by decide +kernel)]; kernel_rfl) | (rw [if_neg (by decide +kernel)]; exact ⟨rfl, rfl⟩))
    (fun os started H enc _ F => by rw [OpenClaim.pre_eq_preRow]; exact lifted os started H enc F)
theorem proved : Rows.FnExactFormatCueSaid := over
#print axioms proved
end Go.Proofs.YthofcclbkihemaaDoor.fnExactFormatCue
namespace Go.Proofs.YthofcclbkihemaaDoor
/-- The row, under a short name, for the claim. -/
theorem fnExactFormatCue_holds : Rows.FnExactFormatCueSaid := fnExactFormatCue.proved
end Go.Proofs.YthofcclbkihemaaDoor
