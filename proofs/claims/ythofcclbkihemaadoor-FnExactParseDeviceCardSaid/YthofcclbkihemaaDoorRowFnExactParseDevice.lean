/- The row of the law FnExactParseDevice: The program's ParseDevice returns what the reference's returns, for all arguments. It holds by the law's plain statement (text Pure) and by what the text M shows of each function. No condition beside the statement's own. -/
import Derived.Lib.LaidU8
import Derived.Test.YthofcclbkihemaaDoorTy
import Derived.Test.YthofcclbkihemaaDoorTx
import Derived.Stop.LaidErr
import Derived.Deep.DeepHandedRow
import Derived.Test.YthofcclbkihemaaDoorRows
import Derived.Test.YthofcclbkihemaaDoorOpVX
import Derived.Test.YthofcclbkihemaaDoorStFnExactParseDevice
import Derived.Test.YthofcclbkihemaaDoorPureFnExactParseDevice
namespace Go.Proofs.YthofcclbkihemaaDoor.fnExactParseDevice
open Go Go.ChangeShapes Go.WideShapes Go.ChangeAt Go.RowKit Go.Proofs.YthofcclbkihemaaDoor.Op Go.Proofs.YthofcclbkihemaaDoor.MFnExactParseDevice Go.Proofs.YthofcclbkihemaaDoorW.PrintWords
open Go.ChangeMaps (open_string shut_string)
set_option linter.unusedVariables false
set_option linter.unusedSimpArgs false
theorem own : ownKnob Tryd.prog.godebug = none := by kernel_rfl
theorem laidOut : laidOutB Tryd.prog = true := by kernel_rfl
/-- A listed datum as cells. -/
def cellsOfData : DataW Unit → List Value
  | .agg xs => xs.flatMap fun x => match x with
    | .lit (.int k n) => [Value.int k n]
    | .agg ys => ys.filterMap fun y => match y with
      | .lit (.int k n) => some (Value.int k n)
      | _ => none
    | _ => []
  | _ => []
def put (d : DataW Unit) : Obj → Obj
  | .cells _ t frozen => .cells (cellsOfData d).toArray t frozen
  | o => o
/-- The settled world, the tables that the row lists in it: the witness. -/
noncomputable def laidWorld (os : Os) : World := { World.holding Tryd.prog os ⟨#[], #[], []⟩ with heap := (((((((((((World.holding Tryd.prog os ⟨#[], #[], []⟩).heap).modify 1 (put Rows.laid_internal_strconv_uint64pow10))).modify 4 (put Rows.laid_math_bits_deBruijn32tab))).modify 5 (put Rows.laid_math_bits_deBruijn64tab))).modify 3 (put Rows.laid_unicode_utf8_acceptRanges))).modify 2 (put Rows.laid_unicode_utf8_first)) }
set_option maxRecDepth 1000000 in
theorem laid_met (os : Os) (args : Array Value) : laidMet Tryd.prog Rows.fnExactParseDeviceRow.laid ((laidWorld os).forCall (fun _ _ => 0) ⟨#[], args, []⟩).memory :=
  laidMet_of_run' 8 (by kernel_rfl) (by kernel_rfl)
set_option maxRecDepth 1000000 in
theorem witness_row (os : Os) {H : Type} (enc : TypeId × Value → H) :
    (OpenSpec.ofChange Rows.fnExactParseDeviceSpec).preRow enc Tryd.prog Tryd.f5 Rows.fnExactParseDeviceRow.domain false Rows.fnExactParseDeviceRow.laid ((laidWorld os).forCall (fun _ _ => 0) ⟨#[], #[.string ByteArray.empty], []⟩).memory #[.string ByteArray.empty] := by
  have hw : ((DataW.whole enc Tryd.prog ((laidWorld os).forCall (fun _ _ => 0) ⟨#[], #[.string ByteArray.empty], []⟩).memory Tryd.f5.params.toList (OpenSpec.ofChange Rows.fnExactParseDeviceSpec).vars false (#[.string ByteArray.empty] : Array Value).toList 8).map (fun _ => ())) = some () := by kernel_rfl
  obtain ⟨x, hx, _⟩ := Option.map_eq_some_iff.1 hw
  exact OpenSpec.preRow_of_cond 8 hx (by rfl) (fun k hk => by cases hk) (by kernel_rfl) (laid_met os _)
set_option maxRecDepth 100000 in
theorem lifted (os : Os) (started : os.Started) (H : Type) (enc : TypeId × Value → H) (F : Stop.Interp) :
    ReturnsInHanded {} Tryd.checked os 5 .any ((OpenSpec.ofChange Rows.fnExactParseDeviceSpec).preRow enc Tryd.prog Tryd.f5 Rows.fnExactParseDeviceRow.domain false Rows.fnExactParseDeviceRow.laid) (((OpenSpec.ofChange Rows.fnExactParseDeviceSpec).at F).post enc Tryd.prog Tryd.f5 false true false false) := by
  refine returnsInHanded_of_row (C := Tryd.checked) (s := OpenSpec.ofChange Rows.fnExactParseDeviceSpec) own started (by kernel_rfl) Tryd.func5
    (witness_row_at (enc := enc) (C := Tryd.checked) false (laidWorld os) #[.string ByteArray.empty] rfl (by kernel_rfl) (by kernel_rfl) (by kernel_rfl) (witness_row os enc)) ?_
  intro W base args ds gs before hval0 hW hcnd _ hsz0 hL hsh _
  have hL1 : laidMet Tryd.prog Rows.fnExactParseDeviceRow.laid W := hL
  have hT0 : Tx.TabP W := ⟨Lib.tabIs_of_head (g := 1) (t := 127) (e := 118) (n := 20) (by kernel_rfl) (by kernel_rfl) Tryd.underlying127 (by kernel_rfl) (by kernel_rfl) (by kernel_rfl) (show laidMet Tryd.prog (("internal/strconv.uint64pow10", Lib.tabData .u64 Lib.pow10Tab) :: _) W from hL1.tail.tail), Tx.Tryd.lCut.s1_3 W hsh⟩
  have e1 : Rows.laid_unicode_utf8_first = Lib.firstData := by kernel_rfl
  have e2 : (Rows.laid_unicode_utf8_acceptRanges : DataW Unit) = Lib.acceptData := by kernel_rfl
  have r1 : Lib.VarReads Tryd.prog W "unicode/utf8.first" Rows.laid_unicode_utf8_first := Lib.laidMet.reads hL1 (.tail _ (.tail _ (.tail _ (.tail _ (.head _)))))
  have r2 : Lib.VarReads Tryd.prog W "unicode/utf8.acceptRanges" Rows.laid_unicode_utf8_acceptRanges := Lib.laidMet.reads hL1 (.tail _ (.tail _ (.tail _ (.head _))))
  rw [e1] at r1
  rw [e2] at r2
  have hT : Ty.TabP W := ⟨hT0, utf8Tabs_of_reads (ρ := Ty.Tryd.lDecL_ren) { Ty.Tryd.lDecL with } ⟨by kernel_rfl, by kernel_rfl, by kernel_rfl, by kernel_rfl, by kernel_rfl, by kernel_rfl, by kernel_rfl⟩ r1 r2⟩
  have hsz : (DataW.weightsEach Tryd.prog (Tryd.f5.params.toList ++ Rows.fnExactParseDeviceSpec.plain.varTypes Tryd.prog) (ds ++ gs)).all (· ≤ reachBytes) = true := hsz0
  have hval : ∀ (j : Nat) t v, Tryd.f5.params[j]? = some t → args[j]? = some v → Value.okWide Tryd.prog W .any base t v := hval0
  have hW' := hW
  obtain ⟨p, q, hA0, hV, rfl, hfz, hnd⟩ := hW
  have hA : DataW.TrodAll enc Tryd.prog W 0 (fun _ => true) true Tryd.f5.params.toList args.toList ds p := hA0
  rw [Tryd.params5] at hA hval hsz
  obtain ⟨v0, vs0, d0, ds0, p0, q0, hargs, rfl, rfl, h0, r0⟩ := trodAll_cons hA
  obtain ⟨rfl, rfl, rfl⟩ := trodAll_nil r0
  obtain rfl : args = #[v0] := by cases args; simp_all
  obtain ⟨rfl, rfl⟩ := trodVars_none hV
  obtain ⟨a0, rfl, rfl, rfl, y0⟩ := open_string Tryd.underlying9 (hval 0 9 v0 rfl rfl) h0
  have w0 : a0.size ≤ 140737488351232 := by
    have z := sized_string hsz (j := 0) (t := 9) rfl rfl
    rw [Array.length_toList] at z
    exact z
  clear hA0 hval0 hsz0 hsz
  obtain ⟨k, hp⟩ := Pure.FnExactParseDevice a0 w0
  refine (laws_FnExactParseDevice.calls k a0 true W hp).mono ?_
  rintro e W' ⟨rfl, hd⟩
  have bel : Below W.heap.size W W' := hd
  exact ⟨_, rfl, _, _, _, [], _, [], hW', trodAll_mk1 (shut_bool Tryd.underlying4 _), (trodAll_cons_mk (shut_string Tryd.underlying9 y0) trodAll_mk0), rfl, bel.frame _, fun h => by cases h⟩
theorem over : Rows.fnExactParseDeviceRow.holds Tryd.pinned (OpenSpec.ofChange Rows.fnExactParseDeviceSpec) :=
  OpenClaim.holds_of_cond 5 Tryd.f5 rfl rfl rfl rfl rfl rfl rfl ⟨rfl, rfl, rfl, rfl, rfl⟩ rfl rfl rfl rfl rfl (by kernel_rfl) Tryd.func5 (by kernel_rfl)
    (of_decide_eq_true (by kernel_rfl)) (by unfold Func.isWrapper; first | (rw [if_pos (by decide +kernel)]; kernel_rfl) | (rw [if_neg (by decide +kernel)]; exact ⟨rfl, rfl⟩))
    (fun os started H enc _ F => by rw [OpenClaim.pre_eq_preRow]; exact lifted os started H enc F)
theorem proved : Rows.FnExactParseDeviceSaid := over
#print axioms proved
end Go.Proofs.YthofcclbkihemaaDoor.fnExactParseDevice
namespace Go.Proofs.YthofcclbkihemaaDoor
/-- The row, under a short name, for the claim. -/
theorem fnExactParseDevice_holds : Rows.FnExactParseDeviceSaid := fnExactParseDevice.proved
end Go.Proofs.YthofcclbkihemaaDoor
