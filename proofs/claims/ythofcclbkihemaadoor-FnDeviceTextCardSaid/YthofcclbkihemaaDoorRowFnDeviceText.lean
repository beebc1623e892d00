/- The row of the law FnDeviceText: devices are read from what is written, and only valid ones are written. (P6) It holds by the law's plain statement (text Pure) and by what the text M shows of each function. No condition beside the statement's own. -/
import Derived.Lib.LaidU8
import Derived.Test.YthofcclbkihemaaDoorTy
import Derived.Test.YthofcclbkihemaaDoorTx
import Derived.Stop.LaidErr
import Derived.Deep.DeepHandedRow
import Derived.Test.YthofcclbkihemaaDoorRows
import Derived.Test.YthofcclbkihemaaDoorOpVU
import Derived.Test.YthofcclbkihemaaDoorStFnDeviceText
import Derived.Test.YthofcclbkihemaaDoorPureFnDeviceText
namespace Go.Proofs.YthofcclbkihemaaDoor.fnDeviceText
open Go Go.ChangeShapes Go.WideShapes Go.ChangeAt Go.RowKit Go.Proofs.YthofcclbkihemaaDoor.Op Go.Proofs.YthofcclbkihemaaDoor.MFnDeviceText Go.Proofs.YthofcclbkihemaaDoorW.PrintWords
open Go.ChangeMaps (open_string shut_string)
set_option linter.unusedVariables false
set_option linter.unusedSimpArgs false
theorem own : ownKnob Tryd.prog.godebug = none := by kernel_rfl
theorem laidOut : laidOutB Tryd.prog = true := by kernel_rfl
/-- A listed datum as cells. -/
def cellsOfData : DataW Unit → List Value
  | .agg xs => xs.flatMap fun x => match x with
    | .lit (.int k n) => [Value.int k n]
    | .agg ys => ys.filterMap fun y => match y with
      | .lit (.int k n) => some (Value.int k n)
      | _ => none
    | _ => []
  | _ => []
def put (d : DataW Unit) : Obj → Obj
  | .cells _ t frozen => .cells (cellsOfData d).toArray t frozen
  | o => o
/-- The settled world, the tables that the row lists in it: the witness. -/
noncomputable def laidWorld (os : Os) : World := { World.holding Tryd.prog os ⟨#[], #[], []⟩ with heap := (((((((((((World.holding Tryd.prog os ⟨#[], #[], []⟩).heap).modify 1 (put Rows.laid_internal_strconv_uint64pow10))).modify 4 (put Rows.laid_math_bits_deBruijn32tab))).modify 5 (put Rows.laid_math_bits_deBruijn64tab))).modify 3 (put Rows.laid_unicode_utf8_acceptRanges))).modify 2 (put Rows.laid_unicode_utf8_first)) }
set_option maxRecDepth 1000000 in
theorem laid_met (os : Os) (args : Array Value) : laidMet Tryd.prog Rows.fnDeviceTextRow.laid ((laidWorld os).forCall (fun _ _ => 0) ⟨#[], args, []⟩).memory :=
  laidMet_of_run' 8 (by kernel_rfl) (by kernel_rfl)
set_option maxRecDepth 1000000 in
theorem witness_row (os : Os) {H : Type} (enc : TypeId × Value → H) :
    (OpenSpec.ofChange Rows.fnDeviceTextSpec).preRow enc Tryd.prog Tryd.f4 Rows.fnDeviceTextRow.domain false Rows.fnDeviceTextRow.laid ((laidWorld os).forCall (fun _ _ => 0) ⟨#[], #[.slice none 0 0], []⟩).memory #[.slice none 0 0] := by
  have hw : ((DataW.whole enc Tryd.prog ((laidWorld os).forCall (fun _ _ => 0) ⟨#[], #[.slice none 0 0], []⟩).memory Tryd.f4.params.toList (OpenSpec.ofChange Rows.fnDeviceTextSpec).vars false (#[.slice none 0 0] : Array Value).toList 8).map (fun _ => ())) = some () := by kernel_rfl
  obtain ⟨x, hx, _⟩ := Option.map_eq_some_iff.1 hw
  exact OpenSpec.preRow_of_cond 8 hx (by rfl) (fun k hk => by cases hk) (by kernel_rfl) (laid_met os _)
set_option maxRecDepth 100000 in
theorem lifted (os : Os) (started : os.Started) (H : Type) (enc : TypeId × Value → H) (F : Stop.Interp) :
    ReturnsInHanded {} Tryd.checked os 4 .any ((OpenSpec.ofChange Rows.fnDeviceTextSpec).preRow enc Tryd.prog Tryd.f4 Rows.fnDeviceTextRow.domain false Rows.fnDeviceTextRow.laid) (((OpenSpec.ofChange Rows.fnDeviceTextSpec).at F).post enc Tryd.prog Tryd.f4 false true false false) := by
  refine returnsInHanded_of_row (C := Tryd.checked) (s := OpenSpec.ofChange Rows.fnDeviceTextSpec) own started (by kernel_rfl) Tryd.func4
    (witness_row_at (enc := enc) (C := Tryd.checked) false (laidWorld os) #[.slice none 0 0] rfl (by kernel_rfl) (by kernel_rfl) (by kernel_rfl) (witness_row os enc)) ?_
  intro W base args ds gs before hval0 hW hcnd _ hsz0 hL hsh _
  have hL1 : laidMet Tryd.prog Rows.fnDeviceTextRow.laid W := hL
  have hT0 : Tx.TabP W := ⟨Lib.tabIs_of_head (g := 1) (t := 127) (e := 118) (n := 20) (by kernel_rfl) (by kernel_rfl) Tryd.underlying127 (by kernel_rfl) (by kernel_rfl) (by kernel_rfl) (show laidMet Tryd.prog (("internal/strconv.uint64pow10", Lib.tabData .u64 Lib.pow10Tab) :: _) W from hL1.tail.tail), Tx.Tryd.lCut.s1_3 W hsh⟩
  have e1 : Rows.laid_unicode_utf8_first = Lib.firstData := by kernel_rfl
  have e2 : (Rows.laid_unicode_utf8_acceptRanges : DataW Unit) = Lib.acceptData := by kernel_rfl
  have r1 : Lib.VarReads Tryd.prog W "unicode/utf8.first" Rows.laid_unicode_utf8_first := Lib.laidMet.reads hL1 (.tail _ (.tail _ (.tail _ (.tail _ (.head _)))))
  have r2 : Lib.VarReads Tryd.prog W "unicode/utf8.acceptRanges" Rows.laid_unicode_utf8_acceptRanges := Lib.laidMet.reads hL1 (.tail _ (.tail _ (.tail _ (.head _))))
  rw [e1] at r1
  rw [e2] at r2
  have hT : Ty.TabP W := ⟨hT0, utf8Tabs_of_reads (ρ := Ty.Tryd.lDecL_ren) { Ty.Tryd.lDecL with } ⟨by kernel_rfl, by kernel_rfl, by kernel_rfl, by kernel_rfl, by kernel_rfl, by kernel_rfl, by kernel_rfl⟩ r1 r2⟩
  have hsz : (DataW.weightsEach Tryd.prog (Tryd.f4.params.toList ++ Rows.fnDeviceTextSpec.plain.varTypes Tryd.prog) (ds ++ gs)).all (· ≤ reachBytes) = true := hsz0
  have hval : ∀ (j : Nat) t v, Tryd.f4.params[j]? = some t → args[j]? = some v → Value.okWide Tryd.prog W .any base t v := hval0
  have hW' := hW
  obtain ⟨p, q, hA0, hV, rfl, hfz, hnd⟩ := hW
  have hA : DataW.TrodAll enc Tryd.prog W 0 (fun _ => true) true Tryd.f4.params.toList args.toList ds p := hA0
  rw [Tryd.params4] at hA hval hsz
  obtain ⟨v0, vs0, d0, ds0, p0, q0, hargs, rfl, rfl, h0, r0⟩ := trodAll_cons hA
  obtain ⟨rfl, rfl, rfl⟩ := trodAll_nil r0
  obtain rfl : args = #[v0] := by cases args; simp_all
  obtain ⟨rfl, rfl⟩ := trodVars_none hV
  obtain ⟨b0, len0, cap0, rfl⟩ := okWide_slice Tryd.underlying22 (hval 0 22 v0 rfl rfl)
  have k0 := h0
  have lt0 : ∀ x ∈ p0, x.block < W.heap.size := by obtain ⟨m, hm⟩ := k0; exact DataW.trod_lt m _ _ _ hm
  have y0 : len0 * 1 ≤ 140737488351232 := sized_any hsz (j := 0) (t := 22) rfl rfl Tryd.underlying22 (by kernel_rfl) h0
  obtain ⟨l0, rfl, hr0, hc0, hm0, hq0⟩ := opens_slice Tryd.underlying22 (opens_int Tryd.underlying5 (by kernel_rfl)) h0
  clear hA0 hval0 hsz0 hsz
  obtain ⟨k, hp⟩ := Pure.FnDeviceText l0 hm0 y0 hq0
  refine (laws_FnDeviceText.calls k _ _ l0 true W hr0 hc0 hp).mono ?_
  rintro e W' ⟨rfl, hd⟩
  have bel : Below W.heap.size W W' := hd
  exact ⟨_, rfl, _, _, _, [], _, [], hW', trodAll_mk1 (shut_bool Tryd.underlying4 _), (trodAll_cons_mk (Below.trod laidOut (by kernel_rfl) (of_decide_eq_true (by kernel_rfl)) k0 bel lt0) trodAll_mk0), rfl, bel.frame _, fun h => by cases h⟩
theorem over : Rows.fnDeviceTextRow.holds Tryd.pinned (OpenSpec.ofChange Rows.fnDeviceTextSpec) :=
  OpenClaim.holds_of_cond 4 Tryd.f4 rfl rfl rfl rfl rfl rfl rfl ⟨rfl, rfl, rfl, rfl, rfl⟩ rfl rfl rfl rfl rfl (by kernel_rfl) Tryd.func4 (by kernel_rfl)
    (of_decide_eq_true (by kernel_rfl)) (by unfold Func.isWrapper; first | (rw [if_pos (by decide +kernel)]; kernel_rfl) | (rw [if_neg (by decide +kernel)]; exact ⟨rfl, rfl⟩))
    (fun os started H enc _ F => by rw [OpenClaim.pre_eq_preRow]; exact lifted os started H enc F)
theorem proved : Rows.FnDeviceTextSaid := over
#print axioms proved
end Go.Proofs.YthofcclbkihemaaDoor.fnDeviceText
namespace Go.Proofs.YthofcclbkihemaaDoor
/-- The row, under a short name, for the claim. -/
theorem fnDeviceText_holds : Rows.FnDeviceTextSaid := fnDeviceText.proved
end Go.Proofs.YthofcclbkihemaaDoor
