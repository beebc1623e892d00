/- The row of the law FnExactIsDevice: The program's IsDevice returns what the reference's returns, for all arguments. It holds by the law's plain statement (text Pure) and by what the text M shows of each function. No condition beside the statement's own. -/
import Derived.Test.YtkedcokhcgklpaaRows
import Derived.Test.YtkedcokhcgklpaaOp
import Derived.Test.YtkedcokhcgklpaaStFnExactIsDevice
import Derived.Test.YtkedcokhcgklpaaPureFnExactIsDevice
namespace Go.Proofs.Ytkedcokhcgklpaa.fnExactIsDevice
open Go Go.ChangeShapes Go.WideShapes Go.ChangeAt Go.RowKit Go.Proofs.Ytkedcokhcgklpaa.Op Go.Proofs.Ytkedcokhcgklpaa.MFnExactIsDevice Go.Proofs.YtkedcokhcgklpaaW.PrintWords
open Go.ChangeMaps (open_string shut_string)
set_option linter.unusedVariables false
set_option linter.unusedSimpArgs false
theorem own : ownKnob Try.prog.godebug = none := by kernel_rfl
theorem laidOut : laidOutB Try.prog = true := by kernel_rfl
structure S23 where
  f0 : Int
  f1 : Int
def k23 : Kd S23 := Kd.iso (Kd.pair (Kd.int .i64) (Kd.int .i64)) (fun x : S23 => (x.f0, x.f1))
theorem k23_open {w : World} {x : S23} {cs : List Value} (h : k23.K w x cs) : cs = [.int .i64 x.f0, .int .i64 x.f1] := by
  obtain ⟨_, _, rfl, rfl, rfl⟩ := h
  exact rfl
structure S25 where
  f0 : ByteArray
  f1 : Int
  f2 : ByteArray
  f3 : S23
  f4 : Int
  f5 : Int
  f6 : Int
def k25 : Kd S25 := Kd.iso (Kd.pair Kd.string (Kd.pair (Kd.int .i64) (Kd.pair Kd.string (Kd.pair k23 (Kd.pair (Kd.int .i64) (Kd.pair (Kd.int .i64) (Kd.int .i64))))))) (fun x : S25 => (x.f0, x.f1, x.f2, x.f3, x.f4, x.f5, x.f6))
theorem k25_open {w : World} {x : S25} {cs : List Value} (h : k25.K w x cs) : cs = [.string x.f0, .int .i64 x.f1, .string x.f2, .int .i64 x.f3.f0, .int .i64 x.f3.f1, .int .i64 x.f4, .int .i64 x.f5, .int .i64 x.f6] := by
  obtain ⟨_, _, rfl, rfl, ⟨_, _, rfl, rfl, ⟨_, _, rfl, rfl, ⟨_, _, rfl, s3, ⟨_, _, rfl, rfl, ⟨_, _, rfl, rfl, rfl⟩⟩⟩⟩⟩⟩ := h
  obtain rfl := k23_open s3
  exact rfl
theorem op23 : Opens Try.prog 23 k23 (fun x => (Lit.int .i64 x.f0).wf = true ∧ ((Lit.int .i64 x.f1).wf = true)) := by
  refine opens_iso (d := (Kd.pair (Kd.int .i64) (Kd.int .i64))) (Q := fun x => (Lit.int .i64 x.1).wf = true ∧ ((Lit.int .i64 x.2).wf = true)) (fun x : S23 => (x.f0, x.f1)) (fun y => ⟨y.1, y.2⟩) (fun _ => rfl) ?_
  refine opens_struct Try.underlying23 (by kernel_rfl) ?_
  refine opensFs_cons (Qa := fun x : Int => (Lit.int .i64 x).wf = true) (Qb := fun x : Int => (Lit.int .i64 x).wf = true) (opens_int Try.underlying3 (by kernel_rfl)) rfl ?_
  exact opensFs_last (Q := fun x : Int => (Lit.int .i64 x).wf = true) (opens_int Try.underlying3 (by kernel_rfl)) rfl
theorem op25 : Opens Try.prog 25 k25 (fun x => x.f0.size ≤ maxLen ∧ ((Lit.int .i64 x.f1).wf = true ∧ (x.f2.size ≤ maxLen ∧ (((Lit.int .i64 x.f3.f0).wf = true ∧ ((Lit.int .i64 x.f3.f1).wf = true)) ∧ ((Lit.int .i64 x.f4).wf = true ∧ ((Lit.int .i64 x.f5).wf = true ∧ ((Lit.int .i64 x.f6).wf = true))))))) := by
  refine opens_iso (d := (Kd.pair Kd.string (Kd.pair (Kd.int .i64) (Kd.pair Kd.string (Kd.pair k23 (Kd.pair (Kd.int .i64) (Kd.pair (Kd.int .i64) (Kd.int .i64)))))))) (Q := fun x => x.1.size ≤ maxLen ∧ ((Lit.int .i64 x.2.1).wf = true ∧ (x.2.2.1.size ≤ maxLen ∧ (((Lit.int .i64 x.2.2.2.1.f0).wf = true ∧ ((Lit.int .i64 x.2.2.2.1.f1).wf = true)) ∧ ((Lit.int .i64 x.2.2.2.2.1).wf = true ∧ ((Lit.int .i64 x.2.2.2.2.2.1).wf = true ∧ ((Lit.int .i64 x.2.2.2.2.2.2).wf = true))))))) (fun x : S25 => (x.f0, x.f1, x.f2, x.f3, x.f4, x.f5, x.f6)) (fun y => ⟨y.1, y.2.1, y.2.2.1, y.2.2.2.1, y.2.2.2.2.1, y.2.2.2.2.2.1, y.2.2.2.2.2.2⟩) (fun _ => rfl) ?_
  refine opens_struct Try.underlying25 (by kernel_rfl) ?_
  refine opensFs_cons (Qa := fun x : ByteArray => x.size ≤ maxLen) (Qb := fun x : Int × ByteArray × S23 × Int × Int × Int => (Lit.int .i64 x.1).wf = true ∧ (x.2.1.size ≤ maxLen ∧ (((Lit.int .i64 x.2.2.1.f0).wf = true ∧ ((Lit.int .i64 x.2.2.1.f1).wf = true)) ∧ ((Lit.int .i64 x.2.2.2.1).wf = true ∧ ((Lit.int .i64 x.2.2.2.2.1).wf = true ∧ ((Lit.int .i64 x.2.2.2.2.2).wf = true)))))) (opens_string Try.underlying9 (by kernel_rfl)) rfl ?_
  refine opensFs_cons (Qa := fun x : Int => (Lit.int .i64 x).wf = true) (Qb := fun x : ByteArray × S23 × Int × Int × Int => x.1.size ≤ maxLen ∧ (((Lit.int .i64 x.2.1.f0).wf = true ∧ ((Lit.int .i64 x.2.1.f1).wf = true)) ∧ ((Lit.int .i64 x.2.2.1).wf = true ∧ ((Lit.int .i64 x.2.2.2.1).wf = true ∧ ((Lit.int .i64 x.2.2.2.2).wf = true))))) (opens_int Try.underlying3 (by kernel_rfl)) rfl ?_
  refine opensFs_cons (Qa := fun x : ByteArray => x.size ≤ maxLen) (Qb := fun x : S23 × Int × Int × Int => ((Lit.int .i64 x.1.f0).wf = true ∧ ((Lit.int .i64 x.1.f1).wf = true)) ∧ ((Lit.int .i64 x.2.1).wf = true ∧ ((Lit.int .i64 x.2.2.1).wf = true ∧ ((Lit.int .i64 x.2.2.2).wf = true)))) (opens_string Try.underlying9 (by kernel_rfl)) rfl ?_
  refine opensFs_cons (Qa := fun x : S23 => (Lit.int .i64 x.f0).wf = true ∧ ((Lit.int .i64 x.f1).wf = true)) (Qb := fun x : Int × Int × Int => (Lit.int .i64 x.1).wf = true ∧ ((Lit.int .i64 x.2.1).wf = true ∧ ((Lit.int .i64 x.2.2).wf = true))) op23 rfl ?_
  refine opensFs_cons (Qa := fun x : Int => (Lit.int .i64 x).wf = true) (Qb := fun x : Int × Int => (Lit.int .i64 x.1).wf = true ∧ ((Lit.int .i64 x.2).wf = true)) (opens_int Try.underlying3 (by kernel_rfl)) rfl ?_
  refine opensFs_cons (Qa := fun x : Int => (Lit.int .i64 x).wf = true) (Qb := fun x : Int => (Lit.int .i64 x).wf = true) (opens_int Try.underlying3 (by kernel_rfl)) rfl ?_
  exact opensFs_last (Q := fun x : Int => (Lit.int .i64 x).wf = true) (opens_int Try.underlying3 (by kernel_rfl)) rfl
set_option maxRecDepth 100000 in
theorem lifted (os : Os) (started : os.Started) (H : Type) (enc : TypeId × Value → H) :
    ReturnsInHanded {} Try.checked os 3 .any (Rows.fnExactIsDeviceSpec.pre6 enc Try.prog Try.f3 Rows.fnExactIsDeviceRow.domain false) (Rows.fnExactIsDeviceSpec.post enc Try.prog Try.f3 false true false false) := by
  refine returnsInHanded_of_change_sized (C := Try.checked) own started (by kernel_rfl) Try.func3
    (ChangeSpec.witness6 (enc := enc) (C := Try.checked) false ⟨#[], #[.agg #[.string ByteArray.empty, .int .i64 0, .string ByteArray.empty, .int .i64 0, .int .i64 0, .int .i64 0, .int .i64 0, .int .i64 0]], []⟩ 8 (by kernel_rfl) (by kernel_rfl) (by kernel_rfl) (by kernel_rfl)) ?_
  intro W base args ds gs before hval0 hW hcnd hsz0 _
  have hsz : (DataW.weightsEach Try.prog (Try.f3.params.toList ++ Rows.fnExactIsDeviceSpec.plain.varTypes Try.prog) (ds ++ gs)).all (· ≤ reachBytes) = true := hsz0
  have hval : ∀ (j : Nat) t v, Try.f3.params[j]? = some t → args[j]? = some v → Value.okWide Try.prog W .any base t v := hval0
  have hW' := hW
  obtain ⟨p, q, hA0, hV, rfl, hfz, hnd⟩ := hW
  have hA : DataW.TrodAll enc Try.prog W 0 (fun _ => true) true Try.f3.params.toList args.toList ds p := hA0
  rw [Try.params3] at hA hval hsz
  obtain ⟨v0, vs0, d0, ds0, p0, q0, hargs, rfl, rfl, h0, r0⟩ := trodAll_cons hA
  obtain ⟨rfl, rfl, rfl⟩ := trodAll_nil r0
  obtain rfl : args = #[v0] := by cases args; simp_all
  obtain ⟨rfl, rfl⟩ := trodVars_none hV
  have k0 := h0
  have lt0 : ∀ x ∈ p0, x.block < W.heap.size := by obtain ⟨m, hm⟩ := k0; exact DataW.trod_lt m _ _ _ hm
  obtain ⟨x0, cs0, rfl, hk0, hq0⟩ := opens_agg Try.underlying25 op25 (hval 0 25 v0 rfl rfl) h0
  obtain rfl := k25_open hk0
  clear hA0 hval0 hsz0 hsz
  obtain ⟨k, hp⟩ := Pure.FnExactIsDevice x0.f0 x0.f1 x0.f2 x0.f3.f0 x0.f3.f1 x0.f4 x0.f5 x0.f6 hq0.1 hq0.2.1 hq0.2.2.1 hq0.2.2.2.1.1 hq0.2.2.2.1.2 hq0.2.2.2.2.1 hq0.2.2.2.2.2.1 hq0.2.2.2.2.2.2
  refine (laws_FnExactIsDevice.calls k x0.f0 x0.f1 x0.f2 x0.f3.f0 x0.f3.f1 x0.f4 x0.f5 x0.f6 true W hp).mono ?_
  rintro e W' ⟨rfl, hd⟩
  have bel : Below W.heap.size W W' := hd
  exact ⟨_, rfl, _, _, _, [], _, [], hW', trodAll_mk1 (shut_bool Try.underlying4 _), (trodAll_cons_mk (Below.trod laidOut (by kernel_rfl) (of_decide_eq_true (by kernel_rfl)) k0 bel lt0) trodAll_mk0), rfl, bel.frame _, fun h => by cases h⟩
theorem over : Rows.fnExactIsDeviceRow.holds Try.pinned (OpenSpec.ofChange Rows.fnExactIsDeviceSpec) :=
  OpenClaim.holds_of_wide 3 Try.f3 rfl rfl rfl rfl rfl rfl rfl ⟨rfl, rfl, rfl, rfl, rfl⟩ rfl rfl rfl rfl rfl (by kernel_rfl) Try.func3 (by kernel_rfl)
    (of_decide_eq_true (by kernel_rfl)) (by unfold Func.isWrapper; first | (rw [if_pos (by decide +kernel)]; kernel_rfl) | (rw [if_neg (by decide +kernel)]; exact ⟨rfl, rfl⟩))
    (fun os started H enc _ => lifted os started H enc)
theorem proved : Rows.FnExactIsDeviceSaid := over
#print axioms proved
end Go.Proofs.Ytkedcokhcgklpaa.fnExactIsDevice
namespace Go.Proofs.Ytkedcokhcgklpaa
/-- The row, under a short name, for the claim. -/
theorem fnExactIsDevice_holds : Rows.FnExactIsDeviceSaid := fnExactIsDevice.proved
end Go.Proofs.Ytkedcokhcgklpaa
