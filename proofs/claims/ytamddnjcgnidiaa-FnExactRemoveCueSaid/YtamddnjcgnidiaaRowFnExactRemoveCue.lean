/- The row of the law FnExactRemoveCue: The program's RemoveCue returns what the reference's returns, for all arguments. It holds by the law's plain statement (text Pure) and by what the text M shows of each function. No condition beside the statement's own. -/
import Derived.Test.YtamddnjcgnidiaaRows
import Derived.Test.YtamddnjcgnidiaaOp
import Derived.Test.YtamddnjcgnidiaaStFnExactRemoveCue
import Derived.Test.YtamddnjcgnidiaaPureFnExactRemoveCue
namespace Go.Proofs.Ytamddnjcgnidiaa.fnExactRemoveCue
open Go Go.ChangeShapes Go.WideShapes Go.ChangeAt Go.RowKit Go.Proofs.Ytamddnjcgnidiaa.Op Go.Proofs.Ytamddnjcgnidiaa.MFnExactRemoveCue Go.Proofs.YtamddnjcgnidiaaW.PrintWords
open Go.ChangeMaps (open_string shut_string)
set_option linter.unusedVariables false
set_option linter.unusedSimpArgs false
theorem own : ownKnob Try.prog.godebug = none := by kernel_rfl
theorem laidOut : laidOutB Try.prog = true := by kernel_rfl
theorem op23 : Opens Try.prog 23 k23 (fun x => (Lit.int .i64 x.f0).wf = true ∧ (x.f1.size ≤ maxLen ∧ ((Lit.int .i64 x.f2).wf = true ∧ ((Lit.int .i64 x.f3).wf = true)))) := by
  refine opens_iso (d := (Kd.pair (Kd.int .i64) (Kd.pair Kd.string (Kd.pair (Kd.int .i64) (Kd.int .i64))))) (Q := fun x => (Lit.int .i64 x.1).wf = true ∧ (x.2.1.size ≤ maxLen ∧ ((Lit.int .i64 x.2.2.1).wf = true ∧ ((Lit.int .i64 x.2.2.2).wf = true)))) (fun x : S23 => (x.f0, x.f1, x.f2, x.f3)) (fun y => ⟨y.1, y.2.1, y.2.2.1, y.2.2.2⟩) (fun _ => rfl) ?_
  refine opens_struct Try.underlying23 (by kernel_rfl) ?_
  refine opensFs_cons (Qa := fun x : Int => (Lit.int .i64 x).wf = true) (Qb := fun x : ByteArray × Int × Int => x.1.size ≤ maxLen ∧ ((Lit.int .i64 x.2.1).wf = true ∧ ((Lit.int .i64 x.2.2).wf = true))) (opens_int Try.underlying3 (by kernel_rfl)) rfl ?_
  refine opensFs_cons (Qa := fun x : ByteArray => x.size ≤ maxLen) (Qb := fun x : Int × Int => (Lit.int .i64 x.1).wf = true ∧ ((Lit.int .i64 x.2).wf = true)) (opens_string Try.underlying9 (by kernel_rfl)) rfl ?_
  refine opensFs_cons (Qa := fun x : Int => (Lit.int .i64 x).wf = true) (Qb := fun x : Int => (Lit.int .i64 x).wf = true) (opens_int Try.underlying3 (by kernel_rfl)) rfl ?_
  exact opensFs_last (Q := fun x : Int => (Lit.int .i64 x).wf = true) (opens_int Try.underlying3 (by kernel_rfl)) rfl
set_option maxRecDepth 100000 in
theorem lifted (os : Os) (started : os.Started) (H : Type) (enc : TypeId × Value → H) :
    ReturnsInHanded {} Try.checked os 13 .any (Rows.fnExactRemoveCueSpec.pre6 enc Try.prog Try.f13 Rows.fnExactRemoveCueRow.domain false) (Rows.fnExactRemoveCueSpec.post enc Try.prog Try.f13 false true false false) := by
  refine returnsInHanded_of_change_sized (C := Try.checked) own started (by kernel_rfl) Try.func13
    (ChangeSpec.witness6 (enc := enc) (C := Try.checked) false ⟨#[], #[.slice none 0 0, .int .i64 0, .string ByteArray.empty], []⟩ 8 (by kernel_rfl) (by kernel_rfl) (by kernel_rfl) (by kernel_rfl)) ?_
  intro W base args ds gs before hval0 hW hcnd hsz0 _
  have hsz : (DataW.weightsEach Try.prog (Try.f13.params.toList ++ Rows.fnExactRemoveCueSpec.plain.varTypes Try.prog) (ds ++ gs)).all (· ≤ reachBytes) = true := hsz0
  have hval : ∀ (j : Nat) t v, Try.f13.params[j]? = some t → args[j]? = some v → Value.okWide Try.prog W .any base t v := hval0
  have hW' := hW
  obtain ⟨p, q, hA0, hV, rfl, hfz, hnd⟩ := hW
  have hA : DataW.TrodAll enc Try.prog W 0 (fun _ => true) true Try.f13.params.toList args.toList ds p := hA0
  rw [Try.params13] at hA hval hsz
  obtain ⟨v0, vs0, d0, ds0, p0, q0, hargs, rfl, rfl, h0, r0⟩ := trodAll_cons hA
  obtain ⟨v1, vs1, d1, ds1, p1, q1, rfl, rfl, rfl, h1, r1⟩ := trodAll_cons r0
  obtain ⟨v2, vs2, d2, ds2, p2, q2, rfl, rfl, rfl, h2, r2⟩ := trodAll_cons r1
  obtain ⟨rfl, rfl, rfl⟩ := trodAll_nil r2
  obtain rfl : args = #[v0, v1, v2] := by cases args; simp_all
  obtain ⟨rfl, rfl⟩ := trodVars_none hV
  obtain ⟨b0, len0, cap0, rfl⟩ := okWide_slice Try.underlying31 (hval 0 31 v0 rfl rfl)
  have k0 := h0
  have lt0 : ∀ x ∈ p0, x.block < W.heap.size := by obtain ⟨m, hm⟩ := k0; exact DataW.trod_lt m _ _ _ hm
  have y0 : len0 * 40 ≤ 140737488351232 := sized_any hsz (j := 0) (t := 31) rfl rfl Try.underlying31 (by kernel_rfl) h0
  obtain ⟨l0, rfl, hr0, hc0, hm0, hq0⟩ := opens_slice Try.underlying31 op23 h0
  obtain ⟨a1, rfl, rfl, rfl, w1⟩ := open_int Try.underlying3 (hval 1 3 v1 rfl rfl) h1
  obtain ⟨a2, rfl, rfl, rfl, y2⟩ := open_string Try.underlying9 (hval 2 9 v2 rfl rfl) h2
  have w2 : a2.size ≤ 140737488351232 := by
    have z := sized_string hsz (j := 2) (t := 9) rfl rfl
    rw [Array.length_toList] at z
    exact z
  clear hA0 hval0 hsz0 hsz
  obtain ⟨k, hp⟩ := Pure.FnExactRemoveCue l0 a1 a2 hm0 y0 hq0 w1 w2
  refine (laws_FnExactRemoveCue.calls k _ _ l0 a1 a2 true W hr0 hc0 hp).mono ?_
  rintro e W' ⟨rfl, hd⟩
  have bel : Below W.heap.size W W' := hd
  exact ⟨_, rfl, _, _, _, [], _, [], hW', trodAll_mk1 (shut_bool Try.underlying4 _), (trodAll_cons_mk (Below.trod laidOut (by kernel_rfl) (of_decide_eq_true (by kernel_rfl)) k0 bel lt0) (trodAll_cons_mk (shut_int Try.underlying3 w1) (trodAll_cons_mk (shut_string Try.underlying9 y2) trodAll_mk0))), rfl, bel.frame _, fun h => by cases h⟩
theorem over : Rows.fnExactRemoveCueRow.holds Try.pinned (OpenSpec.ofChange Rows.fnExactRemoveCueSpec) :=
  OpenClaim.holds_of_wide 13 Try.f13 rfl rfl rfl rfl rfl rfl rfl ⟨rfl, rfl, rfl, rfl, rfl⟩ rfl rfl rfl rfl rfl (by kernel_rfl) Try.func13 (by kernel_rfl)
    (of_decide_eq_true (by kernel_rfl)) (by unfold Func.isWrapper; first | (rw [if_pos (by decide +kernel)]; kernel_rfl) | (rw [if_neg (by decide +kernel)]; exact ⟨rfl, rfl⟩))
    (fun os started H enc _ => lifted os started H enc)
theorem proved : Rows.FnExactRemoveCueSaid := over
#print axioms proved
end Go.Proofs.Ytamddnjcgnidiaa.fnExactRemoveCue
namespace Go.Proofs.Ytamddnjcgnidiaa
/-- The row, under a short name, for the claim. -/
theorem fnExactRemoveCue_holds : Rows.FnExactRemoveCueSaid := fnExactRemoveCue.proved
end Go.Proofs.Ytamddnjcgnidiaa
