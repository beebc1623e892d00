-- Written by a program for this claim.
import Derived.Test.YtkljnmojnkiafaaMFnMovedRigx0
import Derived.Test.YtkljnmojnkiafaaMFnMovedRigx2
import Derived.Test.YtkljnmojnkiafaaMFnMovedRigx7
import Derived.Test.YtkljnmojnkiafaaMFnMovedRigx9
import Derived.Test.YtkljnmojnkiafaaMFnMovedRigx12
import Derived.Test.YtkljnmojnkiafaaMFnMovedRigx13
import Derived.Test.YtkljnmojnkiafaaMFnMovedRigx14
namespace Go.Proofs.Ytkljnmojnkiafaa.MFnMovedRig
open Go.RowKit Go.Proofs.YtkljnmojnkiafaaW.PrintWords Go.Proofs.YtkljnmojnkiafaaW.PrintLast Go.Proofs.YtkljnmojnkiafaaW.PrintMore
attribute [local go_sem] max2_int min2_int max_two min_two max_three min_three max_four min_four   -- for this text's walks alone
set_option linter.unusedVariables false
set_option linter.unusedSimpArgs false

theorem s15_0 {p : Prop} (h : p := by repeat (first | exact (Kd.R_reads' HO602.out).2.2 | (with_reducible refine Kd.C_alloc ?_ _) | (with_reducible refine Kd.C_drewN ?_ _) | (with_reducible refine Kd.C_drew ?_))) : p := h
theorem s15_1 {p : Prop} (h : p := by repeat (first | exact (Kd.R_reads' HO_8.out).2.2 | (with_reducible refine Kd.C_alloc ?_ _) | (with_reducible refine Kd.C_drewN ?_ _) | (with_reducible refine Kd.C_drew ?_))) : p := h
theorem s15_2 {p : Prop} (h : p := by repeat (first | exact (Kd.R_reads' HO_3.out).2.2 | (with_reducible refine Kd.C_alloc ?_ _) | (with_reducible refine Kd.C_drewN ?_ _) | (with_reducible refine Kd.C_drew ?_))) : p := h
theorem s15_3 {p : Prop} (h : p := by repeat (first | (with_reducible first | exact HB.out | apply below_alloc | apply pw_below_drewN | apply below_drew1 | refine below_set ?_ GE615.out) | exact HB.out)) : p := h
theorem s15_4 {p : Prop} (h : p := by repeat (first | (with_reducible first | exact HB.out | apply below_alloc | apply pw_below_drewN | apply below_drew1) | exact HB.out)) : p := h
theorem y15_2 {p : Prop} (h : p := by repeat (first | exact (Kd.R_reads' HO609.out).2.2 | (with_reducible refine Kd.C_alloc ?_ _) | (with_reducible refine Kd.C_drewN ?_ _) | (with_reducible refine Kd.C_drew ?_))) : p := h
theorem y15_6 {p : Prop} (h : p := by repeat (first | exact HR0.out | (with_reducible refine Kd.C_alloc ?_ _) | (with_reducible refine Kd.C_drewN ?_ _) | (with_reducible refine Kd.C_drew ?_))) : p := h
abbrev mk15_0 : Array Bool := #[false, false, false, false, false, false, false, false, false, false, false, false, false, false, false, false, false, false, false, false, false, false, false, false, false, false, false, false, false, false, false, false, false, false, false, false, false, false, false, false, false]
abbrev mk15_1 : Array Bool := #[true, false, false, false, false, false, false, false, false, false, false, false, false, false, false, false, false, false, false, false, false, false, false, false, false, false, false, false, false, false, false, false, false, false, false, false, false, false, false, false, false]
abbrev mk15_2 : Array Bool := #[true, true, false, false, false, false, false, false, false, false, false, false, false, false, false, false, false, false, false, false, false, false, false, false, false, false, false, false, false, false, false, false, false, false, false, false, false, false, false, false, false]
abbrev mk15_3 : Array Bool := #[true, true, true, false, false, false, false, false, false, false, false, false, false, false, false, false, false, false, false, false, false, false, false, false, false, false, false, false, false, false, false, false, false, false, false, false, false, false, false, false, false]
abbrev mk15_4 : Array Bool := #[true, true, true, true, false, false, false, false, false, false, false, false, false, false, false, false, false, false, false, false, false, false, false, false, false, false, false, false, false, false, false, false, false, false, false, false, false, false, false, false, false]
abbrev mk15_5 : Array Bool := #[true, true, true, true, false, true, false, false, false, false, false, false, false, false, false, false, false, false, false, false, false, false, false, false, false, false, false, false, false, false, false, false, false, false, false, false, false, false, false, false, false]
abbrev mk15_6 : Array Bool := #[true, true, true, true, false, true, true, false, false, false, false, false, false, false, false, false, false, false, false, false, false, false, false, false, false, false, false, false, false, false, false, false, false, false, false, false, false, false, false, false, false]
abbrev mk15_7 : Array Bool := #[true, true, true, true, false, true, true, true, false, false, false, false, false, false, false, false, false, false, false, false, false, false, false, false, false, false, false, false, false, false, false, false, false, false, false, false, false, false, false, false, false]
abbrev mk15_8 : Array Bool := #[true, true, true, true, false, true, true, true, true, false, false, false, false, false, false, false, false, false, false, false, false, false, false, false, false, false, false, false, false, false, false, false, false, false, false, false, false, false, false, false, false]
abbrev mk15_9 : Array Bool := #[true, true, true, true, true, true, true, true, true, false, false, false, false, false, false, false, false, false, false, false, false, false, false, false, false, false, false, false, false, false, false, false, false, false, false, false, false, false, false, false, false]
abbrev mk15_10 : Array Bool := #[true, true, true, true, true, true, true, true, true, true, false, false, false, false, false, false, false, false, false, false, false, false, false, false, false, false, false, false, false, false, false, false, false, false, false, false, false, false, false, false, false]
abbrev mk15_11 : Array Bool := #[true, true, true, true, true, true, true, true, true, true, true, false, false, false, false, false, false, false, false, false, false, false, false, false, false, false, false, false, false, false, false, false, false, false, false, false, false, false, false, false, false]
abbrev mk15_12 : Array Bool := #[true, true, true, true, true, true, true, true, true, true, true, true, false, false, false, false, false, false, false, false, false, false, false, false, false, false, false, false, false, false, false, false, false, false, false, false, false, false, false, false, false]
abbrev mk15_13 : Array Bool := #[true, true, true, true, true, true, true, true, true, true, true, true, true, false, false, false, false, false, false, false, false, false, false, false, false, false, false, false, false, false, false, false, false, false, false, false, false, false, false, false, false]
abbrev mk15_14 : Array Bool := #[true, true, true, true, true, true, true, true, true, true, true, true, true, true, false, false, false, false, false, false, false, false, false, false, false, false, false, false, false, false, false, false, false, false, false, false, false, false, false, false, false]
abbrev mk15_15 : Array Bool := #[true, true, true, true, true, true, true, true, true, true, true, true, true, true, true, false, false, false, false, false, false, false, false, false, false, false, false, false, false, false, false, false, false, false, false, false, false, false, false, false, false]
abbrev mk15_16 : Array Bool := #[true, true, true, true, true, true, true, true, true, true, true, true, true, true, true, true, false, false, false, false, false, false, false, false, false, false, false, false, false, false, false, false, false, false, false, false, false, false, false, false, false]
abbrev mk15_17 : Array Bool := #[true, true, true, true, true, true, true, true, true, true, true, true, true, true, true, true, false, true, false, false, false, false, false, false, false, false, false, false, false, false, false, false, false, false, false, false, false, false, false, false, false]
abbrev mk15_18 : Array Bool := #[true, true, true, true, true, true, true, true, true, true, true, true, true, true, true, true, false, true, true, false, false, false, false, false, false, false, false, false, false, false, false, false, false, false, false, false, false, false, false, false, false]
abbrev mk15_19 : Array Bool := #[true, true, true, true, true, true, true, true, true, true, true, true, true, true, true, true, false, true, true, true, false, false, false, false, false, false, false, false, false, false, false, false, false, false, false, false, false, false, false, false, false]
abbrev mk15_20 : Array Bool := #[true, true, true, true, true, true, true, true, true, true, true, true, true, true, true, true, false, true, true, true, true, false, false, false, false, false, false, false, false, false, false, false, false, false, false, false, false, false, false, false, false]
abbrev mk15_25 : Array Bool := #[true, true, true, true, true, true, true, true, true, true, true, true, true, true, true, true, true, true, true, true, true, false, false, false, false, false, false, false, false, false, false, false, false, false, false, false, false, false, false, false, false]
abbrev mk15_26 : Array Bool := #[true, true, true, true, true, true, true, true, true, true, true, true, true, true, true, true, true, true, true, true, true, true, false, false, false, false, false, false, false, false, false, false, false, false, false, false, false, false, false, false, false]
abbrev mk15_27 : Array Bool := #[true, true, true, true, true, true, true, true, true, true, true, true, true, true, true, true, true, true, true, true, true, true, true, false, false, false, false, false, false, false, false, false, false, false, false, false, false, false, false, false, false]
abbrev mk15_28 : Array Bool := #[true, true, true, true, true, true, true, true, true, true, true, true, true, true, true, true, true, true, true, true, true, true, true, true, false, false, false, false, false, false, false, false, false, false, false, false, false, false, false, false, false]
abbrev mk15_29 : Array Bool := #[true, true, true, true, true, true, true, true, true, true, true, true, true, true, true, true, true, true, true, true, true, true, true, true, true, false, false, false, false, false, false, false, false, false, false, false, false, false, false, false, false]
abbrev mk15_30 : Array Bool := #[true, true, true, true, true, true, true, true, true, true, true, true, true, true, true, true, true, true, true, true, true, true, true, true, true, true, false, false, false, false, false, false, false, false, false, false, false, false, false, false, false]
abbrev mk15_31 : Array Bool := #[true, true, true, true, true, true, true, true, true, true, true, true, true, true, true, true, true, true, true, true, true, true, true, true, true, true, true, false, false, false, false, false, false, false, false, false, false, false, false, false, false]
abbrev mk15_32 : Array Bool := #[true, true, true, true, true, true, true, true, true, true, true, true, true, true, true, true, true, true, true, true, true, true, true, true, true, true, true, true, false, false, false, false, false, false, false, false, false, false, false, false, false]
abbrev mk15_33 : Array Bool := #[true, true, true, true, true, true, true, true, true, true, true, true, true, true, true, true, true, true, true, true, true, true, true, true, true, true, true, true, true, false, false, false, false, false, false, false, false, false, false, false, false]
abbrev mk15_34 : Array Bool := #[true, true, true, true, true, true, true, true, true, true, true, true, true, true, true, true, true, true, true, true, true, true, true, true, true, true, true, true, true, true, false, false, false, false, false, false, false, false, false, false, false]
abbrev mk15_35 : Array Bool := #[true, true, true, true, true, true, true, true, true, true, true, true, true, true, true, true, true, true, true, true, true, true, true, true, true, true, true, true, true, true, false, false, true, false, false, false, false, false, false, false, false]
abbrev mk15_36 : Array Bool := #[true, true, true, true, true, true, true, true, true, true, true, true, true, true, true, true, true, true, true, true, true, true, true, true, true, true, true, true, true, true, false, false, true, true, false, false, false, false, false, false, false]
abbrev mk15_37 : Array Bool := #[true, true, true, true, true, true, true, true, true, true, true, true, true, true, true, true, true, true, true, true, true, true, true, true, true, true, true, true, true, true, false, false, true, true, true, false, false, false, false, false, false]
abbrev mk15_38 : Array Bool := #[true, true, true, true, true, true, true, true, true, true, true, true, true, true, true, true, true, true, true, true, true, true, true, true, true, true, true, true, true, true, false, false, true, true, true, true, false, false, false, false, false]
abbrev mk15_39 : Array Bool := #[true, true, true, true, true, true, true, true, true, true, true, true, true, true, true, true, true, true, true, true, true, true, true, true, true, true, true, true, true, true, false, false, true, true, true, true, true, false, false, false, false]
abbrev mk15_40 : Array Bool := #[true, true, true, true, true, true, true, true, true, true, true, true, true, true, true, true, true, true, true, true, true, true, true, true, true, true, true, true, true, true, true, false, false, false, false, false, false, false, false, false, false]
abbrev mk15_41 : Array Bool := #[true, true, true, true, true, true, true, true, true, true, true, true, true, true, true, true, true, true, true, true, true, true, true, true, true, true, true, true, true, true, true, false, true, true, true, true, true, false, false, false, false]
abbrev mk15_42 : Array Bool := #[true, true, true, true, true, true, true, true, true, true, true, true, true, true, true, true, true, true, true, true, true, true, true, true, true, true, true, true, true, true, true, false, true, true, true, true, true, true, false, false, false]
abbrev mk15_43 : Array Bool := #[true, true, true, true, true, true, true, true, true, true, true, true, true, true, true, true, true, true, true, true, true, true, true, true, true, true, true, true, true, true, true, true, false, false, false, false, false, false, false, false, false]
abbrev mk15_44 : Array Bool := #[true, true, true, true, true, true, true, true, true, true, true, true, true, true, true, true, true, true, true, true, true, true, true, true, true, true, true, true, true, true, true, true, true, false, false, false, false, false, false, false, false]
abbrev mk15_45 : Array Bool := #[true, true, true, true, true, true, true, true, true, true, true, true, true, true, true, true, true, true, true, true, true, true, true, true, true, true, true, true, true, true, true, true, true, true, false, false, false, false, false, false, false]
abbrev mk15_46 : Array Bool := #[true, true, true, true, true, true, true, true, true, true, true, true, true, true, true, true, true, true, true, true, true, true, true, true, true, true, true, true, true, true, true, true, true, true, true, false, false, false, false, false, false]
abbrev mk15_47 : Array Bool := #[true, true, true, true, true, true, true, true, true, true, true, true, true, true, true, true, true, true, true, true, true, true, true, true, true, true, true, true, true, true, true, true, true, true, true, true, false, false, false, false, false]
abbrev mk15_48 : Array Bool := #[true, true, true, true, true, true, true, true, true, true, true, true, true, true, true, true, true, true, true, true, true, true, true, true, true, true, true, true, true, true, true, true, true, true, true, true, true, false, false, false, false]
abbrev mk15_49 : Array Bool := #[true, true, true, true, true, true, true, true, true, true, true, true, true, true, true, true, true, true, true, true, true, true, true, true, true, true, true, true, true, true, true, true, true, true, true, true, true, true, false, false, false]
abbrev mk15_50 : Array Bool := #[true, true, true, true, true, true, true, true, true, true, true, true, true, true, true, true, true, true, true, true, true, true, true, true, true, true, true, true, true, true, true, true, true, true, true, true, true, true, true, false, false]
abbrev mk15_51 : Array Bool := #[true, true, true, true, true, true, true, true, true, true, true, true, true, true, true, true, true, true, true, true, true, true, true, true, true, true, true, true, true, true, true, true, true, true, true, true, true, true, true, true, false]
abbrev mk15_52 : Array Bool := #[true, true, true, true, true, true, true, true, true, true, true, true, true, true, true, true, true, true, true, true, true, true, true, true, true, true, true, true, true, true, true, true, true, true, true, true, true, true, true, true, true]
theorem u15_0 {p : Prop} (h : p := by repeat (first | (with_reducible first | exact HB.out | apply below_alloc | apply pw_below_drewN | apply below_drew1) | exact HB.out)) : p := h
theorem u15_1 {p : Prop} (h : p := by (with_reducible repeat (first | apply Kd.R_alloc | apply Kd.R_drewN | apply Kd.R_drew)); exact (Kd.R_mono (Kd.R_far (p := ⟨gb615, 1, none⟩) (Kd.R_far (p := ⟨gb615, 0, none⟩) (Kd.R_types HO_6.out BK615.out (by decide)) (fun _ hk => hk.2) (.int .i64 (l0.length : Int))) (fun _ hk => hk.2) (.int .i64 (-7))) (fun _ h_ => h_.1))) : p := h
theorem u15_2 {p : Prop} (h : p := by repeat (first | (with_reducible first | exact HB.out | apply below_alloc | apply pw_below_drewN | apply below_drew1 | refine below_set ?_ GE615.out) | exact HB.out)) : p := h
theorem u15_3 {p : Prop} (h : p := by (try simp only [List.map_toArray, List.map_cons, List.map_nil]); first | done | rfl) : p := h
theorem u15_4 {p : Prop} (h : p := by (with_reducible repeat (first | apply Kd.R_alloc | apply Kd.R_drewN | apply Kd.R_drew)); exact (Kd.R_mono (Kd.R_far (p := ⟨gb615, 1, none⟩) (Kd.R_far (p := ⟨gb615, 0, none⟩) (Kd.R_types HO_3.out BK615.out (by decide)) (fun _ hk => hk.2) (.int .i64 (l0.length : Int))) (fun _ hk => hk.2) (.int .i64 (-7))) (fun _ h_ => h_.1))) : p := h
theorem u15_5 {p : Prop} (h : p := by (with_reducible repeat (first | apply Kd.R_alloc | apply Kd.R_drewN | apply Kd.R_drew)); exact HO602.out) : p := h
theorem u15_6 {p : Prop} (h : p := by (with_reducible repeat (first | apply Kd.R_alloc | apply Kd.R_drewN | apply Kd.R_drew)); exact HO_6.out) : p := h
theorem u15_7 {p : Prop} (h : p := by (with_reducible repeat (first | apply Kd.R_alloc | apply Kd.R_drewN | apply Kd.R_drew)); exact HO_3.out) : p := h
theorem u15_8 {p : Prop} (h : p := by (with_reducible repeat (first | apply Kd.Q_alloc | apply Kd.Q_drewN | apply Kd.Q_drew)); exact HO606.out) : p := h
theorem u15_9 {p : Prop} (h : p := by (with_reducible repeat (first | refine blk_drewN ?_ _ | refine blk_drew ?_ | refine blk_alloc ?_ _)); exact BK615.out) : p := h
theorem u15_10 {p : Prop} (h : p := by assumption) : p := h
theorem u15_11 {p : Prop} (h : p := by (with_reducible repeat (first | refine blk_drewN ?_ _ | refine blk_drew ?_ | refine blk_alloc ?_ _)); refine blk_put (cs := zr8 (l0.length : Int) 0) ?_ 1 _ rfl; refine blk_put (cs := zr8 0 0) ?_ 0 _ rfl; (with_reducible repeat (first | refine blk_drewN ?_ _ | refine blk_drew ?_ | refine blk_alloc ?_ _)); exact BK615.out) : p := h
theorem u15_12 {p : Prop} (h : p := by (with_reducible repeat (first | apply Kd.R_alloc | apply Kd.R_drewN | apply Kd.R_drew)); exact HO_10.out) : p := h
theorem u15_13 {p : Prop} (h : p := by (with_reducible repeat (first | apply Kd.R_alloc | apply Kd.R_drewN | apply Kd.R_drew)); exact HO609.out) : p := h
theorem u15_14 {p : Prop} (h : p := by (with_reducible repeat (first | apply Kd.R_alloc | apply Kd.R_drewN | apply Kd.R_drew)); exact HO_8.out) : p := h
mutual
def laws_FnMovedRig.j0 : Nat → List Int → List (S87) → List (S87) → Bool → Option (Bool)
 | 0, _, _, _, _ => none
 | k + 1, x0, x3, x6, x37 => if x37 = true then (some false) else ((impl_ShiftRig.f k x6 (x0.length : Int) (-7)).bind fun bt616 => (if bt616.2 = true then ((impl_ShiftRig.f k bt616.1 (wrap64 (-(x0.length : Int))) (-(-7))).bind fun bt620 => (laws_FnMovedRig.l0 k x3 x6 bt616.1 bt620.1 bt620.2 0)) else (some ((bt616.1.length : Int) == 0))))
def laws_FnMovedRig.l0 : Nat → List (S87) → List (S87) → List (S87) → List (S87) → Bool → Int → Option (Bool)
 | 0, _, _, _, _, _, _ => none
 | k + 1, x3, x6, x8, x10, x11, x12 => if x12 < (x3.length : Int) then (if 0 ≤ x12 then (if x12 < (x8.length : Int) then (if ((rd_T87 x8 x12).f0).toList = ((rd_T87 x3 x12).f0).toList then (if ((rd_T87 x8 x12).f2).toList = ((rd_T87 x3 x12).f2).toList then ((impl_PumpOf.f k x8 ((rd_T87 x8 x12).f0)).bind fun t630 => ((impl_PumpOf.f k x3 ((rd_T87 x3 x12).f0)).bind fun t632 => (if t630.toList = t632.toList then (laws_FnMovedRig.l0 k x3 x6 x8 x10 x11 (wrap64 (x12 + 1))) else (some false)))) else (some false)) else (some false)) else (none)) else (none)) else (if x11 = true then ((laws_rigs.f k x10 x6).bind fun t624 => (some t624)) else (some false))
end
def laws_FnMovedRig.f (k : Nat) (l0 : List Int) : Option (Bool) := (laws_big.f l0).bind fun t599 => (if t599 = true then (some true) else ((spec_DrawRig.f k l0).bind fun t600 => ((spec_DrawTurnRig.f k l0).bind fun bt603 => ((impl_TurnRig.f k t600 bt603.2).bind fun t607 => ((impl_IsRig.f k t607).bind fun t610 => (if t610 = true then ((impl_TurnRig.f k t607 (wrap64 (4 - (Int.tmod bt603.2 4)))).bind fun t611 => ((laws_rigs.f k t611 t600).bind fun t614 => (laws_FnMovedRig.j0 k l0 t600 t607 (!t614)))) else (laws_FnMovedRig.j0 k l0 t600 t607 true)))))))
theorem laws_FnMovedRig.mono_l : ∀ k, (∀ y0 y1 y2 y3, LeO (laws_FnMovedRig.j0 k y0 y1 y2 y3) (laws_FnMovedRig.j0 (k + 1) y0 y1 y2 y3)) ∧ (∀ y0 y1 y2 y3 y4 y5, LeO (laws_FnMovedRig.l0 k y0 y1 y2 y3 y4 y5) (laws_FnMovedRig.l0 (k + 1) y0 y1 y2 y3 y4 y5))
 | 0 => ⟨fun _ _ _ _ r h => by simp [laws_FnMovedRig.j0] at h, fun _ _ _ _ _ _ r h => by simp [laws_FnMovedRig.l0] at h⟩
 | k + 1 => by
  obtain ⟨ih0, ih1⟩ := laws_FnMovedRig.mono_l k
  refine ⟨?_, ?_⟩
  ·intro y0 y1 y2 y3
   unfold laws_FnMovedRig.j0
   repeat' first
   | (with_reducible exact ih0 _ _ _ _)
   | (with_reducible exact ih1 _ _ _ _ _ _)
   | (with_reducible exact impl_IsRig.mono _ _)
   | (with_reducible exact impl_PumpOf.mono _ _ _)
   | (with_reducible exact impl_ShiftRig.mono _ _ _ _)
   | (with_reducible exact impl_TurnRig.mono _ _ _)
   | (with_reducible exact laws_rigs.mono _ _ _)
   | (with_reducible exact spec_DrawRig.mono _ _)
   | (with_reducible exact spec_DrawTurnRig.mono _ _)
   | (with_reducible exact LeO.refl _)
   | (with_reducible exact LeO.none _)
   | (with_reducible refine LeO.ite ?_ ?_)
   | (with_reducible refine LeO.bind ?_ (fun _ => ?_))
  ·intro y0 y1 y2 y3 y4 y5
   unfold laws_FnMovedRig.l0
   repeat' first
   | (with_reducible exact ih0 _ _ _ _)
   | (with_reducible exact ih1 _ _ _ _ _ _)
   | (with_reducible exact impl_IsRig.mono _ _)
   | (with_reducible exact impl_PumpOf.mono _ _ _)
   | (with_reducible exact impl_ShiftRig.mono _ _ _ _)
   | (with_reducible exact impl_TurnRig.mono _ _ _)
   | (with_reducible exact laws_rigs.mono _ _ _)
   | (with_reducible exact spec_DrawRig.mono _ _)
   | (with_reducible exact spec_DrawTurnRig.mono _ _)
   | (with_reducible exact LeO.refl _)
   | (with_reducible exact LeO.none _)
   | (with_reducible refine LeO.ite ?_ ?_)
   | (with_reducible refine LeO.bind ?_ (fun _ => ?_))
theorem laws_FnMovedRig.mono : ∀ a0 k, LeO (laws_FnMovedRig.f k a0) (laws_FnMovedRig.f (k + 1) a0) := by
 intro a0 k
 obtain ⟨ih0, ih1⟩ := laws_FnMovedRig.mono_l k
 unfold laws_FnMovedRig.f
 repeat' first
   | (with_reducible exact ih0 _ _ _ _)
   | (with_reducible exact ih1 _ _ _ _ _ _)
   | (with_reducible exact impl_IsRig.mono _ _)
   | (with_reducible exact impl_PumpOf.mono _ _ _)
   | (with_reducible exact impl_ShiftRig.mono _ _ _ _)
   | (with_reducible exact impl_TurnRig.mono _ _ _)
   | (with_reducible exact laws_rigs.mono _ _ _)
   | (with_reducible exact spec_DrawRig.mono _ _)
   | (with_reducible exact spec_DrawTurnRig.mono _ _)
   | (with_reducible exact LeO.refl _)
   | (with_reducible exact LeO.none _)
   | (with_reducible refine LeO.ite ?_ ?_)
   | (with_reducible refine LeO.bind ?_ (fun _ => ?_))
def laws_FnMovedRig.T16 : Bool × List (List Nat × List Nat) := (true, [([], []), ([], []), ([0, 1], [0, 1]), ([2], [2]), ([3], [3]), ([], []), ([], []), ([5, 6], [5, 6]), ([7], [7]), ([8], [8]), ([4, 9], [4, 9]), ([10], [10]), ([11], [11]), ([11], [11]), ([12, 13, 11], [11, 12, 13]), ([14, 11], [11, 14]), ([15, 11], [11, 15]), ([11], [11]), ([11], [11]), ([17, 18, 11], [11, 17, 18]), ([19, 11], [11, 19]), ([20, 11], [11, 20]), ([16, 21, 11], [11, 16, 21]), ([11, 22], [11, 22]), ([23, 11], [23]), ([24], [24]), ([24], [24]), ([24], [24]), ([26, 27, 24], [24, 26, 27]), ([28, 24], [24, 28]), ([29, 24], [24, 29]), ([25, 30, 24, 24], [24, 25, 30]), ([24], [24]), ([24], [24]), ([24], [24]), ([33, 34, 24], [24, 33, 34]), ([35, 24], [24, 35]), ([36, 24], [24, 36]), ([32, 37, 31, 24], [24, 32, 37]), ([31, 38, 24], [24, 31, 38]), ([24, 39], [24, 39])])
def laws_FnMovedRig.B16 : List Nat := [0, 0, 3, 7, 15, 0, 0, 96, 224, 480, 1023, 2047, 4095, 4095, 16383, 32767, 65535, 4095, 4095, 397311, 921599, 1970175, 4194303, 8388607, 16777215, 33554431, 33554431, 33554431, 234881023, 503316479, 1040187391, 2147483647, 33554431, 33554431, 33554431, 25803358207, 60163096575, 128882573311, 274877906943, 549755813887, 1099511627775]
theorem laws_FnMovedRig.tab16 : rtab .any (opsOf Try.f10 16) = laws_FnMovedRig.T16 := by kernel_rfl
theorem laws_FnMovedRig.bits16 : waitsOk laws_FnMovedRig.T16.2 laws_FnMovedRig.B16 = true := by kernel_rfl
set_option maxHeartbeats 8000000 in
set_option maxRecDepth 100000 in
theorem laws_FnMovedRig.calls (k : Nat) (A0 : Option Addr) (c0 : Nat) (l0 : List Int) (r : Bool) (w : World) (hr0 : Kd.C (Kd.int .u8) w A0 l0.length l0) (hc0 : l0.length ≤ c0) (h : laws_FnMovedRig.f k l0 = some r) :
  Calls Try.prog 10 #[.slice A0 l0.length c0] w fun e w' => e = .returned (.bool r) ∧ Below w.heap.size w w' := by
 have hu66 := Try.underlying66
 have HR0 := am hr0
 have HC0 := am hc0
 clear hr0 hc0
 have HB := am (Below.refl w.heap.size w)
 have H : ((laws_big.f l0).bind fun t599 => (if t599 = true then (some true) else ((spec_DrawRig.f k l0).bind fun t600 => ((spec_DrawTurnRig.f k l0).bind fun bt603 => ((impl_TurnRig.f k t600 bt603.2).bind fun t607 => ((impl_IsRig.f k t607).bind fun t610 => (if t610 = true then ((impl_TurnRig.f k t607 (wrap64 (4 - (Int.tmod bt603.2 4)))).bind fun t611 => ((laws_rigs.f k t611 t600).bind fun t614 => (laws_FnMovedRig.j0 k l0 t600 t607 (!t614)))) else (laws_FnMovedRig.j0 k l0 t600 t607 true)))))))) = some r := h
 clear h
 replace H := Option.bind_eq_some_iff.mp H
 obtain ⟨t599, A20, H⟩ := H
 replace H : (if t599 = true then (some true) else ((spec_DrawRig.f k l0).bind fun t600 => ((spec_DrawTurnRig.f k l0).bind fun bt603 => ((impl_TurnRig.f k t600 bt603.2).bind fun t607 => ((impl_IsRig.f k t607).bind fun t610 => (if t610 = true then ((impl_TurnRig.f k t607 (wrap64 (4 - (Int.tmod bt603.2 4)))).bind fun t611 => ((laws_rigs.f k t611 t600).bind fun t614 => (laws_FnMovedRig.j0 k l0 t600 t607 (!t614)))) else (laws_FnMovedRig.j0 k l0 t600 t607 true))))))) = some r := H
 have A2 := am A20
 clear A20
 by_cases c3 : t599 = true
 ·subst c3
  have H1 : (some true) = some r := by rw [if_pos rfl] at H; exact H
  clear H
  have H := H1
  clear H1
  obtain rfl := Option.some.inj H
  go_enter Try.func10, Try.ntmps10
  go_wp2_with (first | ((with_reducible refine gate_callee (f := 29) rfl ?_); refine goesL_ (some 14) rfl rfl Try.func29 (by kernel_rfl) rfl #[.slice A0 l0.length c0] rfl u15_3 ?_; (with_reducible refine (laws_big.calls _ _ l0 true _ ?side1 ?side2 A2.out).mono ?_); (case side1 => exact y15_6); (case side2 => exact HC0.out); rintro e w' ⟨rfl, ⟨nd, rfl⟩⟩; refine ⟨_, rfl, ?_⟩))
  go_ret
  exact ⟨by first | rfl | (simp [*] <;> rfl), s15_4⟩
 ·replace c3 := Bool.eq_false_iff.mpr c3
  subst c3
  have H1 : ((spec_DrawRig.f k l0).bind fun t600 => ((spec_DrawTurnRig.f k l0).bind fun bt603 => ((impl_TurnRig.f k t600 bt603.2).bind fun t607 => ((impl_IsRig.f k t607).bind fun t610 => (if t610 = true then ((impl_TurnRig.f k t607 (wrap64 (4 - (Int.tmod bt603.2 4)))).bind fun t611 => ((laws_rigs.f k t611 t600).bind fun t614 => (laws_FnMovedRig.j0 k l0 t600 t607 (!t614)))) else (laws_FnMovedRig.j0 k l0 t600 t607 true)))))) = some r := by rw [if_neg (show ¬ (false = true) by decide)] at H; exact H
  clear H
  have H := H1
  clear H1
  replace H := Option.bind_eq_some_iff.mp H
  obtain ⟨t600, A40, H⟩ := H
  replace H : ((spec_DrawTurnRig.f k l0).bind fun bt603 => ((impl_TurnRig.f k t600 bt603.2).bind fun t607 => ((impl_IsRig.f k t607).bind fun t610 => (if t610 = true then ((impl_TurnRig.f k t607 (wrap64 (4 - (Int.tmod bt603.2 4)))).bind fun t611 => ((laws_rigs.f k t611 t600).bind fun t614 => (laws_FnMovedRig.j0 k l0 t600 t607 (!t614)))) else (laws_FnMovedRig.j0 k l0 t600 t607 true))))) = some r := H
  have A4 := am A40
  clear A40
  replace H := Option.bind_eq_some_iff.mp H
  obtain ⟨⟨t603, t604⟩, A50, H⟩ := H
  replace H : ((impl_TurnRig.f k t600 t604).bind fun t607 => ((impl_IsRig.f k t607).bind fun t610 => (if t610 = true then ((impl_TurnRig.f k t607 (wrap64 (4 - (Int.tmod t604 4)))).bind fun t611 => ((laws_rigs.f k t611 t600).bind fun t614 => (laws_FnMovedRig.j0 k l0 t600 t607 (!t614)))) else (laws_FnMovedRig.j0 k l0 t600 t607 true)))) = some r := H
  have A5 := am A50
  clear A50
  replace H := Option.bind_eq_some_iff.mp H
  obtain ⟨t607, A60, H⟩ := H
  replace H : ((impl_IsRig.f k t607).bind fun t610 => (if t610 = true then ((impl_TurnRig.f k t607 (wrap64 (4 - (Int.tmod t604 4)))).bind fun t611 => ((laws_rigs.f k t611 t600).bind fun t614 => (laws_FnMovedRig.j0 k l0 t600 t607 (!t614)))) else (laws_FnMovedRig.j0 k l0 t600 t607 true))) = some r := H
  have A6 := am A60
  clear A60
  have HC7 := am H
  clear H
  go_enter Try.func10, Try.ntmps10
  go_upto_region 6 with (first | ((with_reducible refine gate_callee (f := 29) rfl ?_); refine goesL_ (some 14) rfl rfl Try.func29 (by kernel_rfl) rfl #[.slice A0 l0.length c0] rfl u15_3 ?_; (with_reducible refine (laws_big.calls _ _ l0 false _ ?side1 ?side2 A2.out).mono ?_); (case side1 => exact y15_6); (case side2 => exact HC0.out); rintro e w' ⟨rfl, ⟨nd, rfl⟩⟩; refine ⟨_, rfl, ?_⟩) | ((with_reducible refine gate_callee (f := 47) rfl ?_); refine goesL_ (some 16) rfl rfl Try.func47 (by kernel_rfl) rfl #[.slice A0 l0.length c0] rfl u15_3 ?_; (with_reducible refine (spec_DrawRig.calls k _ _ l0 t600 _ ?side1 ?side2 A4.out).mono ?_); (case side1 => exact y15_6); (case side2 => exact HC0.out); rintro e w8 ⟨v601, rfl, ho0, hb⟩; refine ⟨_, rfl, ?_⟩; have n0_ := am (Kd.R_lower ho0 (below_size u15_0)); have n1_ := am (below_step u15_0 hb); clear HB; have HO602 := n0_; have HB := n1_; clear n0_ n1_; (try clear hb); (try clear hb2); (try clear hk); (try clear hi); (try clear ho0)) | ((with_reducible refine gate_callee (f := 48) rfl ?_); refine goesL_ (some 19) rfl rfl Try.func48 (by kernel_rfl) rfl #[.slice A0 l0.length c0] rfl u15_3 ?_; (with_reducible refine (spec_DrawTurnRig.calls k _ _ l0 t603 t604 _ ?side1 ?side2 A5.out).mono ?_); (case side1 => repeat (first | exact (Kd.C_below HR0.out HB.out) | (with_reducible refine Kd.C_alloc ?_ _) | (with_reducible refine Kd.C_drewN ?_ _) | (with_reducible refine Kd.C_drew ?_))); (case side2 => exact HC0.out); rintro e w9 ⟨v605, rfl, ho0, hb⟩; refine ⟨_, rfl, ?_⟩; have n0_ := am (Kd.R_elder' u15_5 (Kd.Q_base ho0) hb); have n1_ := am (Kd.Q_lower (Kd.Q_new' ho0 (Kd.R_lt u15_5)) (below_size u15_0)); have n2_ := am (below_step u15_0 hb); clear HO602 HB; have HO602 := n0_; have HO606 := n1_; have HB := n2_; clear n0_ n1_ n2_; (try clear hb); (try clear hb2); (try clear hk); (try clear hi); (try clear ho0); obtain ⟨Ao10, co10, eo10⟩ := Kd.R_slice HO602.out; subst eo10) | ((with_reducible refine gate_callee (f := 49) rfl ?_); refine goesL_ (some 24) rfl rfl Try.func49 (by kernel_rfl) rfl #[.slice Ao10 t600.length co10, .int .i64 t604] rfl u15_3 ?_; (with_reducible refine (impl_TurnRig.calls k _ _ t600 t604 t607 _ ?side1 ?side2 A6.out).mono ?_); (case side1 => exact s15_0); (case side2 => exact (Kd.R_reads' HO602.out).2.1); rintro e w11 ⟨v608, rfl, ho0, hb⟩; refine ⟨_, rfl, ?_⟩; have n0_ := am (Kd.R_elder' u15_5 (Kd.R_base ho0) hb); have n1_ := am (Kd.Q_elder' u15_8 (Kd.R_base ho0) hb); have n2_ := am (Kd.R_lower (Kd.R_new' (Kd.R_new' ho0 (Kd.R_lt u15_5)) (Kd.Q_lt u15_8)) (below_size u15_0)); have n3_ := am (below_step u15_0 hb); clear HO602 HO606 HB; have HO602 := n0_; have HO606 := n1_; have HO609 := n2_; have HB := n3_; clear n0_ n1_ n2_ n3_; (try clear hb); (try clear hb2); (try clear hk); (try clear hi); (try clear ho0)))
  (try simp only [Act.put, List.setIfInBounds_toArray, List.set_cons_zero, List.set_cons_succ])
  go_cut [37] (fun v37 wc => ∃ (kq : Nat) (x37_6 : Bool), v37 = .bool x37_6 ∧ Aside0 (laws_FnMovedRig.j0 kq l0 t600 t607 x37_6 = some r) ∧ Aside0 (kq ≤ k) ∧ Aside0 (Kd.R k87 87 wc w.heap.size (fun k_ => some k_ ≠ (v608 : Value).ownBlock) (.slice Ao10 t600.length co10) t600) ∧ Aside0 (Kd.R k87 87 wc w.heap.size (fun k_ => some k_ ≠ ((.slice Ao10 t600.length co10) : Value).ownBlock) v608 t607) ∧ Aside0 (Below w.heap.size w wc))
  case first =>
   have H := HC7.out
   clear HC7
   replace H := Option.bind_eq_some_iff.mp H
   obtain ⟨t610, A120, H⟩ := H
   replace H : (if t610 = true then ((impl_TurnRig.f k t607 (wrap64 (4 - (Int.tmod t604 4)))).bind fun t611 => ((laws_rigs.f k t611 t600).bind fun t614 => (laws_FnMovedRig.j0 k l0 t600 t607 (!t614)))) else (laws_FnMovedRig.j0 k l0 t600 t607 true)) = some r := H
   have A12 := am A120
   clear A120
   by_cases c13 : t610 = true
   ·subst c13
    have H1 : ((impl_TurnRig.f k t607 (wrap64 (4 - (Int.tmod t604 4)))).bind fun t611 => ((laws_rigs.f k t611 t600).bind fun t614 => (laws_FnMovedRig.j0 k l0 t600 t607 (!t614)))) = some r := by rw [if_pos rfl] at H; exact H
    clear H
    have H := H1
    clear H1
    replace H := Option.bind_eq_some_iff.mp H
    obtain ⟨t611, A140, H⟩ := H
    replace H : ((laws_rigs.f k t611 t600).bind fun t614 => (laws_FnMovedRig.j0 k l0 t600 t607 (!t614))) = some r := H
    have A14 := am A140
    clear A140
    replace H := Option.bind_eq_some_iff.mp H
    obtain ⟨t614, A150, H⟩ := H
    replace H : (laws_FnMovedRig.j0 k l0 t600 t607 (!t614)) = some r := H
    have A15 := am A150
    clear A150
    have H' := am H
    clear H
    obtain ⟨Ao16, co16, eo16⟩ := Kd.R_slice HO609.out
    subst eo16
    go_wp2_with (first | ((with_reducible refine gate_callee (f := 50) rfl ?_); refine goesL_ (some 26) rfl rfl Try.func50 (by kernel_rfl) rfl #[.slice Ao16 t607.length co16] rfl u15_3 ?_; (with_reducible refine (impl_IsRig.calls k _ _ t607 true _ ?side1 ?side2 A12.out).mono ?_); (case side1 => exact y15_2); (case side2 => exact (Kd.R_reads' HO609.out).2.1); rintro e w17 ⟨rfl, hb⟩; refine ⟨_, rfl, ?_⟩; have n0_ := am (Kd.R_below u15_5 hb); have n1_ := am (Kd.Q_below u15_8 hb); have n2_ := am (Kd.R_below u15_13 hb); have n3_ := am (below_step u15_0 hb); clear HO602 HO606 HO609 HB; have HO602 := n0_; have HO606 := n1_; have HO609 := n2_; have HB := n3_; clear n0_ n1_ n2_ n3_; (try clear hb); (try clear hb2); (try clear hk); (try clear hi)) | (go_at_call 49; (with_reducible refine (impl_TurnRig.calls k _ _ t607 (wrap64 (4 - (Int.tmod t604 4))) t611 _ ?side1 ?side2 A14.out).mono ?_); (case side1 => exact y15_2); (case side2 => exact (Kd.R_reads' HO609.out).2.1); rintro e w18 ⟨v612, rfl, ho0, hb⟩; have n0_ := am (Kd.R_elder' u15_5 (Kd.R_base ho0) hb); have n1_ := am (Kd.Q_elder' u15_8 (Kd.R_base ho0) hb); have n2_ := am (Kd.R_elder' u15_13 (Kd.R_base ho0) hb); have n3_ := am (Kd.R_lower (Kd.R_new' (Kd.R_new' (Kd.R_new' ho0 (Kd.R_lt u15_5)) (Kd.Q_lt u15_8)) (Kd.R_lt u15_13)) (below_size u15_0)); have n4_ := am (below_step u15_0 hb); clear HO602 HO606 HO609 HB; have HO602 := n0_; have HO606 := n1_; have HO609 := n2_; have HO613 := n3_; have HB := n4_; clear n0_ n1_ n2_ n3_ n4_; (try clear hb); (try clear hb2); (try clear hk); (try clear hi); (try clear ho0); obtain ⟨Ao19, co19, eo19⟩ := Kd.R_slice HO613.out; subst eo19) | (go_at_call 51; (with_reducible refine (laws_rigs.calls k _ _ t611 _ _ t600 t614 _ ?side1 ?side2 ?side3 ?side4 A15.out).mono ?_); (case side1 => repeat (first | exact (Kd.R_reads' HO613.out).2.2 | (with_reducible refine Kd.C_alloc ?_ _) | (with_reducible refine Kd.C_drewN ?_ _) | (with_reducible refine Kd.C_drew ?_))); (case side2 => exact (Kd.R_reads' HO613.out).2.1); (case side3 => exact s15_0); (case side4 => exact (Kd.R_reads' HO602.out).2.1); rintro e w' ⟨rfl, ⟨nd, rfl⟩⟩))
    go_meet
    case rel => exact ⟨_, (!t614), (by first | rfl | (simp; done) | (simp [*]; done)), H', ⟨by first | omega | exact Nat.le_refl _⟩, ⟨by (with_reducible repeat (first | apply Kd.R_alloc | apply Kd.R_drewN | apply Kd.R_drew)); exact Kd.R_mono HO602.out (fun _ hk => hk.1.2)⟩, ⟨by (with_reducible repeat (first | apply Kd.R_alloc | apply Kd.R_drewN | apply Kd.R_drew)); exact Kd.R_mono HO609.out (fun _ hk => hk.1.1.2)⟩, ⟨s15_4⟩⟩
   ·replace c13 := Bool.eq_false_iff.mpr c13
    subst c13
    have H1 : (laws_FnMovedRig.j0 k l0 t600 t607 true) = some r := by rw [if_neg (show ¬ (false = true) by decide)] at H; exact H
    clear H
    have H := H1
    clear H1
    have H' := am H
    clear H
    obtain ⟨Ao20, co20, eo20⟩ := Kd.R_slice HO609.out
    subst eo20
    go_wp2_with (first | ((with_reducible refine gate_callee (f := 50) rfl ?_); refine goesL_ (some 26) rfl rfl Try.func50 (by kernel_rfl) rfl #[.slice Ao20 t607.length co20] rfl u15_3 ?_; (with_reducible refine (impl_IsRig.calls k _ _ t607 false _ ?side1 ?side2 A12.out).mono ?_); (case side1 => exact y15_2); (case side2 => exact (Kd.R_reads' HO609.out).2.1); rintro e w21 ⟨rfl, hb⟩; refine ⟨_, rfl, ?_⟩; have n0_ := am (Kd.R_below u15_5 hb); have n1_ := am (Kd.Q_below u15_8 hb); have n2_ := am (Kd.R_below u15_13 hb); have n3_ := am (below_step u15_0 hb); clear HO602 HO606 HO609 HB; have HO602 := n0_; have HO606 := n1_; have HO609 := n2_; have HB := n3_; clear n0_ n1_ n2_ n3_; (try clear hb); (try clear hb2); (try clear hk); (try clear hi)))
    go_meet
    case rel => exact ⟨_, (true), (by first | rfl | (simp; done) | (simp [*]; done)), H', ⟨by first | omega | exact Nat.le_refl _⟩, ⟨by (with_reducible repeat (first | apply Kd.R_alloc | apply Kd.R_drewN | apply Kd.R_drew)); exact Kd.R_mono HO602.out (fun _ hk => hk.2)⟩, ⟨by (with_reducible repeat (first | apply Kd.R_alloc | apply Kd.R_drewN | apply Kd.R_drew)); exact Kd.R_mono HO609.out (fun _ hk => hk.1.2)⟩, ⟨s15_4⟩⟩
  case rest =>
   clear HC7
   try clear c1
   try clear c2
   try clear p2
   try clear c3
   try clear c4
   try clear c5
   try clear p6
   try clear c10
   try clear c13
   obtain ⟨kq, x37_6, rfl, HA, HJ6, HO_3, HO_6, HB⟩ := hcut
   cases kq with
   | zero => exact absurd HA.out (by simp [laws_FnMovedRig.j0])
   | succ kj6 =>
    have H := HA.out
    clear HA
    simp only [laws_FnMovedRig.j0] at H
    by_cases c22 : x37_6 = true
    ·subst c22
     have H1 : (some false) = some r := by rw [if_pos rfl] at H; exact H
     clear H
     have H := H1
     clear H1
     obtain rfl := Option.some.inj H
     go_wp2
     go_ret
     exact ⟨by first | rfl | (simp [*] <;> rfl), s15_4⟩
    ·replace c22 := Bool.eq_false_iff.mpr c22
     subst c22
     have H1 : ((impl_ShiftRig.f kj6 t607 (l0.length : Int) (-7)).bind fun bt616 => (if bt616.2 = true then ((impl_ShiftRig.f kj6 bt616.1 (wrap64 (-(l0.length : Int))) (-(-7))).bind fun bt620 => (laws_FnMovedRig.l0 kj6 t600 t607 bt616.1 bt620.1 bt620.2 0)) else (some ((bt616.1.length : Int) == 0)))) = some r := by rw [if_neg (show ¬ (false = true) by decide)] at H; exact H
     clear H
     have H := H1
     clear H1
     replace H := Option.bind_eq_some_iff.mp H
     obtain ⟨⟨t616, t619⟩, A230, H⟩ := H
     replace H : (if t619 = true then ((impl_ShiftRig.f kj6 t616 (wrap64 (-(l0.length : Int))) (-(-7))).bind fun bt620 => (laws_FnMovedRig.l0 kj6 t600 t607 t616 bt620.1 bt620.2 0)) else (some ((t616.length : Int) == 0))) = some r := H
     have A23 := am A230
     clear A230
     by_cases c24 : t619 = true
     ·subst c24
      have H1 : ((impl_ShiftRig.f kj6 t616 (wrap64 (-(l0.length : Int))) (-(-7))).bind fun bt620 => (laws_FnMovedRig.l0 kj6 t600 t607 t616 bt620.1 bt620.2 0)) = some r := by rw [if_pos rfl] at H; exact H
      clear H
      have H := H1
      clear H1
      replace H := Option.bind_eq_some_iff.mp H
      obtain ⟨⟨t620, t623⟩, A250, H⟩ := H
      replace H : (laws_FnMovedRig.l0 kj6 t600 t607 t616 t620 t623 0) = some r := H
      have A25 := am A250
      clear A250
      have H' := am H
      clear H
      go_wp2_with (first | ((with_reducible refine gate_dst (N := 7) rfl ?_); refine box_event ?hg (N := 7) ?hd (cs := #[.int .i64 0, .int .i64 0]) (t := 66) ?hr ?_; (case hd => rfl); (case hg => rfl); (case hr => exact gq); intro gb615 hg w26 hbox hb; have n0_ := am (Kd.R_below u15_7 hb); have n1_ := am (Kd.R_below u15_6 hb); have n2_ := am (below_step u15_0 hb); have n3_ := am (hbox); have n4_ := bsw w hg (below_size u15_0); have n5_ := bsw w hg (below_size u15_0); clear HO_3 HO_6 HB; have HO_3 := n0_; have HO_6 := n1_; have HB := n2_; have BK615 := n3_; have GW615 := n4_; have GE615 := n5_; clear n0_ n1_ n2_ n3_ n4_ n5_ hb hbox hg; obtain ⟨hcz27_0, hcz27_1, hfz27_0, hfz27_1⟩ := cf2 BK615.out; obtain ⟨Ao28, co28, eo28⟩ := Kd.R_slice HO_6.out; subst eo28) | ((with_reducible refine gate_callee (f := 52) rfl ?_); refine goesL_ (some 44) rfl rfl Try.func52 (by kernel_rfl) rfl #[.slice Ao28 t607.length co28, .agg #[.int .i64 (l0.length : Int), .int .i64 (-7)]] rfl u15_3 ?_; (with_reducible refine (impl_ShiftRig.calls kj6 _ _ t607 (l0.length : Int) (-7) t616 true _ ?side1 ?side2 A23.out).mono ?_); (case side1 => refine (Kd.R_reads' (e := 87) (base := w.heap.size) (ok := fun k_ => some k_ ≠ (.slice Ao10 t600.length co10 : Value).ownBlock) (n := t607.length) (c := co28) ?_).2.2; exact u15_1); (case side2 => exact (Kd.R_reads' HO_6.out).2.1); rintro e w29 ⟨v617, rfl, ho0, hb⟩; refine ⟨_, rfl, ?_⟩; have n0_ := am (Kd.R_elder' u15_4 (Kd.R_base ho0) hb); have n1_ := am (Kd.R_elder' u15_1 (Kd.R_base ho0) hb); have n2_ := am (Kd.R_lower (Kd.R_new' (Kd.R_new' ho0 (Kd.R_lt u15_4)) (Kd.R_lt u15_1)) (below_size u15_2)); have n3_ := am (blk_below (g := gb615) (o := zo6 (l0.length : Int) (-7)) u15_11 hb); have n4_ := am (below_step u15_2 hb); clear HO_3 HO_6 BK615 HB; have HO_3 := n0_; have HO_6 := n1_; have HO618 := n2_; have BK615 := n3_; have HB := n4_; clear n0_ n1_ n2_ n3_ n4_; (try clear hb); (try clear hb2); (try clear hk); (try clear hi); (try clear ho0); obtain ⟨hcz30_0, hcz30_1, hfz30_0, hfz30_1⟩ := cf2 BK615.out; obtain ⟨Ao31, co31, eo31⟩ := Kd.R_slice HO618.out; subst eo31) | ((with_reducible refine gate_callee (f := 52) rfl ?_); refine goesL_ (some 61) rfl rfl Try.func52 (by kernel_rfl) rfl #[.slice Ao31 t616.length co31, .agg #[.int .i64 (wrap64 (-(l0.length : Int))), .int .i64 (-(-7))]] rfl u15_3 ?_; (with_reducible refine (impl_ShiftRig.calls kj6 _ _ t616 (wrap64 (-(l0.length : Int))) (-(-7)) t620 t623 _ ?side1 ?side2 A25.out).mono ?_); (case side1 => repeat (first | exact (Kd.R_reads' HO618.out).2.2 | (with_reducible refine Kd.C_alloc ?_ _) | (with_reducible refine Kd.C_drewN ?_ _) | (with_reducible refine Kd.C_drew ?_))); (case side2 => exact (Kd.R_reads' HO618.out).2.1); rintro e w32 ⟨v621, rfl, ho0, hb⟩; refine ⟨_, rfl, ?_⟩; have n0_ := am (Kd.R_elder' u15_7 (Kd.R_base ho0) hb); have n1_ := am (Kd.R_elder' u15_6 (Kd.R_base ho0) hb); have n2_ := am (Kd.R_elder' (by (with_reducible repeat (first | apply Kd.R_alloc | apply Kd.R_drewN | apply Kd.R_drew)); exact HO618.out) (Kd.R_base ho0) hb); have n3_ := am (Kd.R_lower (Kd.R_new' (Kd.R_new' (Kd.R_new' ho0 (Kd.R_lt u15_7)) (Kd.R_lt u15_6)) (Kd.R_lt (by (with_reducible repeat (first | apply Kd.R_alloc | apply Kd.R_drewN | apply Kd.R_drew)); exact HO618.out))) (below_size u15_2)); have n4_ := am (blk_below (g := gb615) (o := zo6 (l0.length : Int) (-7)) u15_9 hb); have n5_ := am (below_step u15_2 hb); clear HO_3 HO_6 HO618 BK615 HB; have HO_3 := n0_; have HO_6 := n1_; have HO618 := n2_; have HO622 := n3_; have BK615 := n4_; have HB := n5_; clear n0_ n1_ n2_ n3_ n4_ n5_; (try clear hb); (try clear hb2); (try clear hk); (try clear hi); (try clear ho0)))
      go_loopg [12] kj6 (fun kq v12 w' => ∃ (x12_2 : Int), v12 = .int .i64 x12_2 ∧ Aside0 (laws_FnMovedRig.l0 kq t600 t607 t616 t620 t623 x12_2 = some r) ∧ Aside0 (kq ≤ kj6) ∧ Aside0 (Kd.R k87 87 w' w.heap.size (fun k_ => some k_ ≠ ((.slice Ao28 t607.length co28) : Value).ownBlock ∧ some k_ ≠ ((.slice Ao31 t616.length co31) : Value).ownBlock ∧ some k_ ≠ (v621 : Value).ownBlock) (.slice Ao10 t600.length co10) t600) ∧ Aside0 (Kd.R k87 87 w' w.heap.size (fun k_ => some k_ ≠ ((.slice Ao10 t600.length co10) : Value).ownBlock ∧ some k_ ≠ ((.slice Ao31 t616.length co31) : Value).ownBlock ∧ some k_ ≠ (v621 : Value).ownBlock) (.slice Ao28 t607.length co28) t607) ∧ Aside0 (Kd.R k87 87 w' w.heap.size (fun k_ => some k_ ≠ ((.slice Ao10 t600.length co10) : Value).ownBlock ∧ some k_ ≠ ((.slice Ao28 t607.length co28) : Value).ownBlock ∧ some k_ ≠ (v621 : Value).ownBlock) (.slice Ao31 t616.length co31) t616) ∧ Aside0 (Kd.R k87 87 w' w.heap.size (fun k_ => some k_ ≠ ((.slice Ao10 t600.length co10) : Value).ownBlock ∧ some k_ ≠ ((.slice Ao28 t607.length co28) : Value).ownBlock ∧ some k_ ≠ ((.slice Ao31 t616.length co31) : Value).ownBlock) v621 t620) ∧ Aside0 (w'.heap[gb615]? = some (.cells #[.int .i64 (l0.length : Int), .int .i64 (-7)] 66 (0, 0))) ∧ Aside0 (Below w.heap.size w w'))
      case atStart => exact ⟨(0), (by first | rfl | (simp; done) | (simp [*]; done)), H', ⟨Nat.le_refl _⟩, ⟨by (with_reducible repeat (first | apply Kd.R_alloc | apply Kd.R_drewN | apply Kd.R_drew)); exact Kd.R_mono HO_3.out (fun _ hk => ⟨hk.1.1, ⟨hk.1.2, hk.2⟩⟩)⟩, ⟨by (with_reducible repeat (first | apply Kd.R_alloc | apply Kd.R_drewN | apply Kd.R_drew)); exact Kd.R_mono HO_6.out (fun _ hk => ⟨hk.1.1, ⟨hk.1.2, hk.2⟩⟩)⟩, ⟨by (with_reducible repeat (first | apply Kd.R_alloc | apply Kd.R_drewN | apply Kd.R_drew)); exact Kd.R_mono HO618.out (fun _ hk => ⟨hk.1.1.2, ⟨hk.1.2, hk.2⟩⟩)⟩, ⟨by (with_reducible repeat (first | apply Kd.R_alloc | apply Kd.R_drewN | apply Kd.R_drew)); exact Kd.R_mono HO622.out (fun _ hk => ⟨hk.1.1.2, ⟨hk.1.2, hk.2⟩⟩)⟩, ⟨by (with_reducible repeat (first | refine blk_drewN ?_ _ | refine blk_drew ?_ | refine blk_alloc ?_ _)); exact BK615.out⟩, ⟨s15_3⟩⟩
      case round =>
       clear H'
       try clear c1
       try clear c2
       try clear p2
       try clear c3
       try clear c4
       try clear c5
       try clear p6
       try clear c10
       try clear c13
       try clear c22
       try clear c24
       try clear c29
       try clear hcz27_0
       try clear hcz27_1
       try clear hcz30_0
       try clear hcz30_1
       try clear hfz27_0
       try clear hfz27_1
       try clear hfz30_0
       try clear hfz30_1
       try clear p2
       try clear p6
       obtain ⟨x12_2, rfl, HA, HK2, HO_3, HO_6, HO_8, HO_10, BK615, HB⟩ := hrel
       cases gk with
       | zero => exact absurd HA.out (by simp [laws_FnMovedRig.l0])
       | succ k2 =>
        have H := HA.out
        clear HA
        simp only [laws_FnMovedRig.l0] at H
        by_cases c33 : x12_2 < (t600.length : Int)
        ·rw [if_pos c33] at H
         have c33b0 : decide (x12_2 < (t600.length : Int)) = true := decide_eq_true c33
         clear c33
         by_cases c34 : 0 ≤ x12_2
         ·rw [if_pos c34] at H
          have c34b0 : decide (0 ≤ x12_2) = true := decide_eq_true c34
          clear c34
          by_cases c35 : x12_2 < (t616.length : Int)
          ·rw [if_pos c35] at H
           have c35b0 : decide (x12_2 < (t616.length : Int)) = true := decide_eq_true c35
           clear c35
           by_cases c36 : ((rd_T87 t616 x12_2).f0).toList = ((rd_T87 t600 x12_2).f0).toList
           ·rw [if_pos c36] at H
            have c36b0 : (((rd_T87 t616 x12_2).f0).toList == ((rd_T87 t600 x12_2).f0).toList) = true := beq_iff_eq.mpr c36
            have c36b1 : (((rd_T87 t616 x12_2).f0).toList != ((rd_T87 t600 x12_2).f0).toList) = false := bne_eq_false_iff_eq.mpr c36
            clear c36
            by_cases c37 : ((rd_T87 t616 x12_2).f2).toList = ((rd_T87 t600 x12_2).f2).toList
            ·rw [if_pos c37] at H
             have c37b0 : (((rd_T87 t616 x12_2).f2).toList == ((rd_T87 t600 x12_2).f2).toList) = true := beq_iff_eq.mpr c37
             have c37b1 : (((rd_T87 t616 x12_2).f2).toList != ((rd_T87 t600 x12_2).f2).toList) = false := bne_eq_false_iff_eq.mpr c37
             clear c37
             replace H := Option.bind_eq_some_iff.mp H
             obtain ⟨t630, A380, H⟩ := H
             replace H : ((impl_PumpOf.f k2 t600 ((rd_T87 t600 x12_2).f0)).bind fun t632 => (if t630.toList = t632.toList then (laws_FnMovedRig.l0 k2 t600 t607 t616 t620 t623 (wrap64 (x12_2 + 1))) else (some false))) = some r := H
             have A38 := am A380
             clear A380
             replace H := Option.bind_eq_some_iff.mp H
             obtain ⟨t632, A390, H⟩ := H
             replace H : (if t630.toList = t632.toList then (laws_FnMovedRig.l0 k2 t600 t607 t616 t620 t623 (wrap64 (x12_2 + 1))) else (some false)) = some r := H
             have A39 := am A390
             clear A390
             by_cases c40 : t630.toList = t632.toList
             ·rw [if_pos c40] at H
              have c40b0 : (t630.toList == t632.toList) = true := beq_iff_eq.mpr c40
              have c40b1 : (t630.toList != t632.toList) = false := bne_eq_false_iff_eq.mpr c40
              clear c40
              have H' := am H
              clear H
              try go_wp2
              have n0_ := am (Kd.R_drew HO_3.out)
              have n1_ := am (Kd.R_drew HO_6.out)
              have n2_ := am (Kd.R_drew HO_8.out)
              have n3_ := am (Kd.R_drew HO_10.out)
              have n4_ := am (blk_drew BK615.out)
              have n5_ := am (below_drew1 HB.out)
              clear HO_3 HO_6 HO_8 HO_10 BK615 HB
              have HO_3 := n0_
              have HO_6 := n1_
              have HO_8 := n2_
              have HO_10 := n3_
              have BK615 := n4_
              have HB := n5_
              clear n0_ n1_ n2_ n3_ n4_ n5_
              have p625 : 0 ≤ (x12_2 : Int) := od u15_10
              have q625 : x12_2 < (t616.length : Int) := od u15_10
              obtain ⟨ad625, e625, hx625_0, hx625_1, hx625_2, hx625_3, hx625_4, hx625_5, hx625_6, hx625_7⟩ := at_T87 (Kd.R_reads' HO_8.out).2.2 x12_2 p625 q625
              cases e625
              replace p625 := eq_true p625
              replace q625 := eq_true q625
              have p626 : 0 ≤ (x12_2 : Int) := od u15_10
              have q626 : x12_2 < (t600.length : Int) := od u15_10
              obtain ⟨ad626, e626, hx626_0, hx626_1, hx626_2, hx626_3, hx626_4, hx626_5, hx626_6, hx626_7⟩ := at_T87 (Kd.R_reads' HO_3.out).2.2 x12_2 p626 q626
              cases e626
              replace p626 := eq_true p626
              replace q626 := eq_true q626
              have p627 : 0 ≤ (x12_2 : Int) := od u15_10
              have q627 : x12_2 < (t616.length : Int) := od u15_10
              obtain ⟨ad627, e627, hx627_0, hx627_1, hx627_2, hx627_3, hx627_4, hx627_5, hx627_6, hx627_7⟩ := at_T87 (Kd.R_reads' HO_8.out).2.2 x12_2 p627 q627
              obtain rfl : ad625 = ad627 := (by injection e627)
              replace p627 := eq_true p627
              replace q627 := eq_true q627
              have p628 : 0 ≤ (x12_2 : Int) := od u15_10
              have q628 : x12_2 < (t600.length : Int) := od u15_10
              obtain ⟨ad628, e628, hx628_0, hx628_1, hx628_2, hx628_3, hx628_4, hx628_5, hx628_6, hx628_7⟩ := at_T87 (Kd.R_reads' HO_3.out).2.2 x12_2 p628 q628
              obtain rfl : ad626 = ad628 := (by injection e628)
              replace p628 := eq_true p628
              replace q628 := eq_true q628
              have p629 : 0 ≤ (x12_2 : Int) := od u15_10
              have q629 : x12_2 < (t616.length : Int) := od u15_10
              obtain ⟨ad629, e629, hx629_0, hx629_1, hx629_2, hx629_3, hx629_4, hx629_5, hx629_6, hx629_7⟩ := at_T87 (Kd.R_reads' HO_8.out).2.2 x12_2 p629 q629
              obtain rfl : ad625 = ad629 := (by injection e629)
              replace p629 := eq_true p629
              replace q629 := eq_true q629
              have p631 : 0 ≤ (x12_2 : Int) := od u15_10
              have q631 : x12_2 < (t600.length : Int) := od u15_10
              obtain ⟨ad631, e631, hx631_0, hx631_1, hx631_2, hx631_3, hx631_4, hx631_5, hx631_6, hx631_7⟩ := at_T87 (Kd.R_reads' HO_3.out).2.2 x12_2 p631 q631
              obtain rfl : ad626 = ad631 := (by injection e631)
              replace p631 := eq_true p631
              replace q631 := eq_true q631
              refine start_ (n := 41) (S := fun w' => zc12 w' (ad625.add ((x12_2).toNat * 8)) (rd_T87 t616 x12_2) (zc12 w' (ad626.add ((x12_2).toNat * 8)) (rd_T87 t600 x12_2) (zc12 w' (ad625.add ((x12_2).toNat * 8)) (rd_T87 t616 x12_2) (zc12 w' (ad626.add ((x12_2).toNat * 8)) (rd_T87 t600 x12_2) (zc12 w' (ad625.add ((x12_2).toNat * 8)) (rd_T87 t616 x12_2) (zc2 w' (ad626.add ((x12_2).toNat * 8)) (rd_T87 t600 x12_2))))))) (ds := []) mk15_0 (by kernel_rfl) rfl rfl ⟨hx625_0, hx625_1, hx625_2, hx625_3, hx625_4, hx625_5, hx625_6, hx625_7, hx626_0, hx626_1, hx626_2, hx626_3, hx626_4, hx626_5, hx626_6, hx626_7, hx627_0, hx627_1, hx627_2, hx627_3, hx627_4, hx627_5, hx627_6, hx627_7, hx628_0, hx628_1, hx628_2, hx628_3, hx628_4, hx628_5, hx628_6, hx628_7, hx629_0, hx629_1, hx629_2, hx629_3, hx629_4, hx629_5, hx629_6, hx629_7, hx631_0, hx631_1, hx631_2, hx631_3, hx631_4, hx631_5, hx631_6, hx631_7⟩ (fun hHeld => ?_); refine with_tabW laws_FnMovedRig.tab16 laws_FnMovedRig.bits16 (fun HT_ HW_ => ?_)
              generalize wr.drew = w41 at HO_3 HO_6 HO_8 HO_10 BK615 HB hx625_0 hx625_1 hx625_2 hx625_3 hx625_4 hx625_5 hx625_6 hx625_7 hx626_0 hx626_1 hx626_2 hx626_3 hx626_4 hx626_5 hx626_6 hx626_7 hx627_0 hx627_1 hx627_2 hx627_3 hx627_4 hx627_5 hx627_6 hx627_7 hx628_0 hx628_1 hx628_2 hx628_3 hx628_4 hx628_5 hx628_6 hx628_7 hx629_0 hx629_1 hx629_2 hx629_3 hx629_4 hx629_5 hx629_6 hx629_7 hx631_0 hx631_1 hx631_2 hx631_3 hx631_4 hx631_5 hx631_6 hx631_7 hHeld ⊢
              refine pz 0 70 mk15_1 (any_of HT_.out (by kernel_rfl)) ?_
              refine pz 1 71 mk15_2 (any_of HT_.out (by kernel_rfl)) ?_
              refine pz 2 72 mk15_3 (any_of HT_.out (by kernel_rfl)) ?_
              refine pz 3 73 mk15_4 (any_of HT_.out (by kernel_rfl)) ?_
              refine pz 5 75 mk15_5 (any_of HT_.out (by kernel_rfl)) ?_
              refine pz 6 76 mk15_6 (any_of HT_.out (by kernel_rfl)) ?_
              refine pz 7 77 mk15_7 (any_of HT_.out (by kernel_rfl)) ?_
              refine pz 8 78 mk15_8 (any_of HT_.out (by kernel_rfl)) ?_
              refine take_ (i := 4) (N := some 74) (v := ?_) (a' := ?_) mk15_9 rfl rfl (take_ofW HT_.out HW_.out (by kernel_rfl)) (fun _ _ _ h => h) (Or.inl ⟨by rfl, ?_⟩) hHeld ?_ ?_
              rotate_left
              ·rintro w' ⟨s0, s1, s2, s3, s4, s5, s6, s7, s8, s9, s10, s11, s12, s13, s14, s15, s16, s17, s18, s19, s20, s21, s22, s23, s24, s25, s26, s27, s28, s29, s30, s31, s32, s33, s34, s35, s36, s37, s38, s39, s40, s41, s42, s43, s44, s45, s46, s47⟩
               exact gs
              rotate_left
              ·exact ap
              refine take_ (i := 9) (N := some 79) (v := ?_) (a' := ?_) mk15_10 rfl rfl (take_ofW HT_.out HW_.out (by kernel_rfl)) (fun _ _ _ h => h) (Or.inl ⟨by rfl, ?_⟩) hHeld ?_ ?_
              rotate_left
              ·rintro w' ⟨s0, s1, s2, s3, s4, s5, s6, s7, s8, s9, s10, s11, s12, s13, s14, s15, s16, s17, s18, s19, s20, s21, s22, s23, s24, s25, s26, s27, s28, s29, s30, s31, s32, s33, s34, s35, s36, s37, s38, s39, s40, s41, s42, s43, s44, s45, s46, s47⟩
               exact gs
              rotate_left
              ·exact ap
              refine pz 10 80 mk15_11 (any_of HT_.out (by kernel_rfl)) ?_
              refine pz 11 81 mk15_12 (any_of HT_.out (by kernel_rfl)) ?_
              refine pz 12 82 mk15_13 (any_of HT_.out (by kernel_rfl)) ?_
              refine pz 13 83 mk15_14 (any_of HT_.out (by kernel_rfl)) ?_
              refine pz 14 84 mk15_15 (any_of HT_.out (by kernel_rfl)) ?_
              refine pz 15 85 mk15_16 (any_of HT_.out (by kernel_rfl)) ?_
              refine pz 17 87 mk15_17 (any_of HT_.out (by kernel_rfl)) ?_
              refine pz 18 88 mk15_18 (any_of HT_.out (by kernel_rfl)) ?_
              refine pz 19 89 mk15_19 (any_of HT_.out (by kernel_rfl)) ?_
              refine pz 20 90 mk15_20 (any_of HT_.out (by kernel_rfl)) ?_
              refine take_ (i := 16) (N := some 86) (v := ?_) (a' := ?_) mk15_25 rfl rfl (take_ofW HT_.out HW_.out (by kernel_rfl)) (fun _ _ _ h => h) (Or.inl ⟨by rfl, ?_⟩) hHeld ?_ ?_
              rotate_left
              ·rintro w' ⟨s0, s1, s2, s3, s4, s5, s6, s7, s8, s9, s10, s11, s12, s13, s14, s15, s16, s17, s18, s19, s20, s21, s22, s23, s24, s25, s26, s27, s28, s29, s30, s31, s32, s33, s34, s35, s36, s37, s38, s39, s40, s41, s42, s43, s44, s45, s46, s47⟩
               exact gs
              rotate_left
              ·exact ap
              refine take_ (i := 21) (N := some 91) (v := ?_) (a' := ?_) mk15_26 rfl rfl (take_ofW HT_.out HW_.out (by kernel_rfl)) (fun _ _ _ h => h) (Or.inl ⟨by rfl, ?_⟩) hHeld ?_ ?_
              rotate_left
              ·rintro w' ⟨s0, s1, s2, s3, s4, s5, s6, s7, s8, s9, s10, s11, s12, s13, s14, s15, s16, s17, s18, s19, s20, s21, s22, s23, s24, s25, s26, s27, s28, s29, s30, s31, s32, s33, s34, s35, s36, s37, s38, s39, s40, s41, s42, s43, s44, s45, s46, s47⟩
               exact gs
              rotate_left
              ·exact ap
              refine pz 22 92 mk15_27 (any_of HT_.out (by kernel_rfl)) ?_
              refine pz 23 93 mk15_28 (any_of HT_.out (by kernel_rfl)) ?_
              refine pz 24 94 mk15_29 (any_of HT_.out (by kernel_rfl)) ?_
              refine pz 25 95 mk15_30 (any_of HT_.out (by kernel_rfl)) ?_
              refine pz 26 96 mk15_31 (any_of HT_.out (by kernel_rfl)) ?_
              refine pz 27 97 mk15_32 (any_of HT_.out (by kernel_rfl)) ?_
              refine pz 28 98 mk15_33 (any_of HT_.out (by kernel_rfl)) ?_
              refine pz 29 99 mk15_34 (any_of HT_.out (by kernel_rfl)) ?_
              refine pz 32 102 mk15_35 (any_of HT_.out (by kernel_rfl)) ?_
              refine pz 33 103 mk15_36 (any_of HT_.out (by kernel_rfl)) ?_
              refine pz 34 104 mk15_37 (any_of HT_.out (by kernel_rfl)) ?_
              refine pz 35 105 mk15_38 (any_of HT_.out (by kernel_rfl)) ?_
              refine pz 36 106 mk15_39 (any_of HT_.out (by kernel_rfl)) ?_
              refine take_ (i := 30) (N := some 100) (v := ?_) (a' := ?_) mk15_41 rfl rfl (take_ofW HT_.out HW_.out (by kernel_rfl)) (fun _ _ _ h => h) (Or.inl ⟨by rfl, ?_⟩) hHeld ?_ ?_
              rotate_left
              ·rintro w' ⟨s0, s1, s2, s3, s4, s5, s6, s7, s8, s9, s10, s11, s12, s13, s14, s15, s16, s17, s18, s19, s20, s21, s22, s23, s24, s25, s26, s27, s28, s29, s30, s31, s32, s33, s34, s35, s36, s37, s38, s39, s40, s41, s42, s43, s44, s45, s46, s47⟩
               exact gs
              rotate_left
              ·exact ap
              refine take_ (i := 37) (N := some 107) (v := ?_) (a' := ?_) mk15_42 rfl rfl (take_ofW HT_.out HW_.out (by kernel_rfl)) (fun _ _ _ h => h) (Or.inl ⟨by rfl, ?_⟩) hHeld ?_ ?_
              rotate_left
              ·rintro w' ⟨s0, s1, s2, s3, s4, s5, s6, s7, s8, s9, s10, s11, s12, s13, s14, s15, s16, s17, s18, s19, s20, s21, s22, s23, s24, s25, s26, s27, s28, s29, s30, s31, s32, s33, s34, s35, s36, s37, s38, s39, s40, s41, s42, s43, s44, s45, s46, s47⟩
               exact gs
              rotate_left
              ·exact ap
              refine one_ (i := 31) (N := some 101) mk15_49 rfl rfl (one_of HT_.out (by kernel_rfl)) (by decide) (fun K hK => ?_)
              refine goes_ Try.func53 (by kernel_rfl) rfl #[.slice (some ad625) t616.length co31, .string ((rd_T87 t616 x12_2).f0)] (by rfl) rfl rfl u15_3 ?_
              with_reducible refine (impl_PumpOf.calls k2 _ _ t616 ((rd_T87 t616 x12_2).f0) t630 _ ?side1 ?side2 A38.out).mono ?_
              (case side1 => exact s15_1)
              (case side2 => exact (Kd.R_reads' HO_8.out).2.1)
              rintro e w42 ⟨rfl, hb⟩
              have HS0_ := (hb.cell (World.block_lt_of_cell? _ _ (hHeld.1))).trans (hHeld.1)
              have HS1_ := (hb.cell (World.block_lt_of_cell? _ _ (hHeld.2.1))).trans (hHeld.2.1)
              have HS2_ := (hb.cell (World.block_lt_of_cell? _ _ (hHeld.2.2.1))).trans (hHeld.2.2.1)
              have HS3_ := (hb.cell (World.block_lt_of_cell? _ _ (hHeld.2.2.2.1))).trans (hHeld.2.2.2.1)
              have HS4_ := (hb.cell (World.block_lt_of_cell? _ _ (hHeld.2.2.2.2.1))).trans (hHeld.2.2.2.2.1)
              have HS5_ := (hb.cell (World.block_lt_of_cell? _ _ (hHeld.2.2.2.2.2.1))).trans (hHeld.2.2.2.2.2.1)
              have HS6_ := (hb.cell (World.block_lt_of_cell? _ _ (hHeld.2.2.2.2.2.2.1))).trans (hHeld.2.2.2.2.2.2.1)
              have HS7_ := (hb.cell (World.block_lt_of_cell? _ _ (hHeld.2.2.2.2.2.2.2.1))).trans (hHeld.2.2.2.2.2.2.2.1)
              have HS8_ := (hb.cell (World.block_lt_of_cell? _ _ (hHeld.2.2.2.2.2.2.2.2.1))).trans (hHeld.2.2.2.2.2.2.2.2.1)
              have HS9_ := (hb.cell (World.block_lt_of_cell? _ _ (hHeld.2.2.2.2.2.2.2.2.2.1))).trans (hHeld.2.2.2.2.2.2.2.2.2.1)
              have HS10_ := (hb.cell (World.block_lt_of_cell? _ _ (hHeld.2.2.2.2.2.2.2.2.2.2.1))).trans (hHeld.2.2.2.2.2.2.2.2.2.2.1)
              have HS11_ := (hb.cell (World.block_lt_of_cell? _ _ (hHeld.2.2.2.2.2.2.2.2.2.2.2.1))).trans (hHeld.2.2.2.2.2.2.2.2.2.2.2.1)
              have HS12_ := (hb.cell (World.block_lt_of_cell? _ _ (hHeld.2.2.2.2.2.2.2.2.2.2.2.2.1))).trans (hHeld.2.2.2.2.2.2.2.2.2.2.2.2.1)
              have HS13_ := (hb.cell (World.block_lt_of_cell? _ _ (hHeld.2.2.2.2.2.2.2.2.2.2.2.2.2.1))).trans (hHeld.2.2.2.2.2.2.2.2.2.2.2.2.2.1)
              have HS14_ := (hb.cell (World.block_lt_of_cell? _ _ (hHeld.2.2.2.2.2.2.2.2.2.2.2.2.2.2.1))).trans (hHeld.2.2.2.2.2.2.2.2.2.2.2.2.2.2.1)
              have HS15_ := (hb.cell (World.block_lt_of_cell? _ _ (hHeld.2.2.2.2.2.2.2.2.2.2.2.2.2.2.2.1))).trans (hHeld.2.2.2.2.2.2.2.2.2.2.2.2.2.2.2.1)
              have HS16_ := (hb.cell (World.block_lt_of_cell? _ _ (hHeld.2.2.2.2.2.2.2.2.2.2.2.2.2.2.2.2.1))).trans (hHeld.2.2.2.2.2.2.2.2.2.2.2.2.2.2.2.2.1)
              have HS17_ := (hb.cell (World.block_lt_of_cell? _ _ (hHeld.2.2.2.2.2.2.2.2.2.2.2.2.2.2.2.2.2.1))).trans (hHeld.2.2.2.2.2.2.2.2.2.2.2.2.2.2.2.2.2.1)
              have HS18_ := (hb.cell (World.block_lt_of_cell? _ _ (hHeld.2.2.2.2.2.2.2.2.2.2.2.2.2.2.2.2.2.2.1))).trans (hHeld.2.2.2.2.2.2.2.2.2.2.2.2.2.2.2.2.2.2.1)
              have HS19_ := (hb.cell (World.block_lt_of_cell? _ _ (hHeld.2.2.2.2.2.2.2.2.2.2.2.2.2.2.2.2.2.2.2.1))).trans (hHeld.2.2.2.2.2.2.2.2.2.2.2.2.2.2.2.2.2.2.2.1)
              have HS20_ := (hb.cell (World.block_lt_of_cell? _ _ (hHeld.2.2.2.2.2.2.2.2.2.2.2.2.2.2.2.2.2.2.2.2.1))).trans (hHeld.2.2.2.2.2.2.2.2.2.2.2.2.2.2.2.2.2.2.2.2.1)
              have HS21_ := (hb.cell (World.block_lt_of_cell? _ _ (hHeld.2.2.2.2.2.2.2.2.2.2.2.2.2.2.2.2.2.2.2.2.2.1))).trans (hHeld.2.2.2.2.2.2.2.2.2.2.2.2.2.2.2.2.2.2.2.2.2.1)
              have HS22_ := (hb.cell (World.block_lt_of_cell? _ _ (hHeld.2.2.2.2.2.2.2.2.2.2.2.2.2.2.2.2.2.2.2.2.2.2.1))).trans (hHeld.2.2.2.2.2.2.2.2.2.2.2.2.2.2.2.2.2.2.2.2.2.2.1)
              have HS23_ := (hb.cell (World.block_lt_of_cell? _ _ (hHeld.2.2.2.2.2.2.2.2.2.2.2.2.2.2.2.2.2.2.2.2.2.2.2.1))).trans (hHeld.2.2.2.2.2.2.2.2.2.2.2.2.2.2.2.2.2.2.2.2.2.2.2.1)
              have HS24_ := (hb.cell (World.block_lt_of_cell? _ _ (hHeld.2.2.2.2.2.2.2.2.2.2.2.2.2.2.2.2.2.2.2.2.2.2.2.2.1))).trans (hHeld.2.2.2.2.2.2.2.2.2.2.2.2.2.2.2.2.2.2.2.2.2.2.2.2.1)
              have HS25_ := (hb.cell (World.block_lt_of_cell? _ _ (hHeld.2.2.2.2.2.2.2.2.2.2.2.2.2.2.2.2.2.2.2.2.2.2.2.2.2.1))).trans (hHeld.2.2.2.2.2.2.2.2.2.2.2.2.2.2.2.2.2.2.2.2.2.2.2.2.2.1)
              have HS26_ := (hb.cell (World.block_lt_of_cell? _ _ (hHeld.2.2.2.2.2.2.2.2.2.2.2.2.2.2.2.2.2.2.2.2.2.2.2.2.2.2.1))).trans (hHeld.2.2.2.2.2.2.2.2.2.2.2.2.2.2.2.2.2.2.2.2.2.2.2.2.2.2.1)
              have HS27_ := (hb.cell (World.block_lt_of_cell? _ _ (hHeld.2.2.2.2.2.2.2.2.2.2.2.2.2.2.2.2.2.2.2.2.2.2.2.2.2.2.2.1))).trans (hHeld.2.2.2.2.2.2.2.2.2.2.2.2.2.2.2.2.2.2.2.2.2.2.2.2.2.2.2.1)
              have HS28_ := (hb.cell (World.block_lt_of_cell? _ _ (hHeld.2.2.2.2.2.2.2.2.2.2.2.2.2.2.2.2.2.2.2.2.2.2.2.2.2.2.2.2.1))).trans (hHeld.2.2.2.2.2.2.2.2.2.2.2.2.2.2.2.2.2.2.2.2.2.2.2.2.2.2.2.2.1)
              have HS29_ := (hb.cell (World.block_lt_of_cell? _ _ (hHeld.2.2.2.2.2.2.2.2.2.2.2.2.2.2.2.2.2.2.2.2.2.2.2.2.2.2.2.2.2.1))).trans (hHeld.2.2.2.2.2.2.2.2.2.2.2.2.2.2.2.2.2.2.2.2.2.2.2.2.2.2.2.2.2.1)
              have HS30_ := (hb.cell (World.block_lt_of_cell? _ _ (hHeld.2.2.2.2.2.2.2.2.2.2.2.2.2.2.2.2.2.2.2.2.2.2.2.2.2.2.2.2.2.2.1))).trans (hHeld.2.2.2.2.2.2.2.2.2.2.2.2.2.2.2.2.2.2.2.2.2.2.2.2.2.2.2.2.2.2.1)
              have HS31_ := (hb.cell (World.block_lt_of_cell? _ _ (hHeld.2.2.2.2.2.2.2.2.2.2.2.2.2.2.2.2.2.2.2.2.2.2.2.2.2.2.2.2.2.2.2.1))).trans (hHeld.2.2.2.2.2.2.2.2.2.2.2.2.2.2.2.2.2.2.2.2.2.2.2.2.2.2.2.2.2.2.2.1)
              have HS32_ := (hb.cell (World.block_lt_of_cell? _ _ (hHeld.2.2.2.2.2.2.2.2.2.2.2.2.2.2.2.2.2.2.2.2.2.2.2.2.2.2.2.2.2.2.2.2.1))).trans (hHeld.2.2.2.2.2.2.2.2.2.2.2.2.2.2.2.2.2.2.2.2.2.2.2.2.2.2.2.2.2.2.2.2.1)
              have HS33_ := (hb.cell (World.block_lt_of_cell? _ _ (hHeld.2.2.2.2.2.2.2.2.2.2.2.2.2.2.2.2.2.2.2.2.2.2.2.2.2.2.2.2.2.2.2.2.2.1))).trans (hHeld.2.2.2.2.2.2.2.2.2.2.2.2.2.2.2.2.2.2.2.2.2.2.2.2.2.2.2.2.2.2.2.2.2.1)
              have HS34_ := (hb.cell (World.block_lt_of_cell? _ _ (hHeld.2.2.2.2.2.2.2.2.2.2.2.2.2.2.2.2.2.2.2.2.2.2.2.2.2.2.2.2.2.2.2.2.2.2.1))).trans (hHeld.2.2.2.2.2.2.2.2.2.2.2.2.2.2.2.2.2.2.2.2.2.2.2.2.2.2.2.2.2.2.2.2.2.2.1)
              have HS35_ := (hb.cell (World.block_lt_of_cell? _ _ (hHeld.2.2.2.2.2.2.2.2.2.2.2.2.2.2.2.2.2.2.2.2.2.2.2.2.2.2.2.2.2.2.2.2.2.2.2.1))).trans (hHeld.2.2.2.2.2.2.2.2.2.2.2.2.2.2.2.2.2.2.2.2.2.2.2.2.2.2.2.2.2.2.2.2.2.2.2.1)
              have HS36_ := (hb.cell (World.block_lt_of_cell? _ _ (hHeld.2.2.2.2.2.2.2.2.2.2.2.2.2.2.2.2.2.2.2.2.2.2.2.2.2.2.2.2.2.2.2.2.2.2.2.2.1))).trans (hHeld.2.2.2.2.2.2.2.2.2.2.2.2.2.2.2.2.2.2.2.2.2.2.2.2.2.2.2.2.2.2.2.2.2.2.2.2.1)
              have HS37_ := (hb.cell (World.block_lt_of_cell? _ _ (hHeld.2.2.2.2.2.2.2.2.2.2.2.2.2.2.2.2.2.2.2.2.2.2.2.2.2.2.2.2.2.2.2.2.2.2.2.2.2.1))).trans (hHeld.2.2.2.2.2.2.2.2.2.2.2.2.2.2.2.2.2.2.2.2.2.2.2.2.2.2.2.2.2.2.2.2.2.2.2.2.2.1)
              have HS38_ := (hb.cell (World.block_lt_of_cell? _ _ (hHeld.2.2.2.2.2.2.2.2.2.2.2.2.2.2.2.2.2.2.2.2.2.2.2.2.2.2.2.2.2.2.2.2.2.2.2.2.2.2.1))).trans (hHeld.2.2.2.2.2.2.2.2.2.2.2.2.2.2.2.2.2.2.2.2.2.2.2.2.2.2.2.2.2.2.2.2.2.2.2.2.2.2.1)
              have HS39_ := (hb.cell (World.block_lt_of_cell? _ _ (hHeld.2.2.2.2.2.2.2.2.2.2.2.2.2.2.2.2.2.2.2.2.2.2.2.2.2.2.2.2.2.2.2.2.2.2.2.2.2.2.2.1))).trans (hHeld.2.2.2.2.2.2.2.2.2.2.2.2.2.2.2.2.2.2.2.2.2.2.2.2.2.2.2.2.2.2.2.2.2.2.2.2.2.2.2.1)
              have HS40_ := (hb.cell (World.block_lt_of_cell? _ _ (hHeld.2.2.2.2.2.2.2.2.2.2.2.2.2.2.2.2.2.2.2.2.2.2.2.2.2.2.2.2.2.2.2.2.2.2.2.2.2.2.2.2.1))).trans (hHeld.2.2.2.2.2.2.2.2.2.2.2.2.2.2.2.2.2.2.2.2.2.2.2.2.2.2.2.2.2.2.2.2.2.2.2.2.2.2.2.2.1)
              have HS41_ := (hb.cell (World.block_lt_of_cell? _ _ (hHeld.2.2.2.2.2.2.2.2.2.2.2.2.2.2.2.2.2.2.2.2.2.2.2.2.2.2.2.2.2.2.2.2.2.2.2.2.2.2.2.2.2.1))).trans (hHeld.2.2.2.2.2.2.2.2.2.2.2.2.2.2.2.2.2.2.2.2.2.2.2.2.2.2.2.2.2.2.2.2.2.2.2.2.2.2.2.2.2.1)
              have HS42_ := (hb.cell (World.block_lt_of_cell? _ _ (hHeld.2.2.2.2.2.2.2.2.2.2.2.2.2.2.2.2.2.2.2.2.2.2.2.2.2.2.2.2.2.2.2.2.2.2.2.2.2.2.2.2.2.2.1))).trans (hHeld.2.2.2.2.2.2.2.2.2.2.2.2.2.2.2.2.2.2.2.2.2.2.2.2.2.2.2.2.2.2.2.2.2.2.2.2.2.2.2.2.2.2.1)
              have HS43_ := (hb.cell (World.block_lt_of_cell? _ _ (hHeld.2.2.2.2.2.2.2.2.2.2.2.2.2.2.2.2.2.2.2.2.2.2.2.2.2.2.2.2.2.2.2.2.2.2.2.2.2.2.2.2.2.2.2.1))).trans (hHeld.2.2.2.2.2.2.2.2.2.2.2.2.2.2.2.2.2.2.2.2.2.2.2.2.2.2.2.2.2.2.2.2.2.2.2.2.2.2.2.2.2.2.2.1)
              have HS44_ := (hb.cell (World.block_lt_of_cell? _ _ (hHeld.2.2.2.2.2.2.2.2.2.2.2.2.2.2.2.2.2.2.2.2.2.2.2.2.2.2.2.2.2.2.2.2.2.2.2.2.2.2.2.2.2.2.2.2.1))).trans (hHeld.2.2.2.2.2.2.2.2.2.2.2.2.2.2.2.2.2.2.2.2.2.2.2.2.2.2.2.2.2.2.2.2.2.2.2.2.2.2.2.2.2.2.2.2.1)
              have HS45_ := (hb.cell (World.block_lt_of_cell? _ _ (hHeld.2.2.2.2.2.2.2.2.2.2.2.2.2.2.2.2.2.2.2.2.2.2.2.2.2.2.2.2.2.2.2.2.2.2.2.2.2.2.2.2.2.2.2.2.2.1))).trans (hHeld.2.2.2.2.2.2.2.2.2.2.2.2.2.2.2.2.2.2.2.2.2.2.2.2.2.2.2.2.2.2.2.2.2.2.2.2.2.2.2.2.2.2.2.2.2.1)
              have HS46_ := (hb.cell (World.block_lt_of_cell? _ _ (hHeld.2.2.2.2.2.2.2.2.2.2.2.2.2.2.2.2.2.2.2.2.2.2.2.2.2.2.2.2.2.2.2.2.2.2.2.2.2.2.2.2.2.2.2.2.2.2.1))).trans (hHeld.2.2.2.2.2.2.2.2.2.2.2.2.2.2.2.2.2.2.2.2.2.2.2.2.2.2.2.2.2.2.2.2.2.2.2.2.2.2.2.2.2.2.2.2.2.2.1)
              have HS47_ := (hb.cell (World.block_lt_of_cell? _ _ (hHeld.2.2.2.2.2.2.2.2.2.2.2.2.2.2.2.2.2.2.2.2.2.2.2.2.2.2.2.2.2.2.2.2.2.2.2.2.2.2.2.2.2.2.2.2.2.2.2))).trans (hHeld.2.2.2.2.2.2.2.2.2.2.2.2.2.2.2.2.2.2.2.2.2.2.2.2.2.2.2.2.2.2.2.2.2.2.2.2.2.2.2.2.2.2.2.2.2.2.2)
              refine ⟨_, rfl, ?_⟩
              have n0_ := am (Kd.R_below u15_7 hb)
              have n1_ := am (Kd.R_below u15_6 hb)
              have n2_ := am (Kd.R_below u15_14 hb)
              have n3_ := am (Kd.R_below u15_12 hb)
              have n4_ := am (blk_below (g := gb615) (o := zo6 (l0.length : Int) (-7)) u15_9 hb)
              have n5_ := am (below_step u15_2 hb)
              clear HO_3 HO_6 HO_8 HO_10 BK615 HB
              have HO_3 := n0_
              have HO_6 := n1_
              have HO_8 := n2_
              have HO_10 := n3_
              have BK615 := n4_
              have HB := n5_
              clear n0_ n1_ n2_ n3_ n4_ n5_
              (try clear hb)
              (try clear hb2)
              (try clear hk)
              (try clear hi)
              refine hK.out _ _ ⟨HS0_, HS1_, HS2_, HS3_, HS4_, HS5_, HS6_, HS7_, HS8_, HS9_, HS10_, HS11_, HS12_, HS13_, HS14_, HS15_, HS16_, HS17_, HS18_, HS19_, HS20_, HS21_, HS22_, HS23_, HS24_, HS25_, HS26_, HS27_, HS28_, HS29_, HS30_, HS31_, HS32_, HS33_, HS34_, HS35_, HS36_, HS37_, HS38_, HS39_, HS40_, HS41_, HS42_, HS43_, HS44_, HS45_, HS46_, HS47_⟩ (fun hHeld => ?_)
              clear hK K
              refine norm_ (a' := ?_) ?_ ?_
              rotate_left
              ·show Act.put _ (some 101) _ = _
               simp only [Act.put, List.setIfInBounds_toArray, List.set_cons_zero, List.set_cons_succ, i64_w, i32_w]
               rfl
              refine one_ (i := 38) (N := some 108) mk15_50 rfl rfl (one_of HT_.out (by kernel_rfl)) (by decide) (fun K hK => ?_)
              refine goes_ Try.func53 (by kernel_rfl) rfl #[.slice (some ad626) t600.length co10, .string ((rd_T87 t600 x12_2).f0)] (by rfl) rfl rfl u15_3 ?_
              with_reducible refine (impl_PumpOf.calls k2 _ _ t600 ((rd_T87 t600 x12_2).f0) t632 _ ?side1 ?side2 A39.out).mono ?_
              (case side1 => exact s15_2)
              (case side2 => exact (Kd.R_reads' HO_3.out).2.1)
              rintro e w43 ⟨rfl, hb⟩
              have HS0_ := (hb.cell (World.block_lt_of_cell? _ _ (hHeld.1))).trans (hHeld.1)
              have HS1_ := (hb.cell (World.block_lt_of_cell? _ _ (hHeld.2.1))).trans (hHeld.2.1)
              have HS2_ := (hb.cell (World.block_lt_of_cell? _ _ (hHeld.2.2.1))).trans (hHeld.2.2.1)
              have HS3_ := (hb.cell (World.block_lt_of_cell? _ _ (hHeld.2.2.2.1))).trans (hHeld.2.2.2.1)
              have HS4_ := (hb.cell (World.block_lt_of_cell? _ _ (hHeld.2.2.2.2.1))).trans (hHeld.2.2.2.2.1)
              have HS5_ := (hb.cell (World.block_lt_of_cell? _ _ (hHeld.2.2.2.2.2.1))).trans (hHeld.2.2.2.2.2.1)
              have HS6_ := (hb.cell (World.block_lt_of_cell? _ _ (hHeld.2.2.2.2.2.2.1))).trans (hHeld.2.2.2.2.2.2.1)
              have HS7_ := (hb.cell (World.block_lt_of_cell? _ _ (hHeld.2.2.2.2.2.2.2.1))).trans (hHeld.2.2.2.2.2.2.2.1)
              have HS8_ := (hb.cell (World.block_lt_of_cell? _ _ (hHeld.2.2.2.2.2.2.2.2.1))).trans (hHeld.2.2.2.2.2.2.2.2.1)
              have HS9_ := (hb.cell (World.block_lt_of_cell? _ _ (hHeld.2.2.2.2.2.2.2.2.2.1))).trans (hHeld.2.2.2.2.2.2.2.2.2.1)
              have HS10_ := (hb.cell (World.block_lt_of_cell? _ _ (hHeld.2.2.2.2.2.2.2.2.2.2.1))).trans (hHeld.2.2.2.2.2.2.2.2.2.2.1)
              have HS11_ := (hb.cell (World.block_lt_of_cell? _ _ (hHeld.2.2.2.2.2.2.2.2.2.2.2.1))).trans (hHeld.2.2.2.2.2.2.2.2.2.2.2.1)
              have HS12_ := (hb.cell (World.block_lt_of_cell? _ _ (hHeld.2.2.2.2.2.2.2.2.2.2.2.2.1))).trans (hHeld.2.2.2.2.2.2.2.2.2.2.2.2.1)
              have HS13_ := (hb.cell (World.block_lt_of_cell? _ _ (hHeld.2.2.2.2.2.2.2.2.2.2.2.2.2.1))).trans (hHeld.2.2.2.2.2.2.2.2.2.2.2.2.2.1)
              have HS14_ := (hb.cell (World.block_lt_of_cell? _ _ (hHeld.2.2.2.2.2.2.2.2.2.2.2.2.2.2.1))).trans (hHeld.2.2.2.2.2.2.2.2.2.2.2.2.2.2.1)
              have HS15_ := (hb.cell (World.block_lt_of_cell? _ _ (hHeld.2.2.2.2.2.2.2.2.2.2.2.2.2.2.2.1))).trans (hHeld.2.2.2.2.2.2.2.2.2.2.2.2.2.2.2.1)
              have HS16_ := (hb.cell (World.block_lt_of_cell? _ _ (hHeld.2.2.2.2.2.2.2.2.2.2.2.2.2.2.2.2.1))).trans (hHeld.2.2.2.2.2.2.2.2.2.2.2.2.2.2.2.2.1)
              have HS17_ := (hb.cell (World.block_lt_of_cell? _ _ (hHeld.2.2.2.2.2.2.2.2.2.2.2.2.2.2.2.2.2.1))).trans (hHeld.2.2.2.2.2.2.2.2.2.2.2.2.2.2.2.2.2.1)
              have HS18_ := (hb.cell (World.block_lt_of_cell? _ _ (hHeld.2.2.2.2.2.2.2.2.2.2.2.2.2.2.2.2.2.2.1))).trans (hHeld.2.2.2.2.2.2.2.2.2.2.2.2.2.2.2.2.2.2.1)
              have HS19_ := (hb.cell (World.block_lt_of_cell? _ _ (hHeld.2.2.2.2.2.2.2.2.2.2.2.2.2.2.2.2.2.2.2.1))).trans (hHeld.2.2.2.2.2.2.2.2.2.2.2.2.2.2.2.2.2.2.2.1)
              have HS20_ := (hb.cell (World.block_lt_of_cell? _ _ (hHeld.2.2.2.2.2.2.2.2.2.2.2.2.2.2.2.2.2.2.2.2.1))).trans (hHeld.2.2.2.2.2.2.2.2.2.2.2.2.2.2.2.2.2.2.2.2.1)
              have HS21_ := (hb.cell (World.block_lt_of_cell? _ _ (hHeld.2.2.2.2.2.2.2.2.2.2.2.2.2.2.2.2.2.2.2.2.2.1))).trans (hHeld.2.2.2.2.2.2.2.2.2.2.2.2.2.2.2.2.2.2.2.2.2.1)
              have HS22_ := (hb.cell (World.block_lt_of_cell? _ _ (hHeld.2.2.2.2.2.2.2.2.2.2.2.2.2.2.2.2.2.2.2.2.2.2.1))).trans (hHeld.2.2.2.2.2.2.2.2.2.2.2.2.2.2.2.2.2.2.2.2.2.2.1)
              have HS23_ := (hb.cell (World.block_lt_of_cell? _ _ (hHeld.2.2.2.2.2.2.2.2.2.2.2.2.2.2.2.2.2.2.2.2.2.2.2.1))).trans (hHeld.2.2.2.2.2.2.2.2.2.2.2.2.2.2.2.2.2.2.2.2.2.2.2.1)
              have HS24_ := (hb.cell (World.block_lt_of_cell? _ _ (hHeld.2.2.2.2.2.2.2.2.2.2.2.2.2.2.2.2.2.2.2.2.2.2.2.2.1))).trans (hHeld.2.2.2.2.2.2.2.2.2.2.2.2.2.2.2.2.2.2.2.2.2.2.2.2.1)
              have HS25_ := (hb.cell (World.block_lt_of_cell? _ _ (hHeld.2.2.2.2.2.2.2.2.2.2.2.2.2.2.2.2.2.2.2.2.2.2.2.2.2.1))).trans (hHeld.2.2.2.2.2.2.2.2.2.2.2.2.2.2.2.2.2.2.2.2.2.2.2.2.2.1)
              have HS26_ := (hb.cell (World.block_lt_of_cell? _ _ (hHeld.2.2.2.2.2.2.2.2.2.2.2.2.2.2.2.2.2.2.2.2.2.2.2.2.2.2.1))).trans (hHeld.2.2.2.2.2.2.2.2.2.2.2.2.2.2.2.2.2.2.2.2.2.2.2.2.2.2.1)
              have HS27_ := (hb.cell (World.block_lt_of_cell? _ _ (hHeld.2.2.2.2.2.2.2.2.2.2.2.2.2.2.2.2.2.2.2.2.2.2.2.2.2.2.2.1))).trans (hHeld.2.2.2.2.2.2.2.2.2.2.2.2.2.2.2.2.2.2.2.2.2.2.2.2.2.2.2.1)
              have HS28_ := (hb.cell (World.block_lt_of_cell? _ _ (hHeld.2.2.2.2.2.2.2.2.2.2.2.2.2.2.2.2.2.2.2.2.2.2.2.2.2.2.2.2.1))).trans (hHeld.2.2.2.2.2.2.2.2.2.2.2.2.2.2.2.2.2.2.2.2.2.2.2.2.2.2.2.2.1)
              have HS29_ := (hb.cell (World.block_lt_of_cell? _ _ (hHeld.2.2.2.2.2.2.2.2.2.2.2.2.2.2.2.2.2.2.2.2.2.2.2.2.2.2.2.2.2.1))).trans (hHeld.2.2.2.2.2.2.2.2.2.2.2.2.2.2.2.2.2.2.2.2.2.2.2.2.2.2.2.2.2.1)
              have HS30_ := (hb.cell (World.block_lt_of_cell? _ _ (hHeld.2.2.2.2.2.2.2.2.2.2.2.2.2.2.2.2.2.2.2.2.2.2.2.2.2.2.2.2.2.2.1))).trans (hHeld.2.2.2.2.2.2.2.2.2.2.2.2.2.2.2.2.2.2.2.2.2.2.2.2.2.2.2.2.2.2.1)
              have HS31_ := (hb.cell (World.block_lt_of_cell? _ _ (hHeld.2.2.2.2.2.2.2.2.2.2.2.2.2.2.2.2.2.2.2.2.2.2.2.2.2.2.2.2.2.2.2.1))).trans (hHeld.2.2.2.2.2.2.2.2.2.2.2.2.2.2.2.2.2.2.2.2.2.2.2.2.2.2.2.2.2.2.2.1)
              have HS32_ := (hb.cell (World.block_lt_of_cell? _ _ (hHeld.2.2.2.2.2.2.2.2.2.2.2.2.2.2.2.2.2.2.2.2.2.2.2.2.2.2.2.2.2.2.2.2.1))).trans (hHeld.2.2.2.2.2.2.2.2.2.2.2.2.2.2.2.2.2.2.2.2.2.2.2.2.2.2.2.2.2.2.2.2.1)
              have HS33_ := (hb.cell (World.block_lt_of_cell? _ _ (hHeld.2.2.2.2.2.2.2.2.2.2.2.2.2.2.2.2.2.2.2.2.2.2.2.2.2.2.2.2.2.2.2.2.2.1))).trans (hHeld.2.2.2.2.2.2.2.2.2.2.2.2.2.2.2.2.2.2.2.2.2.2.2.2.2.2.2.2.2.2.2.2.2.1)
              have HS34_ := (hb.cell (World.block_lt_of_cell? _ _ (hHeld.2.2.2.2.2.2.2.2.2.2.2.2.2.2.2.2.2.2.2.2.2.2.2.2.2.2.2.2.2.2.2.2.2.2.1))).trans (hHeld.2.2.2.2.2.2.2.2.2.2.2.2.2.2.2.2.2.2.2.2.2.2.2.2.2.2.2.2.2.2.2.2.2.2.1)
              have HS35_ := (hb.cell (World.block_lt_of_cell? _ _ (hHeld.2.2.2.2.2.2.2.2.2.2.2.2.2.2.2.2.2.2.2.2.2.2.2.2.2.2.2.2.2.2.2.2.2.2.2.1))).trans (hHeld.2.2.2.2.2.2.2.2.2.2.2.2.2.2.2.2.2.2.2.2.2.2.2.2.2.2.2.2.2.2.2.2.2.2.2.1)
              have HS36_ := (hb.cell (World.block_lt_of_cell? _ _ (hHeld.2.2.2.2.2.2.2.2.2.2.2.2.2.2.2.2.2.2.2.2.2.2.2.2.2.2.2.2.2.2.2.2.2.2.2.2.1))).trans (hHeld.2.2.2.2.2.2.2.2.2.2.2.2.2.2.2.2.2.2.2.2.2.2.2.2.2.2.2.2.2.2.2.2.2.2.2.2.1)
              have HS37_ := (hb.cell (World.block_lt_of_cell? _ _ (hHeld.2.2.2.2.2.2.2.2.2.2.2.2.2.2.2.2.2.2.2.2.2.2.2.2.2.2.2.2.2.2.2.2.2.2.2.2.2.1))).trans (hHeld.2.2.2.2.2.2.2.2.2.2.2.2.2.2.2.2.2.2.2.2.2.2.2.2.2.2.2.2.2.2.2.2.2.2.2.2.2.1)
              have HS38_ := (hb.cell (World.block_lt_of_cell? _ _ (hHeld.2.2.2.2.2.2.2.2.2.2.2.2.2.2.2.2.2.2.2.2.2.2.2.2.2.2.2.2.2.2.2.2.2.2.2.2.2.2.1))).trans (hHeld.2.2.2.2.2.2.2.2.2.2.2.2.2.2.2.2.2.2.2.2.2.2.2.2.2.2.2.2.2.2.2.2.2.2.2.2.2.2.1)
              have HS39_ := (hb.cell (World.block_lt_of_cell? _ _ (hHeld.2.2.2.2.2.2.2.2.2.2.2.2.2.2.2.2.2.2.2.2.2.2.2.2.2.2.2.2.2.2.2.2.2.2.2.2.2.2.2.1))).trans (hHeld.2.2.2.2.2.2.2.2.2.2.2.2.2.2.2.2.2.2.2.2.2.2.2.2.2.2.2.2.2.2.2.2.2.2.2.2.2.2.2.1)
              have HS40_ := (hb.cell (World.block_lt_of_cell? _ _ (hHeld.2.2.2.2.2.2.2.2.2.2.2.2.2.2.2.2.2.2.2.2.2.2.2.2.2.2.2.2.2.2.2.2.2.2.2.2.2.2.2.2.1))).trans (hHeld.2.2.2.2.2.2.2.2.2.2.2.2.2.2.2.2.2.2.2.2.2.2.2.2.2.2.2.2.2.2.2.2.2.2.2.2.2.2.2.2.1)
              have HS41_ := (hb.cell (World.block_lt_of_cell? _ _ (hHeld.2.2.2.2.2.2.2.2.2.2.2.2.2.2.2.2.2.2.2.2.2.2.2.2.2.2.2.2.2.2.2.2.2.2.2.2.2.2.2.2.2.1))).trans (hHeld.2.2.2.2.2.2.2.2.2.2.2.2.2.2.2.2.2.2.2.2.2.2.2.2.2.2.2.2.2.2.2.2.2.2.2.2.2.2.2.2.2.1)
              have HS42_ := (hb.cell (World.block_lt_of_cell? _ _ (hHeld.2.2.2.2.2.2.2.2.2.2.2.2.2.2.2.2.2.2.2.2.2.2.2.2.2.2.2.2.2.2.2.2.2.2.2.2.2.2.2.2.2.2.1))).trans (hHeld.2.2.2.2.2.2.2.2.2.2.2.2.2.2.2.2.2.2.2.2.2.2.2.2.2.2.2.2.2.2.2.2.2.2.2.2.2.2.2.2.2.2.1)
              have HS43_ := (hb.cell (World.block_lt_of_cell? _ _ (hHeld.2.2.2.2.2.2.2.2.2.2.2.2.2.2.2.2.2.2.2.2.2.2.2.2.2.2.2.2.2.2.2.2.2.2.2.2.2.2.2.2.2.2.2.1))).trans (hHeld.2.2.2.2.2.2.2.2.2.2.2.2.2.2.2.2.2.2.2.2.2.2.2.2.2.2.2.2.2.2.2.2.2.2.2.2.2.2.2.2.2.2.2.1)
              have HS44_ := (hb.cell (World.block_lt_of_cell? _ _ (hHeld.2.2.2.2.2.2.2.2.2.2.2.2.2.2.2.2.2.2.2.2.2.2.2.2.2.2.2.2.2.2.2.2.2.2.2.2.2.2.2.2.2.2.2.2.1))).trans (hHeld.2.2.2.2.2.2.2.2.2.2.2.2.2.2.2.2.2.2.2.2.2.2.2.2.2.2.2.2.2.2.2.2.2.2.2.2.2.2.2.2.2.2.2.2.1)
              have HS45_ := (hb.cell (World.block_lt_of_cell? _ _ (hHeld.2.2.2.2.2.2.2.2.2.2.2.2.2.2.2.2.2.2.2.2.2.2.2.2.2.2.2.2.2.2.2.2.2.2.2.2.2.2.2.2.2.2.2.2.2.1))).trans (hHeld.2.2.2.2.2.2.2.2.2.2.2.2.2.2.2.2.2.2.2.2.2.2.2.2.2.2.2.2.2.2.2.2.2.2.2.2.2.2.2.2.2.2.2.2.2.1)
              have HS46_ := (hb.cell (World.block_lt_of_cell? _ _ (hHeld.2.2.2.2.2.2.2.2.2.2.2.2.2.2.2.2.2.2.2.2.2.2.2.2.2.2.2.2.2.2.2.2.2.2.2.2.2.2.2.2.2.2.2.2.2.2.1))).trans (hHeld.2.2.2.2.2.2.2.2.2.2.2.2.2.2.2.2.2.2.2.2.2.2.2.2.2.2.2.2.2.2.2.2.2.2.2.2.2.2.2.2.2.2.2.2.2.2.1)
              have HS47_ := (hb.cell (World.block_lt_of_cell? _ _ (hHeld.2.2.2.2.2.2.2.2.2.2.2.2.2.2.2.2.2.2.2.2.2.2.2.2.2.2.2.2.2.2.2.2.2.2.2.2.2.2.2.2.2.2.2.2.2.2.2))).trans (hHeld.2.2.2.2.2.2.2.2.2.2.2.2.2.2.2.2.2.2.2.2.2.2.2.2.2.2.2.2.2.2.2.2.2.2.2.2.2.2.2.2.2.2.2.2.2.2.2)
              refine ⟨_, rfl, ?_⟩
              have n0_ := am (Kd.R_below u15_7 hb)
              have n1_ := am (Kd.R_below u15_6 hb)
              have n2_ := am (Kd.R_below u15_14 hb)
              have n3_ := am (Kd.R_below u15_12 hb)
              have n4_ := am (blk_below (g := gb615) (o := zo6 (l0.length : Int) (-7)) u15_9 hb)
              have n5_ := am (below_step u15_2 hb)
              clear HO_3 HO_6 HO_8 HO_10 BK615 HB
              have HO_3 := n0_
              have HO_6 := n1_
              have HO_8 := n2_
              have HO_10 := n3_
              have BK615 := n4_
              have HB := n5_
              clear n0_ n1_ n2_ n3_ n4_ n5_
              (try clear hb)
              (try clear hb2)
              (try clear hk)
              (try clear hi)
              refine hK.out _ _ ⟨HS0_, HS1_, HS2_, HS3_, HS4_, HS5_, HS6_, HS7_, HS8_, HS9_, HS10_, HS11_, HS12_, HS13_, HS14_, HS15_, HS16_, HS17_, HS18_, HS19_, HS20_, HS21_, HS22_, HS23_, HS24_, HS25_, HS26_, HS27_, HS28_, HS29_, HS30_, HS31_, HS32_, HS33_, HS34_, HS35_, HS36_, HS37_, HS38_, HS39_, HS40_, HS41_, HS42_, HS43_, HS44_, HS45_, HS46_, HS47_⟩ (fun hHeld => ?_)
              clear hK K
              refine norm_ (a' := ?_) ?_ ?_
              rotate_left
              ·show Act.put _ (some 108) _ = _
               simp only [Act.put, List.setIfInBounds_toArray, List.set_cons_zero, List.set_cons_succ, i64_w, i32_w]
               rfl
              refine pz 39 109 mk15_51 (any_of HT_.out (by kernel_rfl)) ?_
              refine pz 40 110 mk15_52 (any_of HT_.out (by kernel_rfl)) ?_
              refine done_ (done_of HT_.out (by kernel_rfl)) ?_
              try go_wp2
              go_roundg k2
              case measure => have := HJ6.out; have := HK2.out; omega
              case rel => exact ⟨(wrap64 (x12_2 + 1)), (by first | rfl | (simp; done) | (simp [*]; done)), H', ⟨by have := HJ6.out; have := HK2.out; omega⟩, ⟨by (with_reducible repeat (first | apply Kd.R_alloc | apply Kd.R_drewN | apply Kd.R_drew)); exact HO_3.out⟩, ⟨by (with_reducible repeat (first | apply Kd.R_alloc | apply Kd.R_drewN | apply Kd.R_drew)); exact HO_6.out⟩, ⟨by (with_reducible repeat (first | apply Kd.R_alloc | apply Kd.R_drewN | apply Kd.R_drew)); exact HO_8.out⟩, ⟨by (with_reducible repeat (first | apply Kd.R_alloc | apply Kd.R_drewN | apply Kd.R_drew)); exact HO_10.out⟩, ⟨by (with_reducible repeat (first | refine blk_drewN ?_ _ | refine blk_drew ?_ | refine blk_alloc ?_ _)); exact BK615.out⟩, ⟨s15_3⟩⟩
             ·rw [if_neg c40] at H
              have c40b0 : (t630.toList == t632.toList) = false := beq_eq_false_iff_ne.mpr c40
              have c40b1 : (t630.toList != t632.toList) = true := bne_iff_ne.mpr c40
              obtain rfl := Option.some.inj H
              try go_wp2
              have n0_ := am (Kd.R_drew HO_3.out)
              have n1_ := am (Kd.R_drew HO_6.out)
              have n2_ := am (Kd.R_drew HO_8.out)
              have n3_ := am (Kd.R_drew HO_10.out)
              have n4_ := am (blk_drew BK615.out)
              have n5_ := am (below_drew1 HB.out)
              clear HO_3 HO_6 HO_8 HO_10 BK615 HB
              have HO_3 := n0_
              have HO_6 := n1_
              have HO_8 := n2_
              have HO_10 := n3_
              have BK615 := n4_
              have HB := n5_
              clear n0_ n1_ n2_ n3_ n4_ n5_
              have p625 : 0 ≤ (x12_2 : Int) := od u15_10
              have q625 : x12_2 < (t616.length : Int) := od u15_10
              obtain ⟨ad625, e625, hx625_0, hx625_1, hx625_2, hx625_3, hx625_4, hx625_5, hx625_6, hx625_7⟩ := at_T87 (Kd.R_reads' HO_8.out).2.2 x12_2 p625 q625
              cases e625
              replace p625 := eq_true p625
              replace q625 := eq_true q625
              have p626 : 0 ≤ (x12_2 : Int) := od u15_10
              have q626 : x12_2 < (t600.length : Int) := od u15_10
              obtain ⟨ad626, e626, hx626_0, hx626_1, hx626_2, hx626_3, hx626_4, hx626_5, hx626_6, hx626_7⟩ := at_T87 (Kd.R_reads' HO_3.out).2.2 x12_2 p626 q626
              cases e626
              replace p626 := eq_true p626
              replace q626 := eq_true q626
              have p627 : 0 ≤ (x12_2 : Int) := od u15_10
              have q627 : x12_2 < (t616.length : Int) := od u15_10
              obtain ⟨ad627, e627, hx627_0, hx627_1, hx627_2, hx627_3, hx627_4, hx627_5, hx627_6, hx627_7⟩ := at_T87 (Kd.R_reads' HO_8.out).2.2 x12_2 p627 q627
              obtain rfl : ad625 = ad627 := (by injection e627)
              replace p627 := eq_true p627
              replace q627 := eq_true q627
              have p628 : 0 ≤ (x12_2 : Int) := od u15_10
              have q628 : x12_2 < (t600.length : Int) := od u15_10
              obtain ⟨ad628, e628, hx628_0, hx628_1, hx628_2, hx628_3, hx628_4, hx628_5, hx628_6, hx628_7⟩ := at_T87 (Kd.R_reads' HO_3.out).2.2 x12_2 p628 q628
              obtain rfl : ad626 = ad628 := (by injection e628)
              replace p628 := eq_true p628
              replace q628 := eq_true q628
              have p629 : 0 ≤ (x12_2 : Int) := od u15_10
              have q629 : x12_2 < (t616.length : Int) := od u15_10
              obtain ⟨ad629, e629, hx629_0, hx629_1, hx629_2, hx629_3, hx629_4, hx629_5, hx629_6, hx629_7⟩ := at_T87 (Kd.R_reads' HO_8.out).2.2 x12_2 p629 q629
              obtain rfl : ad625 = ad629 := (by injection e629)
              replace p629 := eq_true p629
              replace q629 := eq_true q629
              have p631 : 0 ≤ (x12_2 : Int) := od u15_10
              have q631 : x12_2 < (t600.length : Int) := od u15_10
              obtain ⟨ad631, e631, hx631_0, hx631_1, hx631_2, hx631_3, hx631_4, hx631_5, hx631_6, hx631_7⟩ := at_T87 (Kd.R_reads' HO_3.out).2.2 x12_2 p631 q631
              obtain rfl : ad626 = ad631 := (by injection e631)
              replace p631 := eq_true p631
              replace q631 := eq_true q631
              refine start_ (n := 41) (S := fun w' => zc12 w' (ad625.add ((x12_2).toNat * 8)) (rd_T87 t616 x12_2) (zc12 w' (ad626.add ((x12_2).toNat * 8)) (rd_T87 t600 x12_2) (zc12 w' (ad625.add ((x12_2).toNat * 8)) (rd_T87 t616 x12_2) (zc12 w' (ad626.add ((x12_2).toNat * 8)) (rd_T87 t600 x12_2) (zc12 w' (ad625.add ((x12_2).toNat * 8)) (rd_T87 t616 x12_2) (zc2 w' (ad626.add ((x12_2).toNat * 8)) (rd_T87 t600 x12_2))))))) (ds := []) mk15_0 (by kernel_rfl) rfl rfl ⟨hx625_0, hx625_1, hx625_2, hx625_3, hx625_4, hx625_5, hx625_6, hx625_7, hx626_0, hx626_1, hx626_2, hx626_3, hx626_4, hx626_5, hx626_6, hx626_7, hx627_0, hx627_1, hx627_2, hx627_3, hx627_4, hx627_5, hx627_6, hx627_7, hx628_0, hx628_1, hx628_2, hx628_3, hx628_4, hx628_5, hx628_6, hx628_7, hx629_0, hx629_1, hx629_2, hx629_3, hx629_4, hx629_5, hx629_6, hx629_7, hx631_0, hx631_1, hx631_2, hx631_3, hx631_4, hx631_5, hx631_6, hx631_7⟩ (fun hHeld => ?_); refine with_tabW laws_FnMovedRig.tab16 laws_FnMovedRig.bits16 (fun HT_ HW_ => ?_)
              generalize wr.drew = w44 at HO_3 HO_6 HO_8 HO_10 BK615 HB hx625_0 hx625_1 hx625_2 hx625_3 hx625_4 hx625_5 hx625_6 hx625_7 hx626_0 hx626_1 hx626_2 hx626_3 hx626_4 hx626_5 hx626_6 hx626_7 hx627_0 hx627_1 hx627_2 hx627_3 hx627_4 hx627_5 hx627_6 hx627_7 hx628_0 hx628_1 hx628_2 hx628_3 hx628_4 hx628_5 hx628_6 hx628_7 hx629_0 hx629_1 hx629_2 hx629_3 hx629_4 hx629_5 hx629_6 hx629_7 hx631_0 hx631_1 hx631_2 hx631_3 hx631_4 hx631_5 hx631_6 hx631_7 hHeld ⊢
              refine pz 0 70 mk15_1 (any_of HT_.out (by kernel_rfl)) ?_
              refine pz 1 71 mk15_2 (any_of HT_.out (by kernel_rfl)) ?_
              refine pz 2 72 mk15_3 (any_of HT_.out (by kernel_rfl)) ?_
              refine pz 3 73 mk15_4 (any_of HT_.out (by kernel_rfl)) ?_
              refine pz 5 75 mk15_5 (any_of HT_.out (by kernel_rfl)) ?_
              refine pz 6 76 mk15_6 (any_of HT_.out (by kernel_rfl)) ?_
              refine pz 7 77 mk15_7 (any_of HT_.out (by kernel_rfl)) ?_
              refine pz 8 78 mk15_8 (any_of HT_.out (by kernel_rfl)) ?_
              refine take_ (i := 4) (N := some 74) (v := ?_) (a' := ?_) mk15_9 rfl rfl (take_ofW HT_.out HW_.out (by kernel_rfl)) (fun _ _ _ h => h) (Or.inl ⟨by rfl, ?_⟩) hHeld ?_ ?_
              rotate_left
              ·rintro w' ⟨s0, s1, s2, s3, s4, s5, s6, s7, s8, s9, s10, s11, s12, s13, s14, s15, s16, s17, s18, s19, s20, s21, s22, s23, s24, s25, s26, s27, s28, s29, s30, s31, s32, s33, s34, s35, s36, s37, s38, s39, s40, s41, s42, s43, s44, s45, s46, s47⟩
               exact gs
              rotate_left
              ·exact ap
              refine take_ (i := 9) (N := some 79) (v := ?_) (a' := ?_) mk15_10 rfl rfl (take_ofW HT_.out HW_.out (by kernel_rfl)) (fun _ _ _ h => h) (Or.inl ⟨by rfl, ?_⟩) hHeld ?_ ?_
              rotate_left
              ·rintro w' ⟨s0, s1, s2, s3, s4, s5, s6, s7, s8, s9, s10, s11, s12, s13, s14, s15, s16, s17, s18, s19, s20, s21, s22, s23, s24, s25, s26, s27, s28, s29, s30, s31, s32, s33, s34, s35, s36, s37, s38, s39, s40, s41, s42, s43, s44, s45, s46, s47⟩
               exact gs
              rotate_left
              ·exact ap
              refine pz 10 80 mk15_11 (any_of HT_.out (by kernel_rfl)) ?_
              refine pz 11 81 mk15_12 (any_of HT_.out (by kernel_rfl)) ?_
              refine pz 12 82 mk15_13 (any_of HT_.out (by kernel_rfl)) ?_
              refine pz 13 83 mk15_14 (any_of HT_.out (by kernel_rfl)) ?_
              refine pz 14 84 mk15_15 (any_of HT_.out (by kernel_rfl)) ?_
              refine pz 15 85 mk15_16 (any_of HT_.out (by kernel_rfl)) ?_
              refine pz 17 87 mk15_17 (any_of HT_.out (by kernel_rfl)) ?_
              refine pz 18 88 mk15_18 (any_of HT_.out (by kernel_rfl)) ?_
              refine pz 19 89 mk15_19 (any_of HT_.out (by kernel_rfl)) ?_
              refine pz 20 90 mk15_20 (any_of HT_.out (by kernel_rfl)) ?_
              refine take_ (i := 16) (N := some 86) (v := ?_) (a' := ?_) mk15_25 rfl rfl (take_ofW HT_.out HW_.out (by kernel_rfl)) (fun _ _ _ h => h) (Or.inl ⟨by rfl, ?_⟩) hHeld ?_ ?_
              rotate_left
              ·rintro w' ⟨s0, s1, s2, s3, s4, s5, s6, s7, s8, s9, s10, s11, s12, s13, s14, s15, s16, s17, s18, s19, s20, s21, s22, s23, s24, s25, s26, s27, s28, s29, s30, s31, s32, s33, s34, s35, s36, s37, s38, s39, s40, s41, s42, s43, s44, s45, s46, s47⟩
               exact gs
              rotate_left
              ·exact ap
              refine take_ (i := 21) (N := some 91) (v := ?_) (a' := ?_) mk15_26 rfl rfl (take_ofW HT_.out HW_.out (by kernel_rfl)) (fun _ _ _ h => h) (Or.inl ⟨by rfl, ?_⟩) hHeld ?_ ?_
              rotate_left
              ·rintro w' ⟨s0, s1, s2, s3, s4, s5, s6, s7, s8, s9, s10, s11, s12, s13, s14, s15, s16, s17, s18, s19, s20, s21, s22, s23, s24, s25, s26, s27, s28, s29, s30, s31, s32, s33, s34, s35, s36, s37, s38, s39, s40, s41, s42, s43, s44, s45, s46, s47⟩
               exact gs
              rotate_left
              ·exact ap
              refine pz 22 92 mk15_27 (any_of HT_.out (by kernel_rfl)) ?_
              refine pz 23 93 mk15_28 (any_of HT_.out (by kernel_rfl)) ?_
              refine pz 24 94 mk15_29 (any_of HT_.out (by kernel_rfl)) ?_
              refine pz 25 95 mk15_30 (any_of HT_.out (by kernel_rfl)) ?_
              refine pz 26 96 mk15_31 (any_of HT_.out (by kernel_rfl)) ?_
              refine pz 27 97 mk15_32 (any_of HT_.out (by kernel_rfl)) ?_
              refine pz 28 98 mk15_33 (any_of HT_.out (by kernel_rfl)) ?_
              refine pz 29 99 mk15_34 (any_of HT_.out (by kernel_rfl)) ?_
              refine pz 32 102 mk15_35 (any_of HT_.out (by kernel_rfl)) ?_
              refine pz 33 103 mk15_36 (any_of HT_.out (by kernel_rfl)) ?_
              refine pz 34 104 mk15_37 (any_of HT_.out (by kernel_rfl)) ?_
              refine pz 35 105 mk15_38 (any_of HT_.out (by kernel_rfl)) ?_
              refine pz 36 106 mk15_39 (any_of HT_.out (by kernel_rfl)) ?_
              refine take_ (i := 30) (N := some 100) (v := ?_) (a' := ?_) mk15_41 rfl rfl (take_ofW HT_.out HW_.out (by kernel_rfl)) (fun _ _ _ h => h) (Or.inl ⟨by rfl, ?_⟩) hHeld ?_ ?_
              rotate_left
              ·rintro w' ⟨s0, s1, s2, s3, s4, s5, s6, s7, s8, s9, s10, s11, s12, s13, s14, s15, s16, s17, s18, s19, s20, s21, s22, s23, s24, s25, s26, s27, s28, s29, s30, s31, s32, s33, s34, s35, s36, s37, s38, s39, s40, s41, s42, s43, s44, s45, s46, s47⟩
               exact gs
              rotate_left
              ·exact ap
              refine take_ (i := 37) (N := some 107) (v := ?_) (a' := ?_) mk15_42 rfl rfl (take_ofW HT_.out HW_.out (by kernel_rfl)) (fun _ _ _ h => h) (Or.inl ⟨by rfl, ?_⟩) hHeld ?_ ?_
              rotate_left
              ·rintro w' ⟨s0, s1, s2, s3, s4, s5, s6, s7, s8, s9, s10, s11, s12, s13, s14, s15, s16, s17, s18, s19, s20, s21, s22, s23, s24, s25, s26, s27, s28, s29, s30, s31, s32, s33, s34, s35, s36, s37, s38, s39, s40, s41, s42, s43, s44, s45, s46, s47⟩
               exact gs
              rotate_left
              ·exact ap
              refine one_ (i := 31) (N := some 101) mk15_49 rfl rfl (one_of HT_.out (by kernel_rfl)) (by decide) (fun K hK => ?_)
              refine goes_ Try.func53 (by kernel_rfl) rfl #[.slice (some ad625) t616.length co31, .string ((rd_T87 t616 x12_2).f0)] (by rfl) rfl rfl u15_3 ?_
              with_reducible refine (impl_PumpOf.calls k2 _ _ t616 ((rd_T87 t616 x12_2).f0) t630 _ ?side1 ?side2 A38.out).mono ?_
              (case side1 => exact s15_1)
              (case side2 => exact (Kd.R_reads' HO_8.out).2.1)
              rintro e w45 ⟨rfl, hb⟩
              have HS0_ := (hb.cell (World.block_lt_of_cell? _ _ (hHeld.1))).trans (hHeld.1)
              have HS1_ := (hb.cell (World.block_lt_of_cell? _ _ (hHeld.2.1))).trans (hHeld.2.1)
              have HS2_ := (hb.cell (World.block_lt_of_cell? _ _ (hHeld.2.2.1))).trans (hHeld.2.2.1)
              have HS3_ := (hb.cell (World.block_lt_of_cell? _ _ (hHeld.2.2.2.1))).trans (hHeld.2.2.2.1)
              have HS4_ := (hb.cell (World.block_lt_of_cell? _ _ (hHeld.2.2.2.2.1))).trans (hHeld.2.2.2.2.1)
              have HS5_ := (hb.cell (World.block_lt_of_cell? _ _ (hHeld.2.2.2.2.2.1))).trans (hHeld.2.2.2.2.2.1)
              have HS6_ := (hb.cell (World.block_lt_of_cell? _ _ (hHeld.2.2.2.2.2.2.1))).trans (hHeld.2.2.2.2.2.2.1)
              have HS7_ := (hb.cell (World.block_lt_of_cell? _ _ (hHeld.2.2.2.2.2.2.2.1))).trans (hHeld.2.2.2.2.2.2.2.1)
              have HS8_ := (hb.cell (World.block_lt_of_cell? _ _ (hHeld.2.2.2.2.2.2.2.2.1))).trans (hHeld.2.2.2.2.2.2.2.2.1)
              have HS9_ := (hb.cell (World.block_lt_of_cell? _ _ (hHeld.2.2.2.2.2.2.2.2.2.1))).trans (hHeld.2.2.2.2.2.2.2.2.2.1)
              have HS10_ := (hb.cell (World.block_lt_of_cell? _ _ (hHeld.2.2.2.2.2.2.2.2.2.2.1))).trans (hHeld.2.2.2.2.2.2.2.2.2.2.1)
              have HS11_ := (hb.cell (World.block_lt_of_cell? _ _ (hHeld.2.2.2.2.2.2.2.2.2.2.2.1))).trans (hHeld.2.2.2.2.2.2.2.2.2.2.2.1)
              have HS12_ := (hb.cell (World.block_lt_of_cell? _ _ (hHeld.2.2.2.2.2.2.2.2.2.2.2.2.1))).trans (hHeld.2.2.2.2.2.2.2.2.2.2.2.2.1)
              have HS13_ := (hb.cell (World.block_lt_of_cell? _ _ (hHeld.2.2.2.2.2.2.2.2.2.2.2.2.2.1))).trans (hHeld.2.2.2.2.2.2.2.2.2.2.2.2.2.1)
              have HS14_ := (hb.cell (World.block_lt_of_cell? _ _ (hHeld.2.2.2.2.2.2.2.2.2.2.2.2.2.2.1))).trans (hHeld.2.2.2.2.2.2.2.2.2.2.2.2.2.2.1)
              have HS15_ := (hb.cell (World.block_lt_of_cell? _ _ (hHeld.2.2.2.2.2.2.2.2.2.2.2.2.2.2.2.1))).trans (hHeld.2.2.2.2.2.2.2.2.2.2.2.2.2.2.2.1)
              have HS16_ := (hb.cell (World.block_lt_of_cell? _ _ (hHeld.2.2.2.2.2.2.2.2.2.2.2.2.2.2.2.2.1))).trans (hHeld.2.2.2.2.2.2.2.2.2.2.2.2.2.2.2.2.1)
              have HS17_ := (hb.cell (World.block_lt_of_cell? _ _ (hHeld.2.2.2.2.2.2.2.2.2.2.2.2.2.2.2.2.2.1))).trans (hHeld.2.2.2.2.2.2.2.2.2.2.2.2.2.2.2.2.2.1)
              have HS18_ := (hb.cell (World.block_lt_of_cell? _ _ (hHeld.2.2.2.2.2.2.2.2.2.2.2.2.2.2.2.2.2.2.1))).trans (hHeld.2.2.2.2.2.2.2.2.2.2.2.2.2.2.2.2.2.2.1)
              have HS19_ := (hb.cell (World.block_lt_of_cell? _ _ (hHeld.2.2.2.2.2.2.2.2.2.2.2.2.2.2.2.2.2.2.2.1))).trans (hHeld.2.2.2.2.2.2.2.2.2.2.2.2.2.2.2.2.2.2.2.1)
              have HS20_ := (hb.cell (World.block_lt_of_cell? _ _ (hHeld.2.2.2.2.2.2.2.2.2.2.2.2.2.2.2.2.2.2.2.2.1))).trans (hHeld.2.2.2.2.2.2.2.2.2.2.2.2.2.2.2.2.2.2.2.2.1)
              have HS21_ := (hb.cell (World.block_lt_of_cell? _ _ (hHeld.2.2.2.2.2.2.2.2.2.2.2.2.2.2.2.2.2.2.2.2.2.1))).trans (hHeld.2.2.2.2.2.2.2.2.2.2.2.2.2.2.2.2.2.2.2.2.2.1)
              have HS22_ := (hb.cell (World.block_lt_of_cell? _ _ (hHeld.2.2.2.2.2.2.2.2.2.2.2.2.2.2.2.2.2.2.2.2.2.2.1))).trans (hHeld.2.2.2.2.2.2.2.2.2.2.2.2.2.2.2.2.2.2.2.2.2.2.1)
              have HS23_ := (hb.cell (World.block_lt_of_cell? _ _ (hHeld.2.2.2.2.2.2.2.2.2.2.2.2.2.2.2.2.2.2.2.2.2.2.2.1))).trans (hHeld.2.2.2.2.2.2.2.2.2.2.2.2.2.2.2.2.2.2.2.2.2.2.2.1)
              have HS24_ := (hb.cell (World.block_lt_of_cell? _ _ (hHeld.2.2.2.2.2.2.2.2.2.2.2.2.2.2.2.2.2.2.2.2.2.2.2.2.1))).trans (hHeld.2.2.2.2.2.2.2.2.2.2.2.2.2.2.2.2.2.2.2.2.2.2.2.2.1)
              have HS25_ := (hb.cell (World.block_lt_of_cell? _ _ (hHeld.2.2.2.2.2.2.2.2.2.2.2.2.2.2.2.2.2.2.2.2.2.2.2.2.2.1))).trans (hHeld.2.2.2.2.2.2.2.2.2.2.2.2.2.2.2.2.2.2.2.2.2.2.2.2.2.1)
              have HS26_ := (hb.cell (World.block_lt_of_cell? _ _ (hHeld.2.2.2.2.2.2.2.2.2.2.2.2.2.2.2.2.2.2.2.2.2.2.2.2.2.2.1))).trans (hHeld.2.2.2.2.2.2.2.2.2.2.2.2.2.2.2.2.2.2.2.2.2.2.2.2.2.2.1)
              have HS27_ := (hb.cell (World.block_lt_of_cell? _ _ (hHeld.2.2.2.2.2.2.2.2.2.2.2.2.2.2.2.2.2.2.2.2.2.2.2.2.2.2.2.1))).trans (hHeld.2.2.2.2.2.2.2.2.2.2.2.2.2.2.2.2.2.2.2.2.2.2.2.2.2.2.2.1)
              have HS28_ := (hb.cell (World.block_lt_of_cell? _ _ (hHeld.2.2.2.2.2.2.2.2.2.2.2.2.2.2.2.2.2.2.2.2.2.2.2.2.2.2.2.2.1))).trans (hHeld.2.2.2.2.2.2.2.2.2.2.2.2.2.2.2.2.2.2.2.2.2.2.2.2.2.2.2.2.1)
              have HS29_ := (hb.cell (World.block_lt_of_cell? _ _ (hHeld.2.2.2.2.2.2.2.2.2.2.2.2.2.2.2.2.2.2.2.2.2.2.2.2.2.2.2.2.2.1))).trans (hHeld.2.2.2.2.2.2.2.2.2.2.2.2.2.2.2.2.2.2.2.2.2.2.2.2.2.2.2.2.2.1)
              have HS30_ := (hb.cell (World.block_lt_of_cell? _ _ (hHeld.2.2.2.2.2.2.2.2.2.2.2.2.2.2.2.2.2.2.2.2.2.2.2.2.2.2.2.2.2.2.1))).trans (hHeld.2.2.2.2.2.2.2.2.2.2.2.2.2.2.2.2.2.2.2.2.2.2.2.2.2.2.2.2.2.2.1)
              have HS31_ := (hb.cell (World.block_lt_of_cell? _ _ (hHeld.2.2.2.2.2.2.2.2.2.2.2.2.2.2.2.2.2.2.2.2.2.2.2.2.2.2.2.2.2.2.2.1))).trans (hHeld.2.2.2.2.2.2.2.2.2.2.2.2.2.2.2.2.2.2.2.2.2.2.2.2.2.2.2.2.2.2.2.1)
              have HS32_ := (hb.cell (World.block_lt_of_cell? _ _ (hHeld.2.2.2.2.2.2.2.2.2.2.2.2.2.2.2.2.2.2.2.2.2.2.2.2.2.2.2.2.2.2.2.2.1))).trans (hHeld.2.2.2.2.2.2.2.2.2.2.2.2.2.2.2.2.2.2.2.2.2.2.2.2.2.2.2.2.2.2.2.2.1)
              have HS33_ := (hb.cell (World.block_lt_of_cell? _ _ (hHeld.2.2.2.2.2.2.2.2.2.2.2.2.2.2.2.2.2.2.2.2.2.2.2.2.2.2.2.2.2.2.2.2.2.1))).trans (hHeld.2.2.2.2.2.2.2.2.2.2.2.2.2.2.2.2.2.2.2.2.2.2.2.2.2.2.2.2.2.2.2.2.2.1)
              have HS34_ := (hb.cell (World.block_lt_of_cell? _ _ (hHeld.2.2.2.2.2.2.2.2.2.2.2.2.2.2.2.2.2.2.2.2.2.2.2.2.2.2.2.2.2.2.2.2.2.2.1))).trans (hHeld.2.2.2.2.2.2.2.2.2.2.2.2.2.2.2.2.2.2.2.2.2.2.2.2.2.2.2.2.2.2.2.2.2.2.1)
              have HS35_ := (hb.cell (World.block_lt_of_cell? _ _ (hHeld.2.2.2.2.2.2.2.2.2.2.2.2.2.2.2.2.2.2.2.2.2.2.2.2.2.2.2.2.2.2.2.2.2.2.2.1))).trans (hHeld.2.2.2.2.2.2.2.2.2.2.2.2.2.2.2.2.2.2.2.2.2.2.2.2.2.2.2.2.2.2.2.2.2.2.2.1)
              have HS36_ := (hb.cell (World.block_lt_of_cell? _ _ (hHeld.2.2.2.2.2.2.2.2.2.2.2.2.2.2.2.2.2.2.2.2.2.2.2.2.2.2.2.2.2.2.2.2.2.2.2.2.1))).trans (hHeld.2.2.2.2.2.2.2.2.2.2.2.2.2.2.2.2.2.2.2.2.2.2.2.2.2.2.2.2.2.2.2.2.2.2.2.2.1)
              have HS37_ := (hb.cell (World.block_lt_of_cell? _ _ (hHeld.2.2.2.2.2.2.2.2.2.2.2.2.2.2.2.2.2.2.2.2.2.2.2.2.2.2.2.2.2.2.2.2.2.2.2.2.2.1))).trans (hHeld.2.2.2.2.2.2.2.2.2.2.2.2.2.2.2.2.2.2.2.2.2.2.2.2.2.2.2.2.2.2.2.2.2.2.2.2.2.1)
              have HS38_ := (hb.cell (World.block_lt_of_cell? _ _ (hHeld.2.2.2.2.2.2.2.2.2.2.2.2.2.2.2.2.2.2.2.2.2.2.2.2.2.2.2.2.2.2.2.2.2.2.2.2.2.2.1))).trans (hHeld.2.2.2.2.2.2.2.2.2.2.2.2.2.2.2.2.2.2.2.2.2.2.2.2.2.2.2.2.2.2.2.2.2.2.2.2.2.2.1)
              have HS39_ := (hb.cell (World.block_lt_of_cell? _ _ (hHeld.2.2.2.2.2.2.2.2.2.2.2.2.2.2.2.2.2.2.2.2.2.2.2.2.2.2.2.2.2.2.2.2.2.2.2.2.2.2.2.1))).trans (hHeld.2.2.2.2.2.2.2.2.2.2.2.2.2.2.2.2.2.2.2.2.2.2.2.2.2.2.2.2.2.2.2.2.2.2.2.2.2.2.2.1)
              have HS40_ := (hb.cell (World.block_lt_of_cell? _ _ (hHeld.2.2.2.2.2.2.2.2.2.2.2.2.2.2.2.2.2.2.2.2.2.2.2.2.2.2.2.2.2.2.2.2.2.2.2.2.2.2.2.2.1))).trans (hHeld.2.2.2.2.2.2.2.2.2.2.2.2.2.2.2.2.2.2.2.2.2.2.2.2.2.2.2.2.2.2.2.2.2.2.2.2.2.2.2.2.1)
              have HS41_ := (hb.cell (World.block_lt_of_cell? _ _ (hHeld.2.2.2.2.2.2.2.2.2.2.2.2.2.2.2.2.2.2.2.2.2.2.2.2.2.2.2.2.2.2.2.2.2.2.2.2.2.2.2.2.2.1))).trans (hHeld.2.2.2.2.2.2.2.2.2.2.2.2.2.2.2.2.2.2.2.2.2.2.2.2.2.2.2.2.2.2.2.2.2.2.2.2.2.2.2.2.2.1)
              have HS42_ := (hb.cell (World.block_lt_of_cell? _ _ (hHeld.2.2.2.2.2.2.2.2.2.2.2.2.2.2.2.2.2.2.2.2.2.2.2.2.2.2.2.2.2.2.2.2.2.2.2.2.2.2.2.2.2.2.1))).trans (hHeld.2.2.2.2.2.2.2.2.2.2.2.2.2.2.2.2.2.2.2.2.2.2.2.2.2.2.2.2.2.2.2.2.2.2.2.2.2.2.2.2.2.2.1)
              have HS43_ := (hb.cell (World.block_lt_of_cell? _ _ (hHeld.2.2.2.2.2.2.2.2.2.2.2.2.2.2.2.2.2.2.2.2.2.2.2.2.2.2.2.2.2.2.2.2.2.2.2.2.2.2.2.2.2.2.2.1))).trans (hHeld.2.2.2.2.2.2.2.2.2.2.2.2.2.2.2.2.2.2.2.2.2.2.2.2.2.2.2.2.2.2.2.2.2.2.2.2.2.2.2.2.2.2.2.1)
              have HS44_ := (hb.cell (World.block_lt_of_cell? _ _ (hHeld.2.2.2.2.2.2.2.2.2.2.2.2.2.2.2.2.2.2.2.2.2.2.2.2.2.2.2.2.2.2.2.2.2.2.2.2.2.2.2.2.2.2.2.2.1))).trans (hHeld.2.2.2.2.2.2.2.2.2.2.2.2.2.2.2.2.2.2.2.2.2.2.2.2.2.2.2.2.2.2.2.2.2.2.2.2.2.2.2.2.2.2.2.2.1)
              have HS45_ := (hb.cell (World.block_lt_of_cell? _ _ (hHeld.2.2.2.2.2.2.2.2.2.2.2.2.2.2.2.2.2.2.2.2.2.2.2.2.2.2.2.2.2.2.2.2.2.2.2.2.2.2.2.2.2.2.2.2.2.1))).trans (hHeld.2.2.2.2.2.2.2.2.2.2.2.2.2.2.2.2.2.2.2.2.2.2.2.2.2.2.2.2.2.2.2.2.2.2.2.2.2.2.2.2.2.2.2.2.2.1)
              have HS46_ := (hb.cell (World.block_lt_of_cell? _ _ (hHeld.2.2.2.2.2.2.2.2.2.2.2.2.2.2.2.2.2.2.2.2.2.2.2.2.2.2.2.2.2.2.2.2.2.2.2.2.2.2.2.2.2.2.2.2.2.2.1))).trans (hHeld.2.2.2.2.2.2.2.2.2.2.2.2.2.2.2.2.2.2.2.2.2.2.2.2.2.2.2.2.2.2.2.2.2.2.2.2.2.2.2.2.2.2.2.2.2.2.1)
              have HS47_ := (hb.cell (World.block_lt_of_cell? _ _ (hHeld.2.2.2.2.2.2.2.2.2.2.2.2.2.2.2.2.2.2.2.2.2.2.2.2.2.2.2.2.2.2.2.2.2.2.2.2.2.2.2.2.2.2.2.2.2.2.2))).trans (hHeld.2.2.2.2.2.2.2.2.2.2.2.2.2.2.2.2.2.2.2.2.2.2.2.2.2.2.2.2.2.2.2.2.2.2.2.2.2.2.2.2.2.2.2.2.2.2.2)
              refine ⟨_, rfl, ?_⟩
              have n0_ := am (Kd.R_below u15_7 hb)
              have n1_ := am (Kd.R_below u15_6 hb)
              have n2_ := am (Kd.R_below u15_14 hb)
              have n3_ := am (Kd.R_below u15_12 hb)
              have n4_ := am (blk_below (g := gb615) (o := zo6 (l0.length : Int) (-7)) u15_9 hb)
              have n5_ := am (below_step u15_2 hb)
              clear HO_3 HO_6 HO_8 HO_10 BK615 HB
              have HO_3 := n0_
              have HO_6 := n1_
              have HO_8 := n2_
              have HO_10 := n3_
              have BK615 := n4_
              have HB := n5_
              clear n0_ n1_ n2_ n3_ n4_ n5_
              (try clear hb)
              (try clear hb2)
              (try clear hk)
              (try clear hi)
              refine hK.out _ _ ⟨HS0_, HS1_, HS2_, HS3_, HS4_, HS5_, HS6_, HS7_, HS8_, HS9_, HS10_, HS11_, HS12_, HS13_, HS14_, HS15_, HS16_, HS17_, HS18_, HS19_, HS20_, HS21_, HS22_, HS23_, HS24_, HS25_, HS26_, HS27_, HS28_, HS29_, HS30_, HS31_, HS32_, HS33_, HS34_, HS35_, HS36_, HS37_, HS38_, HS39_, HS40_, HS41_, HS42_, HS43_, HS44_, HS45_, HS46_, HS47_⟩ (fun hHeld => ?_)
              clear hK K
              refine norm_ (a' := ?_) ?_ ?_
              rotate_left
              ·show Act.put _ (some 101) _ = _
               simp only [Act.put, List.setIfInBounds_toArray, List.set_cons_zero, List.set_cons_succ, i64_w, i32_w]
               rfl
              refine one_ (i := 38) (N := some 108) mk15_50 rfl rfl (one_of HT_.out (by kernel_rfl)) (by decide) (fun K hK => ?_)
              refine goes_ Try.func53 (by kernel_rfl) rfl #[.slice (some ad626) t600.length co10, .string ((rd_T87 t600 x12_2).f0)] (by rfl) rfl rfl u15_3 ?_
              with_reducible refine (impl_PumpOf.calls k2 _ _ t600 ((rd_T87 t600 x12_2).f0) t632 _ ?side1 ?side2 A39.out).mono ?_
              (case side1 => exact s15_2)
              (case side2 => exact (Kd.R_reads' HO_3.out).2.1)
              rintro e w46 ⟨rfl, hb⟩
              have HS0_ := (hb.cell (World.block_lt_of_cell? _ _ (hHeld.1))).trans (hHeld.1)
              have HS1_ := (hb.cell (World.block_lt_of_cell? _ _ (hHeld.2.1))).trans (hHeld.2.1)
              have HS2_ := (hb.cell (World.block_lt_of_cell? _ _ (hHeld.2.2.1))).trans (hHeld.2.2.1)
              have HS3_ := (hb.cell (World.block_lt_of_cell? _ _ (hHeld.2.2.2.1))).trans (hHeld.2.2.2.1)
              have HS4_ := (hb.cell (World.block_lt_of_cell? _ _ (hHeld.2.2.2.2.1))).trans (hHeld.2.2.2.2.1)
              have HS5_ := (hb.cell (World.block_lt_of_cell? _ _ (hHeld.2.2.2.2.2.1))).trans (hHeld.2.2.2.2.2.1)
              have HS6_ := (hb.cell (World.block_lt_of_cell? _ _ (hHeld.2.2.2.2.2.2.1))).trans (hHeld.2.2.2.2.2.2.1)
              have HS7_ := (hb.cell (World.block_lt_of_cell? _ _ (hHeld.2.2.2.2.2.2.2.1))).trans (hHeld.2.2.2.2.2.2.2.1)
              have HS8_ := (hb.cell (World.block_lt_of_cell? _ _ (hHeld.2.2.2.2.2.2.2.2.1))).trans (hHeld.2.2.2.2.2.2.2.2.1)
              have HS9_ := (hb.cell (World.block_lt_of_cell? _ _ (hHeld.2.2.2.2.2.2.2.2.2.1))).trans (hHeld.2.2.2.2.2.2.2.2.2.1)
              have HS10_ := (hb.cell (World.block_lt_of_cell? _ _ (hHeld.2.2.2.2.2.2.2.2.2.2.1))).trans (hHeld.2.2.2.2.2.2.2.2.2.2.1)
              have HS11_ := (hb.cell (World.block_lt_of_cell? _ _ (hHeld.2.2.2.2.2.2.2.2.2.2.2.1))).trans (hHeld.2.2.2.2.2.2.2.2.2.2.2.1)
              have HS12_ := (hb.cell (World.block_lt_of_cell? _ _ (hHeld.2.2.2.2.2.2.2.2.2.2.2.2.1))).trans (hHeld.2.2.2.2.2.2.2.2.2.2.2.2.1)
              have HS13_ := (hb.cell (World.block_lt_of_cell? _ _ (hHeld.2.2.2.2.2.2.2.2.2.2.2.2.2.1))).trans (hHeld.2.2.2.2.2.2.2.2.2.2.2.2.2.1)
              have HS14_ := (hb.cell (World.block_lt_of_cell? _ _ (hHeld.2.2.2.2.2.2.2.2.2.2.2.2.2.2.1))).trans (hHeld.2.2.2.2.2.2.2.2.2.2.2.2.2.2.1)
              have HS15_ := (hb.cell (World.block_lt_of_cell? _ _ (hHeld.2.2.2.2.2.2.2.2.2.2.2.2.2.2.2.1))).trans (hHeld.2.2.2.2.2.2.2.2.2.2.2.2.2.2.2.1)
              have HS16_ := (hb.cell (World.block_lt_of_cell? _ _ (hHeld.2.2.2.2.2.2.2.2.2.2.2.2.2.2.2.2.1))).trans (hHeld.2.2.2.2.2.2.2.2.2.2.2.2.2.2.2.2.1)
              have HS17_ := (hb.cell (World.block_lt_of_cell? _ _ (hHeld.2.2.2.2.2.2.2.2.2.2.2.2.2.2.2.2.2.1))).trans (hHeld.2.2.2.2.2.2.2.2.2.2.2.2.2.2.2.2.2.1)
              have HS18_ := (hb.cell (World.block_lt_of_cell? _ _ (hHeld.2.2.2.2.2.2.2.2.2.2.2.2.2.2.2.2.2.2.1))).trans (hHeld.2.2.2.2.2.2.2.2.2.2.2.2.2.2.2.2.2.2.1)
              have HS19_ := (hb.cell (World.block_lt_of_cell? _ _ (hHeld.2.2.2.2.2.2.2.2.2.2.2.2.2.2.2.2.2.2.2.1))).trans (hHeld.2.2.2.2.2.2.2.2.2.2.2.2.2.2.2.2.2.2.2.1)
              have HS20_ := (hb.cell (World.block_lt_of_cell? _ _ (hHeld.2.2.2.2.2.2.2.2.2.2.2.2.2.2.2.2.2.2.2.2.1))).trans (hHeld.2.2.2.2.2.2.2.2.2.2.2.2.2.2.2.2.2.2.2.2.1)
              have HS21_ := (hb.cell (World.block_lt_of_cell? _ _ (hHeld.2.2.2.2.2.2.2.2.2.2.2.2.2.2.2.2.2.2.2.2.2.1))).trans (hHeld.2.2.2.2.2.2.2.2.2.2.2.2.2.2.2.2.2.2.2.2.2.1)
              have HS22_ := (hb.cell (World.block_lt_of_cell? _ _ (hHeld.2.2.2.2.2.2.2.2.2.2.2.2.2.2.2.2.2.2.2.2.2.2.1))).trans (hHeld.2.2.2.2.2.2.2.2.2.2.2.2.2.2.2.2.2.2.2.2.2.2.1)
              have HS23_ := (hb.cell (World.block_lt_of_cell? _ _ (hHeld.2.2.2.2.2.2.2.2.2.2.2.2.2.2.2.2.2.2.2.2.2.2.2.1))).trans (hHeld.2.2.2.2.2.2.2.2.2.2.2.2.2.2.2.2.2.2.2.2.2.2.2.1)
              have HS24_ := (hb.cell (World.block_lt_of_cell? _ _ (hHeld.2.2.2.2.2.2.2.2.2.2.2.2.2.2.2.2.2.2.2.2.2.2.2.2.1))).trans (hHeld.2.2.2.2.2.2.2.2.2.2.2.2.2.2.2.2.2.2.2.2.2.2.2.2.1)
              have HS25_ := (hb.cell (World.block_lt_of_cell? _ _ (hHeld.2.2.2.2.2.2.2.2.2.2.2.2.2.2.2.2.2.2.2.2.2.2.2.2.2.1))).trans (hHeld.2.2.2.2.2.2.2.2.2.2.2.2.2.2.2.2.2.2.2.2.2.2.2.2.2.1)
              have HS26_ := (hb.cell (World.block_lt_of_cell? _ _ (hHeld.2.2.2.2.2.2.2.2.2.2.2.2.2.2.2.2.2.2.2.2.2.2.2.2.2.2.1))).trans (hHeld.2.2.2.2.2.2.2.2.2.2.2.2.2.2.2.2.2.2.2.2.2.2.2.2.2.2.1)
              have HS27_ := (hb.cell (World.block_lt_of_cell? _ _ (hHeld.2.2.2.2.2.2.2.2.2.2.2.2.2.2.2.2.2.2.2.2.2.2.2.2.2.2.2.1))).trans (hHeld.2.2.2.2.2.2.2.2.2.2.2.2.2.2.2.2.2.2.2.2.2.2.2.2.2.2.2.1)
              have HS28_ := (hb.cell (World.block_lt_of_cell? _ _ (hHeld.2.2.2.2.2.2.2.2.2.2.2.2.2.2.2.2.2.2.2.2.2.2.2.2.2.2.2.2.1))).trans (hHeld.2.2.2.2.2.2.2.2.2.2.2.2.2.2.2.2.2.2.2.2.2.2.2.2.2.2.2.2.1)
              have HS29_ := (hb.cell (World.block_lt_of_cell? _ _ (hHeld.2.2.2.2.2.2.2.2.2.2.2.2.2.2.2.2.2.2.2.2.2.2.2.2.2.2.2.2.2.1))).trans (hHeld.2.2.2.2.2.2.2.2.2.2.2.2.2.2.2.2.2.2.2.2.2.2.2.2.2.2.2.2.2.1)
              have HS30_ := (hb.cell (World.block_lt_of_cell? _ _ (hHeld.2.2.2.2.2.2.2.2.2.2.2.2.2.2.2.2.2.2.2.2.2.2.2.2.2.2.2.2.2.2.1))).trans (hHeld.2.2.2.2.2.2.2.2.2.2.2.2.2.2.2.2.2.2.2.2.2.2.2.2.2.2.2.2.2.2.1)
              have HS31_ := (hb.cell (World.block_lt_of_cell? _ _ (hHeld.2.2.2.2.2.2.2.2.2.2.2.2.2.2.2.2.2.2.2.2.2.2.2.2.2.2.2.2.2.2.2.1))).trans (hHeld.2.2.2.2.2.2.2.2.2.2.2.2.2.2.2.2.2.2.2.2.2.2.2.2.2.2.2.2.2.2.2.1)
              have HS32_ := (hb.cell (World.block_lt_of_cell? _ _ (hHeld.2.2.2.2.2.2.2.2.2.2.2.2.2.2.2.2.2.2.2.2.2.2.2.2.2.2.2.2.2.2.2.2.1))).trans (hHeld.2.2.2.2.2.2.2.2.2.2.2.2.2.2.2.2.2.2.2.2.2.2.2.2.2.2.2.2.2.2.2.2.1)
              have HS33_ := (hb.cell (World.block_lt_of_cell? _ _ (hHeld.2.2.2.2.2.2.2.2.2.2.2.2.2.2.2.2.2.2.2.2.2.2.2.2.2.2.2.2.2.2.2.2.2.1))).trans (hHeld.2.2.2.2.2.2.2.2.2.2.2.2.2.2.2.2.2.2.2.2.2.2.2.2.2.2.2.2.2.2.2.2.2.1)
              have HS34_ := (hb.cell (World.block_lt_of_cell? _ _ (hHeld.2.2.2.2.2.2.2.2.2.2.2.2.2.2.2.2.2.2.2.2.2.2.2.2.2.2.2.2.2.2.2.2.2.2.1))).trans (hHeld.2.2.2.2.2.2.2.2.2.2.2.2.2.2.2.2.2.2.2.2.2.2.2.2.2.2.2.2.2.2.2.2.2.2.1)
              have HS35_ := (hb.cell (World.block_lt_of_cell? _ _ (hHeld.2.2.2.2.2.2.2.2.2.2.2.2.2.2.2.2.2.2.2.2.2.2.2.2.2.2.2.2.2.2.2.2.2.2.2.1))).trans (hHeld.2.2.2.2.2.2.2.2.2.2.2.2.2.2.2.2.2.2.2.2.2.2.2.2.2.2.2.2.2.2.2.2.2.2.2.1)
              have HS36_ := (hb.cell (World.block_lt_of_cell? _ _ (hHeld.2.2.2.2.2.2.2.2.2.2.2.2.2.2.2.2.2.2.2.2.2.2.2.2.2.2.2.2.2.2.2.2.2.2.2.2.1))).trans (hHeld.2.2.2.2.2.2.2.2.2.2.2.2.2.2.2.2.2.2.2.2.2.2.2.2.2.2.2.2.2.2.2.2.2.2.2.2.1)
              have HS37_ := (hb.cell (World.block_lt_of_cell? _ _ (hHeld.2.2.2.2.2.2.2.2.2.2.2.2.2.2.2.2.2.2.2.2.2.2.2.2.2.2.2.2.2.2.2.2.2.2.2.2.2.1))).trans (hHeld.2.2.2.2.2.2.2.2.2.2.2.2.2.2.2.2.2.2.2.2.2.2.2.2.2.2.2.2.2.2.2.2.2.2.2.2.2.1)
              have HS38_ := (hb.cell (World.block_lt_of_cell? _ _ (hHeld.2.2.2.2.2.2.2.2.2.2.2.2.2.2.2.2.2.2.2.2.2.2.2.2.2.2.2.2.2.2.2.2.2.2.2.2.2.2.1))).trans (hHeld.2.2.2.2.2.2.2.2.2.2.2.2.2.2.2.2.2.2.2.2.2.2.2.2.2.2.2.2.2.2.2.2.2.2.2.2.2.2.1)
              have HS39_ := (hb.cell (World.block_lt_of_cell? _ _ (hHeld.2.2.2.2.2.2.2.2.2.2.2.2.2.2.2.2.2.2.2.2.2.2.2.2.2.2.2.2.2.2.2.2.2.2.2.2.2.2.2.1))).trans (hHeld.2.2.2.2.2.2.2.2.2.2.2.2.2.2.2.2.2.2.2.2.2.2.2.2.2.2.2.2.2.2.2.2.2.2.2.2.2.2.2.1)
              have HS40_ := (hb.cell (World.block_lt_of_cell? _ _ (hHeld.2.2.2.2.2.2.2.2.2.2.2.2.2.2.2.2.2.2.2.2.2.2.2.2.2.2.2.2.2.2.2.2.2.2.2.2.2.2.2.2.1))).trans (hHeld.2.2.2.2.2.2.2.2.2.2.2.2.2.2.2.2.2.2.2.2.2.2.2.2.2.2.2.2.2.2.2.2.2.2.2.2.2.2.2.2.1)
              have HS41_ := (hb.cell (World.block_lt_of_cell? _ _ (hHeld.2.2.2.2.2.2.2.2.2.2.2.2.2.2.2.2.2.2.2.2.2.2.2.2.2.2.2.2.2.2.2.2.2.2.2.2.2.2.2.2.2.1))).trans (hHeld.2.2.2.2.2.2.2.2.2.2.2.2.2.2.2.2.2.2.2.2.2.2.2.2.2.2.2.2.2.2.2.2.2.2.2.2.2.2.2.2.2.1)
              have HS42_ := (hb.cell (World.block_lt_of_cell? _ _ (hHeld.2.2.2.2.2.2.2.2.2.2.2.2.2.2.2.2.2.2.2.2.2.2.2.2.2.2.2.2.2.2.2.2.2.2.2.2.2.2.2.2.2.2.1))).trans (hHeld.2.2.2.2.2.2.2.2.2.2.2.2.2.2.2.2.2.2.2.2.2.2.2.2.2.2.2.2.2.2.2.2.2.2.2.2.2.2.2.2.2.2.1)
              have HS43_ := (hb.cell (World.block_lt_of_cell? _ _ (hHeld.2.2.2.2.2.2.2.2.2.2.2.2.2.2.2.2.2.2.2.2.2.2.2.2.2.2.2.2.2.2.2.2.2.2.2.2.2.2.2.2.2.2.2.1))).trans (hHeld.2.2.2.2.2.2.2.2.2.2.2.2.2.2.2.2.2.2.2.2.2.2.2.2.2.2.2.2.2.2.2.2.2.2.2.2.2.2.2.2.2.2.2.1)
              have HS44_ := (hb.cell (World.block_lt_of_cell? _ _ (hHeld.2.2.2.2.2.2.2.2.2.2.2.2.2.2.2.2.2.2.2.2.2.2.2.2.2.2.2.2.2.2.2.2.2.2.2.2.2.2.2.2.2.2.2.2.1))).trans (hHeld.2.2.2.2.2.2.2.2.2.2.2.2.2.2.2.2.2.2.2.2.2.2.2.2.2.2.2.2.2.2.2.2.2.2.2.2.2.2.2.2.2.2.2.2.1)
              have HS45_ := (hb.cell (World.block_lt_of_cell? _ _ (hHeld.2.2.2.2.2.2.2.2.2.2.2.2.2.2.2.2.2.2.2.2.2.2.2.2.2.2.2.2.2.2.2.2.2.2.2.2.2.2.2.2.2.2.2.2.2.1))).trans (hHeld.2.2.2.2.2.2.2.2.2.2.2.2.2.2.2.2.2.2.2.2.2.2.2.2.2.2.2.2.2.2.2.2.2.2.2.2.2.2.2.2.2.2.2.2.2.1)
              have HS46_ := (hb.cell (World.block_lt_of_cell? _ _ (hHeld.2.2.2.2.2.2.2.2.2.2.2.2.2.2.2.2.2.2.2.2.2.2.2.2.2.2.2.2.2.2.2.2.2.2.2.2.2.2.2.2.2.2.2.2.2.2.1))).trans (hHeld.2.2.2.2.2.2.2.2.2.2.2.2.2.2.2.2.2.2.2.2.2.2.2.2.2.2.2.2.2.2.2.2.2.2.2.2.2.2.2.2.2.2.2.2.2.2.1)
              have HS47_ := (hb.cell (World.block_lt_of_cell? _ _ (hHeld.2.2.2.2.2.2.2.2.2.2.2.2.2.2.2.2.2.2.2.2.2.2.2.2.2.2.2.2.2.2.2.2.2.2.2.2.2.2.2.2.2.2.2.2.2.2.2))).trans (hHeld.2.2.2.2.2.2.2.2.2.2.2.2.2.2.2.2.2.2.2.2.2.2.2.2.2.2.2.2.2.2.2.2.2.2.2.2.2.2.2.2.2.2.2.2.2.2.2)
              refine ⟨_, rfl, ?_⟩
              have n0_ := am (Kd.R_below u15_7 hb)
              have n1_ := am (Kd.R_below u15_6 hb)
              have n2_ := am (Kd.R_below u15_14 hb)
              have n3_ := am (Kd.R_below u15_12 hb)
              have n4_ := am (blk_below (g := gb615) (o := zo6 (l0.length : Int) (-7)) u15_9 hb)
              have n5_ := am (below_step u15_2 hb)
              clear HO_3 HO_6 HO_8 HO_10 BK615 HB
              have HO_3 := n0_
              have HO_6 := n1_
              have HO_8 := n2_
              have HO_10 := n3_
              have BK615 := n4_
              have HB := n5_
              clear n0_ n1_ n2_ n3_ n4_ n5_
              (try clear hb)
              (try clear hb2)
              (try clear hk)
              (try clear hi)
              refine hK.out _ _ ⟨HS0_, HS1_, HS2_, HS3_, HS4_, HS5_, HS6_, HS7_, HS8_, HS9_, HS10_, HS11_, HS12_, HS13_, HS14_, HS15_, HS16_, HS17_, HS18_, HS19_, HS20_, HS21_, HS22_, HS23_, HS24_, HS25_, HS26_, HS27_, HS28_, HS29_, HS30_, HS31_, HS32_, HS33_, HS34_, HS35_, HS36_, HS37_, HS38_, HS39_, HS40_, HS41_, HS42_, HS43_, HS44_, HS45_, HS46_, HS47_⟩ (fun hHeld => ?_)
              clear hK K
              refine norm_ (a' := ?_) ?_ ?_
              rotate_left
              ·show Act.put _ (some 108) _ = _
               simp only [Act.put, List.setIfInBounds_toArray, List.set_cons_zero, List.set_cons_succ, i64_w, i32_w]
               rfl
              refine pz 39 109 mk15_51 (any_of HT_.out (by kernel_rfl)) ?_
              refine pz 40 110 mk15_52 (any_of HT_.out (by kernel_rfl)) ?_
              refine done_ (done_of HT_.out (by kernel_rfl)) ?_
              try go_wp2
              go_ret
              exact ⟨by first | rfl | (simp [*] <;> rfl), s15_3⟩
            ·rw [if_neg c37] at H
             have c37b0 : (((rd_T87 t616 x12_2).f2).toList == ((rd_T87 t600 x12_2).f2).toList) = false := beq_eq_false_iff_ne.mpr c37
             have c37b1 : (((rd_T87 t616 x12_2).f2).toList != ((rd_T87 t600 x12_2).f2).toList) = true := bne_iff_ne.mpr c37
             obtain rfl := Option.some.inj H
             try go_wp2
             have n0_ := am (Kd.R_drew HO_3.out)
             have n1_ := am (Kd.R_drew HO_6.out)
             have n2_ := am (Kd.R_drew HO_8.out)
             have n3_ := am (Kd.R_drew HO_10.out)
             have n4_ := am (blk_drew BK615.out)
             have n5_ := am (below_drew1 HB.out)
             clear HO_3 HO_6 HO_8 HO_10 BK615 HB
             have HO_3 := n0_
             have HO_6 := n1_
             have HO_8 := n2_
             have HO_10 := n3_
             have BK615 := n4_
             have HB := n5_
             clear n0_ n1_ n2_ n3_ n4_ n5_
             have p625 : 0 ≤ (x12_2 : Int) := od u15_10
             have q625 : x12_2 < (t616.length : Int) := od u15_10
             obtain ⟨ad625, e625, hx625_0, hx625_1, hx625_2, hx625_3, hx625_4, hx625_5, hx625_6, hx625_7⟩ := at_T87 (Kd.R_reads' HO_8.out).2.2 x12_2 p625 q625
             cases e625
             replace p625 := eq_true p625
             replace q625 := eq_true q625
             have p626 : 0 ≤ (x12_2 : Int) := od u15_10
             have q626 : x12_2 < (t600.length : Int) := od u15_10
             obtain ⟨ad626, e626, hx626_0, hx626_1, hx626_2, hx626_3, hx626_4, hx626_5, hx626_6, hx626_7⟩ := at_T87 (Kd.R_reads' HO_3.out).2.2 x12_2 p626 q626
             cases e626
             replace p626 := eq_true p626
             replace q626 := eq_true q626
             have p627 : 0 ≤ (x12_2 : Int) := od u15_10
             have q627 : x12_2 < (t616.length : Int) := od u15_10
             obtain ⟨ad627, e627, hx627_0, hx627_1, hx627_2, hx627_3, hx627_4, hx627_5, hx627_6, hx627_7⟩ := at_T87 (Kd.R_reads' HO_8.out).2.2 x12_2 p627 q627
             obtain rfl : ad625 = ad627 := (by injection e627)
             replace p627 := eq_true p627
             replace q627 := eq_true q627
             have p628 : 0 ≤ (x12_2 : Int) := od u15_10
             have q628 : x12_2 < (t600.length : Int) := od u15_10
             obtain ⟨ad628, e628, hx628_0, hx628_1, hx628_2, hx628_3, hx628_4, hx628_5, hx628_6, hx628_7⟩ := at_T87 (Kd.R_reads' HO_3.out).2.2 x12_2 p628 q628
             obtain rfl : ad626 = ad628 := (by injection e628)
             replace p628 := eq_true p628
             replace q628 := eq_true q628
             refine start_ (n := 41) (S := fun w' => zc12 w' (ad625.add ((x12_2).toNat * 8)) (rd_T87 t616 x12_2) (zc12 w' (ad626.add ((x12_2).toNat * 8)) (rd_T87 t600 x12_2) (zc12 w' (ad625.add ((x12_2).toNat * 8)) (rd_T87 t616 x12_2) (zc2 w' (ad626.add ((x12_2).toNat * 8)) (rd_T87 t600 x12_2))))) (ds := []) mk15_0 (by kernel_rfl) rfl rfl ⟨hx625_0, hx625_1, hx625_2, hx625_3, hx625_4, hx625_5, hx625_6, hx625_7, hx626_0, hx626_1, hx626_2, hx626_3, hx626_4, hx626_5, hx626_6, hx626_7, hx627_0, hx627_1, hx627_2, hx627_3, hx627_4, hx627_5, hx627_6, hx627_7, hx628_0, hx628_1, hx628_2, hx628_3, hx628_4, hx628_5, hx628_6, hx628_7⟩ (fun hHeld => ?_); refine with_tabW laws_FnMovedRig.tab16 laws_FnMovedRig.bits16 (fun HT_ HW_ => ?_)
             generalize wr.drew = w47 at HO_3 HO_6 HO_8 HO_10 BK615 HB hx625_0 hx625_1 hx625_2 hx625_3 hx625_4 hx625_5 hx625_6 hx625_7 hx626_0 hx626_1 hx626_2 hx626_3 hx626_4 hx626_5 hx626_6 hx626_7 hx627_0 hx627_1 hx627_2 hx627_3 hx627_4 hx627_5 hx627_6 hx627_7 hx628_0 hx628_1 hx628_2 hx628_3 hx628_4 hx628_5 hx628_6 hx628_7 hHeld ⊢
             refine pz 0 70 mk15_1 (any_of HT_.out (by kernel_rfl)) ?_
             refine pz 1 71 mk15_2 (any_of HT_.out (by kernel_rfl)) ?_
             refine pz 2 72 mk15_3 (any_of HT_.out (by kernel_rfl)) ?_
             refine pz 3 73 mk15_4 (any_of HT_.out (by kernel_rfl)) ?_
             refine pz 5 75 mk15_5 (any_of HT_.out (by kernel_rfl)) ?_
             refine pz 6 76 mk15_6 (any_of HT_.out (by kernel_rfl)) ?_
             refine pz 7 77 mk15_7 (any_of HT_.out (by kernel_rfl)) ?_
             refine pz 8 78 mk15_8 (any_of HT_.out (by kernel_rfl)) ?_
             refine take_ (i := 4) (N := some 74) (v := ?_) (a' := ?_) mk15_9 rfl rfl (take_ofW HT_.out HW_.out (by kernel_rfl)) (fun _ _ _ h => h) (Or.inl ⟨by rfl, ?_⟩) hHeld ?_ ?_
             rotate_left
             ·rintro w' ⟨s0, s1, s2, s3, s4, s5, s6, s7, s8, s9, s10, s11, s12, s13, s14, s15, s16, s17, s18, s19, s20, s21, s22, s23, s24, s25, s26, s27, s28, s29, s30, s31⟩
              exact gs
             rotate_left
             ·exact ap
             refine take_ (i := 9) (N := some 79) (v := ?_) (a' := ?_) mk15_10 rfl rfl (take_ofW HT_.out HW_.out (by kernel_rfl)) (fun _ _ _ h => h) (Or.inl ⟨by rfl, ?_⟩) hHeld ?_ ?_
             rotate_left
             ·rintro w' ⟨s0, s1, s2, s3, s4, s5, s6, s7, s8, s9, s10, s11, s12, s13, s14, s15, s16, s17, s18, s19, s20, s21, s22, s23, s24, s25, s26, s27, s28, s29, s30, s31⟩
              exact gs
             rotate_left
             ·exact ap
             refine pz 10 80 mk15_11 (any_of HT_.out (by kernel_rfl)) ?_
             refine pz 11 81 mk15_12 (any_of HT_.out (by kernel_rfl)) ?_
             refine pz 12 82 mk15_13 (any_of HT_.out (by kernel_rfl)) ?_
             refine pz 13 83 mk15_14 (any_of HT_.out (by kernel_rfl)) ?_
             refine pz 14 84 mk15_15 (any_of HT_.out (by kernel_rfl)) ?_
             refine pz 15 85 mk15_16 (any_of HT_.out (by kernel_rfl)) ?_
             refine pz 17 87 mk15_17 (any_of HT_.out (by kernel_rfl)) ?_
             refine pz 18 88 mk15_18 (any_of HT_.out (by kernel_rfl)) ?_
             refine pz 19 89 mk15_19 (any_of HT_.out (by kernel_rfl)) ?_
             refine pz 20 90 mk15_20 (any_of HT_.out (by kernel_rfl)) ?_
             refine take_ (i := 16) (N := some 86) (v := ?_) (a' := ?_) mk15_25 rfl rfl (take_ofW HT_.out HW_.out (by kernel_rfl)) (fun _ _ _ h => h) (Or.inl ⟨by rfl, ?_⟩) hHeld ?_ ?_
             rotate_left
             ·rintro w' ⟨s0, s1, s2, s3, s4, s5, s6, s7, s8, s9, s10, s11, s12, s13, s14, s15, s16, s17, s18, s19, s20, s21, s22, s23, s24, s25, s26, s27, s28, s29, s30, s31⟩
              exact gs
             rotate_left
             ·exact ap
             refine take_ (i := 21) (N := some 91) (v := ?_) (a' := ?_) mk15_26 rfl rfl (take_ofW HT_.out HW_.out (by kernel_rfl)) (fun _ _ _ h => h) (Or.inl ⟨by rfl, ?_⟩) hHeld ?_ ?_
             rotate_left
             ·rintro w' ⟨s0, s1, s2, s3, s4, s5, s6, s7, s8, s9, s10, s11, s12, s13, s14, s15, s16, s17, s18, s19, s20, s21, s22, s23, s24, s25, s26, s27, s28, s29, s30, s31⟩
              exact gs
             rotate_left
             ·exact ap
             refine pz 22 92 mk15_27 (any_of HT_.out (by kernel_rfl)) ?_
             refine pz 23 93 mk15_28 (any_of HT_.out (by kernel_rfl)) ?_
             refine pz 24 94 mk15_29 (any_of HT_.out (by kernel_rfl)) ?_
             refine pure_ (i := 25) (N := some 95) (v := undef) (a' := ?_) mk15_30 rfl rfl (any_of HT_.out (by kernel_rfl)) (fun _ _ _ h => h) (Or.inr ⟨by rfl, rfl⟩) ?_ ?_
             rotate_left
             ·exact ap
             refine pure_ (i := 26) (N := some 96) (v := undef) (a' := ?_) mk15_31 rfl rfl (any_of HT_.out (by kernel_rfl)) (fun _ _ _ h => h) (Or.inr ⟨by rfl, rfl⟩) ?_ ?_
             rotate_left
             ·exact ap
             refine pure_ (i := 27) (N := some 97) (v := undef) (a' := ?_) mk15_32 rfl rfl (any_of HT_.out (by kernel_rfl)) (fun _ _ _ h => h) (Or.inr ⟨by rfl, rfl⟩) ?_ ?_
             rotate_left
             ·exact ap
             refine pure_ (i := 28) (N := some 98) (v := undef) (a' := ?_) mk15_33 rfl rfl (any_of HT_.out (by kernel_rfl)) (fun _ _ _ h => h) (Or.inr ⟨by rfl, rfl⟩) ?_ ?_
             rotate_left
             ·exact ap
             refine pure_ (i := 29) (N := some 99) (v := undef) (a' := ?_) mk15_34 rfl rfl (any_of HT_.out (by kernel_rfl)) (fun _ _ _ h => h) (Or.inr ⟨by rfl, rfl⟩) ?_ ?_
             rotate_left
             ·exact ap
             refine pure_ (i := 30) (N := some 100) (v := undef) (a' := ?_) mk15_40 rfl rfl (any_of HT_.out (by kernel_rfl)) (fun _ _ _ h => h) (Or.inr ⟨by rfl, rfl⟩) ?_ ?_
             rotate_left
             ·exact ap
             refine pure_ (i := 31) (N := some 101) (v := undef) (a' := ?_) mk15_43 rfl rfl (any_of HT_.out (by kernel_rfl)) (fun _ _ _ h => h) (Or.inr ⟨by rfl, rfl⟩) ?_ ?_
             rotate_left
             ·exact ap
             refine pure_ (i := 32) (N := some 102) (v := undef) (a' := ?_) mk15_44 rfl rfl (any_of HT_.out (by kernel_rfl)) (fun _ _ _ h => h) (Or.inr ⟨by rfl, rfl⟩) ?_ ?_
             rotate_left
             ·exact ap
             refine pure_ (i := 33) (N := some 103) (v := undef) (a' := ?_) mk15_45 rfl rfl (any_of HT_.out (by kernel_rfl)) (fun _ _ _ h => h) (Or.inr ⟨by rfl, rfl⟩) ?_ ?_
             rotate_left
             ·exact ap
             refine pure_ (i := 34) (N := some 104) (v := undef) (a' := ?_) mk15_46 rfl rfl (any_of HT_.out (by kernel_rfl)) (fun _ _ _ h => h) (Or.inr ⟨by rfl, rfl⟩) ?_ ?_
             rotate_left
             ·exact ap
             refine pure_ (i := 35) (N := some 105) (v := undef) (a' := ?_) mk15_47 rfl rfl (any_of HT_.out (by kernel_rfl)) (fun _ _ _ h => h) (Or.inr ⟨by rfl, rfl⟩) ?_ ?_
             rotate_left
             ·exact ap
             refine pure_ (i := 36) (N := some 106) (v := undef) (a' := ?_) mk15_48 rfl rfl (any_of HT_.out (by kernel_rfl)) (fun _ _ _ h => h) (Or.inr ⟨by rfl, rfl⟩) ?_ ?_
             rotate_left
             ·exact ap
             refine pure_ (i := 37) (N := some 107) (v := undef) (a' := ?_) mk15_49 rfl rfl (any_of HT_.out (by kernel_rfl)) (fun _ _ _ h => h) (Or.inr ⟨by rfl, rfl⟩) ?_ ?_
             rotate_left
             ·exact ap
             refine pure_ (i := 38) (N := some 108) (v := undef) (a' := ?_) mk15_50 rfl rfl (any_of HT_.out (by kernel_rfl)) (fun _ _ _ h => h) (Or.inr ⟨by rfl, rfl⟩) ?_ ?_
             rotate_left
             ·exact ap
             refine pure_ (i := 39) (N := some 109) (v := undef) (a' := ?_) mk15_51 rfl rfl (any_of HT_.out (by kernel_rfl)) (fun _ _ _ h => h) (Or.inr ⟨by rfl, rfl⟩) ?_ ?_
             rotate_left
             ·exact ap
             refine pz 40 110 mk15_52 (any_of HT_.out (by kernel_rfl)) ?_
             refine done_ (done_of HT_.out (by kernel_rfl)) ?_
             try go_wp2
             go_ret
             exact ⟨by first | rfl | (simp [*] <;> rfl), s15_3⟩
           ·rw [if_neg c36] at H
            have c36b0 : (((rd_T87 t616 x12_2).f0).toList == ((rd_T87 t600 x12_2).f0).toList) = false := beq_eq_false_iff_ne.mpr c36
            have c36b1 : (((rd_T87 t616 x12_2).f0).toList != ((rd_T87 t600 x12_2).f0).toList) = true := bne_iff_ne.mpr c36
            obtain rfl := Option.some.inj H
            try go_wp2
            have n0_ := am (Kd.R_drew HO_3.out)
            have n1_ := am (Kd.R_drew HO_6.out)
            have n2_ := am (Kd.R_drew HO_8.out)
            have n3_ := am (Kd.R_drew HO_10.out)
            have n4_ := am (blk_drew BK615.out)
            have n5_ := am (below_drew1 HB.out)
            clear HO_3 HO_6 HO_8 HO_10 BK615 HB
            have HO_3 := n0_
            have HO_6 := n1_
            have HO_8 := n2_
            have HO_10 := n3_
            have BK615 := n4_
            have HB := n5_
            clear n0_ n1_ n2_ n3_ n4_ n5_
            have p625 : 0 ≤ (x12_2 : Int) := od u15_10
            have q625 : x12_2 < (t616.length : Int) := od u15_10
            obtain ⟨ad625, e625, hx625_0, hx625_1, hx625_2, hx625_3, hx625_4, hx625_5, hx625_6, hx625_7⟩ := at_T87 (Kd.R_reads' HO_8.out).2.2 x12_2 p625 q625
            cases e625
            replace p625 := eq_true p625
            replace q625 := eq_true q625
            have p626 : 0 ≤ (x12_2 : Int) := od u15_10
            have q626 : x12_2 < (t600.length : Int) := od u15_10
            obtain ⟨ad626, e626, hx626_0, hx626_1, hx626_2, hx626_3, hx626_4, hx626_5, hx626_6, hx626_7⟩ := at_T87 (Kd.R_reads' HO_3.out).2.2 x12_2 p626 q626
            cases e626
            replace p626 := eq_true p626
            replace q626 := eq_true q626
            refine start_ (n := 41) (S := fun w' => zc12 w' (ad625.add ((x12_2).toNat * 8)) (rd_T87 t616 x12_2) (zc2 w' (ad626.add ((x12_2).toNat * 8)) (rd_T87 t600 x12_2))) (ds := []) mk15_0 (by kernel_rfl) rfl rfl ⟨hx625_0, hx625_1, hx625_2, hx625_3, hx625_4, hx625_5, hx625_6, hx625_7, hx626_0, hx626_1, hx626_2, hx626_3, hx626_4, hx626_5, hx626_6, hx626_7⟩ (fun hHeld => ?_); refine with_tabW laws_FnMovedRig.tab16 laws_FnMovedRig.bits16 (fun HT_ HW_ => ?_)
            generalize wr.drew = w48 at HO_3 HO_6 HO_8 HO_10 BK615 HB hx625_0 hx625_1 hx625_2 hx625_3 hx625_4 hx625_5 hx625_6 hx625_7 hx626_0 hx626_1 hx626_2 hx626_3 hx626_4 hx626_5 hx626_6 hx626_7 hHeld ⊢
            refine pz 0 70 mk15_1 (any_of HT_.out (by kernel_rfl)) ?_
            refine pz 1 71 mk15_2 (any_of HT_.out (by kernel_rfl)) ?_
            refine pz 2 72 mk15_3 (any_of HT_.out (by kernel_rfl)) ?_
            refine pz 3 73 mk15_4 (any_of HT_.out (by kernel_rfl)) ?_
            refine pz 5 75 mk15_5 (any_of HT_.out (by kernel_rfl)) ?_
            refine pz 6 76 mk15_6 (any_of HT_.out (by kernel_rfl)) ?_
            refine pz 7 77 mk15_7 (any_of HT_.out (by kernel_rfl)) ?_
            refine pz 8 78 mk15_8 (any_of HT_.out (by kernel_rfl)) ?_
            refine take_ (i := 4) (N := some 74) (v := ?_) (a' := ?_) mk15_9 rfl rfl (take_ofW HT_.out HW_.out (by kernel_rfl)) (fun _ _ _ h => h) (Or.inl ⟨by rfl, ?_⟩) hHeld ?_ ?_
            rotate_left
            ·rintro w' ⟨s0, s1, s2, s3, s4, s5, s6, s7, s8, s9, s10, s11, s12, s13, s14, s15⟩
             exact gs
            rotate_left
            ·exact ap
            refine take_ (i := 9) (N := some 79) (v := ?_) (a' := ?_) mk15_10 rfl rfl (take_ofW HT_.out HW_.out (by kernel_rfl)) (fun _ _ _ h => h) (Or.inl ⟨by rfl, ?_⟩) hHeld ?_ ?_
            rotate_left
            ·rintro w' ⟨s0, s1, s2, s3, s4, s5, s6, s7, s8, s9, s10, s11, s12, s13, s14, s15⟩
             exact gs
            rotate_left
            ·exact ap
            refine pz 10 80 mk15_11 (any_of HT_.out (by kernel_rfl)) ?_
            refine pz 11 81 mk15_12 (any_of HT_.out (by kernel_rfl)) ?_
            refine pure_ (i := 12) (N := some 82) (v := undef) (a' := ?_) mk15_13 rfl rfl (any_of HT_.out (by kernel_rfl)) (fun _ _ _ h => h) (Or.inr ⟨by rfl, rfl⟩) ?_ ?_
            rotate_left
            ·exact ap
            refine pure_ (i := 13) (N := some 83) (v := undef) (a' := ?_) mk15_14 rfl rfl (any_of HT_.out (by kernel_rfl)) (fun _ _ _ h => h) (Or.inr ⟨by rfl, rfl⟩) ?_ ?_
            rotate_left
            ·exact ap
            refine pure_ (i := 14) (N := some 84) (v := undef) (a' := ?_) mk15_15 rfl rfl (any_of HT_.out (by kernel_rfl)) (fun _ _ _ h => h) (Or.inr ⟨by rfl, rfl⟩) ?_ ?_
            rotate_left
            ·exact ap
            refine pure_ (i := 15) (N := some 85) (v := undef) (a' := ?_) mk15_16 rfl rfl (any_of HT_.out (by kernel_rfl)) (fun _ _ _ h => h) (Or.inr ⟨by rfl, rfl⟩) ?_ ?_
            rotate_left
            ·exact ap
            refine pure_ (i := 16) (N := some 86) (v := undef) (a' := ?_) #[true, true, true, true, true, true, true, true, true, true, true, true, true, true, true, true, true, false, false, false, false, false, false, false, false, false, false, false, false, false, false, false, false, false, false, false, false, false, false, false, false] rfl rfl (any_of HT_.out (by kernel_rfl)) (fun _ _ _ h => h) (Or.inr ⟨by rfl, rfl⟩) ?_ ?_
            rotate_left
            ·exact ap
            refine pure_ (i := 17) (N := some 87) (v := undef) (a' := ?_) #[true, true, true, true, true, true, true, true, true, true, true, true, true, true, true, true, true, true, false, false, false, false, false, false, false, false, false, false, false, false, false, false, false, false, false, false, false, false, false, false, false] rfl rfl (any_of HT_.out (by kernel_rfl)) (fun _ _ _ h => h) (Or.inr ⟨by rfl, rfl⟩) ?_ ?_
            rotate_left
            ·exact ap
            refine pure_ (i := 18) (N := some 88) (v := undef) (a' := ?_) #[true, true, true, true, true, true, true, true, true, true, true, true, true, true, true, true, true, true, true, false, false, false, false, false, false, false, false, false, false, false, false, false, false, false, false, false, false, false, false, false, false] rfl rfl (any_of HT_.out (by kernel_rfl)) (fun _ _ _ h => h) (Or.inr ⟨by rfl, rfl⟩) ?_ ?_
            rotate_left
            ·exact ap
            refine pure_ (i := 19) (N := some 89) (v := undef) (a' := ?_) #[true, true, true, true, true, true, true, true, true, true, true, true, true, true, true, true, true, true, true, true, false, false, false, false, false, false, false, false, false, false, false, false, false, false, false, false, false, false, false, false, false] rfl rfl (any_of HT_.out (by kernel_rfl)) (fun _ _ _ h => h) (Or.inr ⟨by rfl, rfl⟩) ?_ ?_
            rotate_left
            ·exact ap
            refine pure_ (i := 20) (N := some 90) (v := undef) (a' := ?_) mk15_25 rfl rfl (any_of HT_.out (by kernel_rfl)) (fun _ _ _ h => h) (Or.inr ⟨by rfl, rfl⟩) ?_ ?_
            rotate_left
            ·exact ap
            refine pure_ (i := 21) (N := some 91) (v := undef) (a' := ?_) mk15_26 rfl rfl (any_of HT_.out (by kernel_rfl)) (fun _ _ _ h => h) (Or.inr ⟨by rfl, rfl⟩) ?_ ?_
            rotate_left
            ·exact ap
            refine pure_ (i := 22) (N := some 92) (v := undef) (a' := ?_) mk15_27 rfl rfl (any_of HT_.out (by kernel_rfl)) (fun _ _ _ h => h) (Or.inr ⟨by rfl, rfl⟩) ?_ ?_
            rotate_left
            ·exact ap
            refine pz 23 93 mk15_28 (any_of HT_.out (by kernel_rfl)) ?_
            refine pz 24 94 mk15_29 (any_of HT_.out (by kernel_rfl)) ?_
            refine pure_ (i := 25) (N := some 95) (v := undef) (a' := ?_) mk15_30 rfl rfl (any_of HT_.out (by kernel_rfl)) (fun _ _ _ h => h) (Or.inr ⟨by rfl, rfl⟩) ?_ ?_
            rotate_left
            ·exact ap
            refine pure_ (i := 26) (N := some 96) (v := undef) (a' := ?_) mk15_31 rfl rfl (any_of HT_.out (by kernel_rfl)) (fun _ _ _ h => h) (Or.inr ⟨by rfl, rfl⟩) ?_ ?_
            rotate_left
            ·exact ap
            refine pure_ (i := 27) (N := some 97) (v := undef) (a' := ?_) mk15_32 rfl rfl (any_of HT_.out (by kernel_rfl)) (fun _ _ _ h => h) (Or.inr ⟨by rfl, rfl⟩) ?_ ?_
            rotate_left
            ·exact ap
            refine pure_ (i := 28) (N := some 98) (v := undef) (a' := ?_) mk15_33 rfl rfl (any_of HT_.out (by kernel_rfl)) (fun _ _ _ h => h) (Or.inr ⟨by rfl, rfl⟩) ?_ ?_
            rotate_left
            ·exact ap
            refine pure_ (i := 29) (N := some 99) (v := undef) (a' := ?_) mk15_34 rfl rfl (any_of HT_.out (by kernel_rfl)) (fun _ _ _ h => h) (Or.inr ⟨by rfl, rfl⟩) ?_ ?_
            rotate_left
            ·exact ap
            refine pure_ (i := 30) (N := some 100) (v := undef) (a' := ?_) mk15_40 rfl rfl (any_of HT_.out (by kernel_rfl)) (fun _ _ _ h => h) (Or.inr ⟨by rfl, rfl⟩) ?_ ?_
            rotate_left
            ·exact ap
            refine pure_ (i := 31) (N := some 101) (v := undef) (a' := ?_) mk15_43 rfl rfl (any_of HT_.out (by kernel_rfl)) (fun _ _ _ h => h) (Or.inr ⟨by rfl, rfl⟩) ?_ ?_
            rotate_left
            ·exact ap
            refine pure_ (i := 32) (N := some 102) (v := undef) (a' := ?_) mk15_44 rfl rfl (any_of HT_.out (by kernel_rfl)) (fun _ _ _ h => h) (Or.inr ⟨by rfl, rfl⟩) ?_ ?_
            rotate_left
            ·exact ap
            refine pure_ (i := 33) (N := some 103) (v := undef) (a' := ?_) mk15_45 rfl rfl (any_of HT_.out (by kernel_rfl)) (fun _ _ _ h => h) (Or.inr ⟨by rfl, rfl⟩) ?_ ?_
            rotate_left
            ·exact ap
            refine pure_ (i := 34) (N := some 104) (v := undef) (a' := ?_) mk15_46 rfl rfl (any_of HT_.out (by kernel_rfl)) (fun _ _ _ h => h) (Or.inr ⟨by rfl, rfl⟩) ?_ ?_
            rotate_left
            ·exact ap
            refine pure_ (i := 35) (N := some 105) (v := undef) (a' := ?_) mk15_47 rfl rfl (any_of HT_.out (by kernel_rfl)) (fun _ _ _ h => h) (Or.inr ⟨by rfl, rfl⟩) ?_ ?_
            rotate_left
            ·exact ap
            refine pure_ (i := 36) (N := some 106) (v := undef) (a' := ?_) mk15_48 rfl rfl (any_of HT_.out (by kernel_rfl)) (fun _ _ _ h => h) (Or.inr ⟨by rfl, rfl⟩) ?_ ?_
            rotate_left
            ·exact ap
            refine pure_ (i := 37) (N := some 107) (v := undef) (a' := ?_) mk15_49 rfl rfl (any_of HT_.out (by kernel_rfl)) (fun _ _ _ h => h) (Or.inr ⟨by rfl, rfl⟩) ?_ ?_
            rotate_left
            ·exact ap
            refine pure_ (i := 38) (N := some 108) (v := undef) (a' := ?_) mk15_50 rfl rfl (any_of HT_.out (by kernel_rfl)) (fun _ _ _ h => h) (Or.inr ⟨by rfl, rfl⟩) ?_ ?_
            rotate_left
            ·exact ap
            refine pure_ (i := 39) (N := some 109) (v := undef) (a' := ?_) mk15_51 rfl rfl (any_of HT_.out (by kernel_rfl)) (fun _ _ _ h => h) (Or.inr ⟨by rfl, rfl⟩) ?_ ?_
            rotate_left
            ·exact ap
            refine pz 40 110 mk15_52 (any_of HT_.out (by kernel_rfl)) ?_
            refine done_ (done_of HT_.out (by kernel_rfl)) ?_
            try go_wp2
            go_ret
            exact ⟨by first | rfl | (simp [*] <;> rfl), s15_3⟩
          ·rw [if_neg c35] at H
           exact absurd H (by simp)
         ·rw [if_neg c34] at H
          exact absurd H (by simp)
        ·rw [if_neg c33] at H
         have c33b0 : decide (x12_2 < (t600.length : Int)) = false := decide_eq_false c33
         clear c33
         by_cases c49 : t623 = true
         ·subst c49
          have H1 : ((laws_rigs.f k2 t620 t607).bind fun t624 => (some t624)) = some r := by rw [if_pos rfl] at H; exact H
          clear H
          have H := H1
          clear H1
          replace H := Option.bind_eq_some_iff.mp H
          obtain ⟨t624, A500, H⟩ := H
          replace H : (some t624) = some r := H
          have A50 := am A500
          clear A500
          obtain rfl := Option.some.inj H
          obtain ⟨Ao51, co51, eo51⟩ := Kd.R_slice HO_10.out
          subst eo51
          go_wp2_with (first | (go_at_call 51; (with_reducible refine (laws_rigs.calls k2 _ _ t620 _ _ t607 t624 _ ?side1 ?side2 ?side3 ?side4 A50.out).mono ?_); (case side1 => repeat (first | exact (Kd.R_reads' HO_10.out).2.2 | (with_reducible refine Kd.C_alloc ?_ _) | (with_reducible refine Kd.C_drewN ?_ _) | (with_reducible refine Kd.C_drew ?_))); (case side2 => exact (Kd.R_reads' HO_10.out).2.1); (case side3 => repeat (first | exact (Kd.R_reads' HO_6.out).2.2 | (with_reducible refine Kd.C_alloc ?_ _) | (with_reducible refine Kd.C_drewN ?_ _) | (with_reducible refine Kd.C_drew ?_))); (case side4 => exact (Kd.R_reads' HO_6.out).2.1); rintro e w' ⟨rfl, ⟨nd, rfl⟩⟩))
          go_ret
          exact ⟨by first | rfl | (simp [*] <;> rfl), s15_3⟩
         ·replace c49 := Bool.eq_false_iff.mpr c49
          subst c49
          have H1 : (some false) = some r := by rw [if_neg (show ¬ (false = true) by decide)] at H; exact H
          clear H
          have H := H1
          clear H1
          obtain rfl := Option.some.inj H
          go_wp2
          go_ret
          exact ⟨by first | rfl | (simp [*] <;> rfl), s15_3⟩
     ·replace c24 := Bool.eq_false_iff.mpr c24
      subst c24
      have H1 : (some ((t616.length : Int) == 0)) = some r := by rw [if_neg (show ¬ (false = true) by decide)] at H; exact H
      clear H
      have H := H1
      clear H1
      obtain rfl := Option.some.inj H
      go_wp2_with (first | ((with_reducible refine gate_dst (N := 7) rfl ?_); refine box_event ?hg (N := 7) ?hd (cs := #[.int .i64 0, .int .i64 0]) (t := 66) ?hr ?_; (case hd => rfl); (case hg => rfl); (case hr => exact gq); intro gb615 hg w52 hbox hb; have n0_ := am (Kd.R_below u15_7 hb); have n1_ := am (Kd.R_below u15_6 hb); have n2_ := am (below_step u15_0 hb); have n3_ := am (hbox); have n4_ := bsw w hg (below_size u15_0); have n5_ := bsw w hg (below_size u15_0); clear HO_3 HO_6 HB; have HO_3 := n0_; have HO_6 := n1_; have HB := n2_; have BK615 := n3_; have GW615 := n4_; have GE615 := n5_; clear n0_ n1_ n2_ n3_ n4_ n5_ hb hbox hg; obtain ⟨hcz53_0, hcz53_1, hfz53_0, hfz53_1⟩ := cf2 BK615.out; obtain ⟨Ao54, co54, eo54⟩ := Kd.R_slice HO_6.out; subst eo54) | ((with_reducible refine gate_callee (f := 52) rfl ?_); refine goesL_ (some 44) rfl rfl Try.func52 (by kernel_rfl) rfl #[.slice Ao54 t607.length co54, .agg #[.int .i64 (l0.length : Int), .int .i64 (-7)]] rfl u15_3 ?_; (with_reducible refine (impl_ShiftRig.calls kj6 _ _ t607 (l0.length : Int) (-7) t616 false _ ?side1 ?side2 A23.out).mono ?_); (case side1 => refine (Kd.R_reads' (e := 87) (base := w.heap.size) (ok := fun k_ => some k_ ≠ (.slice Ao10 t600.length co10 : Value).ownBlock) (n := t607.length) (c := co54) ?_).2.2; exact u15_1); (case side2 => exact (Kd.R_reads' HO_6.out).2.1); rintro e w55 ⟨v617, rfl, ho0, hb⟩; refine ⟨_, rfl, ?_⟩; have n0_ := am (Kd.R_elder' u15_4 (Kd.R_base ho0) hb); have n1_ := am (Kd.R_elder' u15_1 (Kd.R_base ho0) hb); have n2_ := am (Kd.R_lower (Kd.R_new' (Kd.R_new' ho0 (Kd.R_lt u15_4)) (Kd.R_lt u15_1)) (below_size u15_2)); have n3_ := am (blk_below (g := gb615) (o := zo6 (l0.length : Int) (-7)) u15_11 hb); have n4_ := am (below_step u15_2 hb); clear HO_3 HO_6 BK615 HB; have HO_3 := n0_; have HO_6 := n1_; have HO618 := n2_; have BK615 := n3_; have HB := n4_; clear n0_ n1_ n2_ n3_ n4_; (try clear hb); (try clear hb2); (try clear hk); (try clear hi); (try clear ho0); obtain ⟨Ao56, co56, eo56⟩ := Kd.R_slice HO618.out; subst eo56))
      go_ret
      exact ⟨by first | rfl | (simp [*] <;> rfl), s15_3⟩

end Go.Proofs.Ytkljnmojnkiafaa.MFnMovedRig
