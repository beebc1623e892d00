-- Written by a program for this claim.
import Derived.Test.YtkedcokhcgklpaaMFnRigx0
import Derived.Test.YtkedcokhcgklpaaMFnRigx1
import Derived.Test.YtkedcokhcgklpaaMFnRigx2
import Derived.Test.YtkedcokhcgklpaaMFnRigx4
import Derived.Test.YtkedcokhcgklpaaMFnRigx5
import Derived.Test.YtkedcokhcgklpaaMFnRigx6
import Derived.Test.YtkedcokhcgklpaaMFnRigx13
import Derived.Test.YtkedcokhcgklpaaMFnRigx14
namespace Go.Proofs.Ytkedcokhcgklpaa.MFnRig
open Go.RowKit Go.Proofs.YtkedcokhcgklpaaW.PrintWords Go.Proofs.YtkedcokhcgklpaaW.PrintLast Go.Proofs.YtkedcokhcgklpaaW.PrintMore
attribute [local go_sem] max2_int min2_int max_two min_two max_three min_three max_four min_four   -- for this text's walks alone
set_option linter.unusedVariables false
set_option linter.unusedSimpArgs false

attribute [local go_sem high] eqA30
theorem s15_0 {p : Prop} (h : p := by repeat (first | exact (Kd.Q_reads' HO572.out).2.2 | (with_reducible refine Kd.C_alloc ?_ _) | (with_reducible refine Kd.C_drewN ?_ _) | (with_reducible refine Kd.C_drew ?_))) : p := h
theorem s15_1 {p : Prop} (h : p := by repeat (first | (with_reducible first | exact HB.out | apply below_alloc | apply pw_below_drewN | apply below_drew1 | refine below_set ?_ GE581.out) | exact HB.out)) : p := h
theorem y15_1 {p : Prop} (h : p := by repeat (first | exact (Kd.R_reads' HO584.out).2.2 | (with_reducible refine Kd.C_alloc ?_ _) | (with_reducible refine Kd.C_drewN ?_ _) | (with_reducible refine Kd.C_drew ?_))) : p := h
theorem y15_2 {p : Prop} (h : p := by repeat (first | exact (Kd.R_reads' HO_5.out).2.2 | (with_reducible refine Kd.C_alloc ?_ _) | (with_reducible refine Kd.C_drewN ?_ _) | (with_reducible refine Kd.C_drew ?_))) : p := h
theorem y15_3 {p : Prop} (h : p := by repeat (first | exact HR0.out | (with_reducible refine Kd.C_alloc ?_ _) | (with_reducible refine Kd.C_drewN ?_ _) | (with_reducible refine Kd.C_drew ?_))) : p := h
abbrev mk15_0 : Array Bool := #[false, false, false, false, false, false, false, false, false, false, false, false, false, false, false, false, false, false, false, false, false, false, false, false, false]
abbrev mk15_1 : Array Bool := #[true, false, false, false, false, false, false, false, false, false, false, false, false, false, false, false, false, false, false, false, false, false, false, false, false]
abbrev mk15_2 : Array Bool := #[true, true, false, false, false, false, false, false, false, false, false, false, false, false, false, false, false, false, false, false, false, false, false, false, false]
abbrev mk15_3 : Array Bool := #[true, true, true, false, false, false, false, false, false, false, false, false, false, false, false, false, false, false, false, false, false, false, false, false, false]
abbrev mk15_4 : Array Bool := #[true, true, true, true, false, false, false, false, false, false, false, false, false, false, false, false, false, false, false, false, false, false, false, false, false]
abbrev mk15_5 : Array Bool := #[true, true, true, true, true, false, false, false, false, false, false, false, false, false, false, false, false, false, false, false, false, false, false, false, false]
abbrev mk15_6 : Array Bool := #[true, true, true, true, true, true, false, false, false, false, false, false, false, false, false, false, false, false, false, false, false, false, false, false, false]
abbrev mk15_7 : Array Bool := #[true, true, true, true, true, true, true, false, false, false, false, false, false, false, false, false, false, false, false, false, false, false, false, false, false]
abbrev mk15_8 : Array Bool := #[true, true, true, true, true, true, true, true, false, false, false, false, false, false, false, false, false, false, false, false, false, false, false, false, false]
abbrev mk15_9 : Array Bool := #[true, true, true, true, true, true, true, true, true, false, false, false, false, false, false, false, false, false, false, false, false, false, false, false, false]
abbrev mk15_10 : Array Bool := #[true, true, true, true, true, true, true, true, true, true, false, false, false, false, false, false, false, false, false, false, false, false, false, false, false]
abbrev mk15_11 : Array Bool := #[true, true, true, true, true, true, true, true, true, true, true, false, false, false, false, false, false, false, false, false, false, false, false, false, false]
abbrev mk15_12 : Array Bool := #[true, true, true, true, true, true, true, true, true, true, true, true, false, false, false, false, false, false, false, false, false, false, false, false, false]
abbrev mk15_13 : Array Bool := #[true, true, true, true, true, true, true, true, true, true, true, true, true, false, false, false, false, false, false, false, false, false, false, false, false]
abbrev mk15_14 : Array Bool := #[true, true, true, true, true, true, true, true, true, true, true, true, true, true, false, false, false, false, false, false, false, false, false, false, false]
abbrev mk15_15 : Array Bool := #[true, true, true, true, true, true, true, true, true, true, true, true, true, true, true, false, false, false, false, false, false, false, false, false, false]
abbrev mk15_16 : Array Bool := #[true, true, true, true, true, true, true, true, true, true, true, true, true, true, true, true, false, false, false, false, false, false, false, false, false]
abbrev mk15_17 : Array Bool := #[true, true, true, true, true, true, true, true, true, true, true, true, true, true, true, true, true, false, false, false, false, false, false, false, false]
abbrev mk15_18 : Array Bool := #[true, true, true, true, true, true, true, true, true, true, true, true, true, true, true, true, true, true, false, false, false, false, false, false, false]
abbrev mk15_19 : Array Bool := #[true, true, true, true, true, true, true, true, true, true, true, true, true, true, true, true, true, true, true, false, false, false, false, false, false]
abbrev mk15_20 : Array Bool := #[true, true, true, true, true, true, true, true, true, true, true, true, true, true, true, true, true, true, true, true, false, false, false, false, false]
abbrev mk15_21 : Array Bool := #[true, true, true, true, true, true, true, true, true, true, true, true, true, true, true, true, true, true, true, true, true, false, false, false, false]
abbrev mk15_22 : Array Bool := #[true, true, true, true, true, true, true, true, true, true, true, true, true, true, true, true, true, true, true, true, true, true, false, false, false]
abbrev mk15_23 : Array Bool := #[true, true, true, true, true, true, true, true, true, true, true, true, true, true, true, true, true, true, true, true, true, true, true, false, false]
abbrev mk15_24 : Array Bool := #[true, true, true, true, true, true, true, true, true, true, true, true, true, true, true, true, true, true, true, true, true, true, true, true, false]
abbrev mk15_25 : Array Bool := #[true, true, true, true, true, true, true, true, true, true, true, true, true, true, true, true, true, true, true, true, true, true, true, true, true]
theorem u15_0 {p : Prop} (h : p := by (with_reducible repeat (first | refine blk_drewN ?_ _ | refine blk_drew ?_ | refine blk_alloc ?_ _)); refine blk_put (cs := #[.string t573, .int .i64 t574, .string t575, .int .i64 t576, .int .i64 t577, .int .i64 t578, .int .i64 t579, .int .i64 0]) ?_ 7 _ rfl; refine blk_put (cs := #[.string t573, .int .i64 t574, .string t575, .int .i64 t576, .int .i64 t577, .int .i64 t578, .int .i64 0, .int .i64 0]) ?_ 6 _ rfl; refine blk_put (cs := #[.string t573, .int .i64 t574, .string t575, .int .i64 t576, .int .i64 t577, .int .i64 0, .int .i64 0, .int .i64 0]) ?_ 5 _ rfl; refine blk_put (cs := #[.string t573, .int .i64 t574, .string t575, .int .i64 t576, .int .i64 0, .int .i64 0, .int .i64 0, .int .i64 0]) ?_ 4 _ rfl; refine blk_put (cs := #[.string t573, .int .i64 t574, .string t575, .int .i64 0, .int .i64 0, .int .i64 0, .int .i64 0, .int .i64 0]) ?_ 3 _ rfl; refine blk_put (cs := #[.string t573, .int .i64 t574, .string (⟨#[]⟩ : ByteArray), .int .i64 0, .int .i64 0, .int .i64 0, .int .i64 0, .int .i64 0]) ?_ 2 _ rfl; (with_reducible repeat (first | refine blk_drewN ?_ _ | refine blk_drew ?_ | refine blk_alloc ?_ _)); refine blk_put (cs := #[.string t573, .int .i64 0, .string (⟨#[]⟩ : ByteArray), .int .i64 0, .int .i64 0, .int .i64 0, .int .i64 0, .int .i64 0]) ?_ 1 _ rfl; (with_reducible repeat (first | refine blk_drewN ?_ _ | refine blk_drew ?_ | refine blk_alloc ?_ _)); refine blk_put (cs := #[.string (⟨#[]⟩ : ByteArray), .int .i64 0, .string (⟨#[]⟩ : ByteArray), .int .i64 0, .int .i64 0, .int .i64 0, .int .i64 0, .int .i64 0]) ?_ 0 _ rfl; (with_reducible repeat (first | refine blk_drewN ?_ _ | refine blk_drew ?_ | refine blk_alloc ?_ _)); exact BK581.out) : p := h
theorem u15_1 {p : Prop} (h : p := by (with_reducible repeat (first | apply Kd.Q_alloc | apply Kd.Q_drewN | apply Kd.Q_drew)); exact (Kd.Q_mono (Kd.Q_far (p := ⟨gb581, 7, none⟩) (Kd.Q_far (p := ⟨gb581, 6, none⟩) (Kd.Q_far (p := ⟨gb581, 5, none⟩) (Kd.Q_far (p := ⟨gb581, 4, none⟩) (Kd.Q_far (p := ⟨gb581, 3, none⟩) (Kd.Q_far (p := ⟨gb581, 2, none⟩) (Kd.Q_far (p := ⟨gb581, 1, none⟩) (Kd.Q_far (p := ⟨gb581, 0, none⟩) (Kd.Q_mono HO572.out (fun k_ hk => (⟨hk, hk.2⟩ : _ ∧ k_ ≠ gb581))) (fun _ hk => hk.2) (.string t573)) (fun _ hk => hk.2) (.int .i64 t574)) (fun _ hk => hk.2) (.string t575)) (fun _ hk => hk.2) (.int .i64 t576)) (fun _ hk => hk.2) (.int .i64 t577)) (fun _ hk => hk.2) (.int .i64 t578)) (fun _ hk => hk.2) (.int .i64 t579)) (fun _ hk => hk.2) (.int .i64 t580)) (fun _ h_ => h_.1))) : p := h
theorem u15_2 {p : Prop} (h : p := by repeat (first | (with_reducible first | exact HB.out | apply below_alloc | apply pw_below_drewN | apply below_drew1 | refine below_set ?_ GE581.out) | exact HB.out)) : p := h
theorem u15_3 {p : Prop} (h : p := by (try simp only [List.map_toArray, List.map_cons, List.map_nil]); first | done | rfl) : p := h
theorem u15_4 {p : Prop} (h : p := by (with_reducible repeat (first | refine blk_drewN ?_ _ | refine blk_drew ?_ | refine blk_alloc ?_ _)); exact BK581.out) : p := h
theorem u15_5 {p : Prop} (h : p := by repeat (first | (with_reducible first | exact HB.out | apply below_alloc | apply pw_below_drewN | apply below_drew1) | exact HB.out)) : p := h
theorem u15_6 {p : Prop} (h : p := by (with_reducible repeat (first | apply Kd.Q_alloc | apply Kd.Q_drewN | apply Kd.Q_drew)); exact HO572.out) : p := h
theorem u15_7 {p : Prop} (h : p := by (with_reducible repeat (first | apply Kd.R_alloc | apply Kd.R_drewN | apply Kd.R_drew)); exact HO584.out) : p := h
theorem u15_8 {p : Prop} (h : p := by (with_reducible repeat (first | apply Kd.R_alloc | apply Kd.R_drewN | apply Kd.R_drew)); exact HO_5.out) : p := h
theorem u15_9 {p : Prop} (h : p := by (with_reducible repeat (first | apply Kd.R_alloc | apply Kd.R_drewN | apply Kd.R_drew)); exact HO591.out) : p := h
theorem u15_10 {p : Prop} (h : p := by first | rfl | (simp; done) | (simp [*]; done)) : p := h
mutual
def laws_FnRig.j0 : Nat → List (S30) → Bool → Option (Bool)
 | 0, _, _ => none
 | k + 1, x5, x66 => if x66 = true then (some false) else (laws_FnRig.l0 k x5 0)
def laws_FnRig.l0 : Nat → List (S30) → Int → Option (Bool)
 | 0, _, _ => none
 | k + 1, x5, x10 => if x10 < (x5.length : Int) then (if 0 ≤ x10 then ((impl_RemoveDevice.f k x5 ((rd_T30 x5 x10).f0)).bind fun bt596 => ((impl_OnLine.f k x5 ((rd_T30 x5 x10).f0)).bind fun t601 => (if (bt596.2 != ((t601.length : Int) == 0)) = true then (some false) else (laws_FnRig.l0 k x5 (wrap64 (x10 + 1)))))) else (none)) else (some true)
end
def laws_FnRig.f (k : Nat) (l0 : List Int) : Option (Bool) := (laws_big.f l0).bind fun t569 => (if t569 = true then (some true) else ((spec_DrawAddDevice.f k l0).bind fun bt570 => ((impl_AddDevice.f k bt570.1 bt570.2.1 bt570.2.2.1 bt570.2.2.2.1 bt570.2.2.2.2.1 bt570.2.2.2.2.2.1 bt570.2.2.2.2.2.2.1 bt570.2.2.2.2.2.2.2.1 bt570.2.2.2.2.2.2.2.2).bind fun bt582 => (if bt582.2 = true then ((impl_FindDevice.f k bt582.1 bt570.2.1).bind fun t587 => ((impl_RemoveDevice.f k bt582.1 bt570.2.1).bind fun bt588 => ((impl_IsRig.f k bt582.1).bind fun t592 => (if t592 = true then (if t587 < 0 then (laws_FnRig.j0 k bt582.1 true) else (if 0 ≤ t587 then (if t587 < (bt582.1.length : Int) then (if (!((((rd_T30 bt582.1 t587).f0).toList) == bt570.2.1.toList) || (!(((rd_T30 bt582.1 t587).f1) == bt570.2.2.1) || (!((((rd_T30 bt582.1 t587).f2).toList) == bt570.2.2.2.1.toList) || ((!(((rd_T30 bt582.1 t587).f3.f0) == bt570.2.2.2.2.1) || (!(((rd_T30 bt582.1 t587).f3.f1) == bt570.2.2.2.2.2.1))) || (!(((rd_T30 bt582.1 t587).f4) == bt570.2.2.2.2.2.2.1) || (!(((rd_T30 bt582.1 t587).f5) == bt570.2.2.2.2.2.2.2.1) || (!(((rd_T30 bt582.1 t587).f6) == bt570.2.2.2.2.2.2.2.2)))))))) = true then (laws_FnRig.j0 k bt582.1 true) else (if bt588.2 = true then ((laws_rigs.f k bt588.1 bt570.1).bind fun t594 => (laws_FnRig.j0 k bt582.1 (!t594))) else (laws_FnRig.j0 k bt582.1 true))) else (none)) else (none))) else (laws_FnRig.j0 k bt582.1 true))))) else ((laws_rigs.f k bt570.1 bt582.1).bind fun t586 => (some t586))))))
theorem laws_FnRig.mono_l : ∀ k, (∀ y0 y1, LeO (laws_FnRig.j0 k y0 y1) (laws_FnRig.j0 (k + 1) y0 y1)) ∧ (∀ y0 y1, LeO (laws_FnRig.l0 k y0 y1) (laws_FnRig.l0 (k + 1) y0 y1))
 | 0 => ⟨fun _ _ r h => by simp [laws_FnRig.j0] at h, fun _ _ r h => by simp [laws_FnRig.l0] at h⟩
 | k + 1 => by
  obtain ⟨ih0, ih1⟩ := laws_FnRig.mono_l k
  refine ⟨?_, ?_⟩
  ·intro y0 y1
   unfold laws_FnRig.j0
   repeat' first
   | (with_reducible exact ih0 _ _)
   | (with_reducible exact ih1 _ _)
   | (with_reducible exact impl_AddDevice.mono _ _ _ _ _ _ _ _ _ _)
   | (with_reducible exact impl_FindDevice.mono _ _ _)
   | (with_reducible exact impl_IsRig.mono _ _)
   | (with_reducible exact impl_OnLine.mono _ _ _)
   | (with_reducible exact impl_RemoveDevice.mono _ _ _)
   | (with_reducible exact laws_rigs.mono _ _ _)
   | (with_reducible exact spec_DrawAddDevice.mono _ _)
   | (with_reducible exact LeO.refl _)
   | (with_reducible exact LeO.none _)
   | (with_reducible refine LeO.ite ?_ ?_)
   | (with_reducible refine LeO.bind ?_ (fun _ => ?_))
  ·intro y0 y1
   unfold laws_FnRig.l0
   repeat' first
   | (with_reducible exact ih0 _ _)
   | (with_reducible exact ih1 _ _)
   | (with_reducible exact impl_AddDevice.mono _ _ _ _ _ _ _ _ _ _)
   | (with_reducible exact impl_FindDevice.mono _ _ _)
   | (with_reducible exact impl_IsRig.mono _ _)
   | (with_reducible exact impl_OnLine.mono _ _ _)
   | (with_reducible exact impl_RemoveDevice.mono _ _ _)
   | (with_reducible exact laws_rigs.mono _ _ _)
   | (with_reducible exact spec_DrawAddDevice.mono _ _)
   | (with_reducible exact LeO.refl _)
   | (with_reducible exact LeO.none _)
   | (with_reducible refine LeO.ite ?_ ?_)
   | (with_reducible refine LeO.bind ?_ (fun _ => ?_))
theorem laws_FnRig.mono : ∀ a0 k, LeO (laws_FnRig.f k a0) (laws_FnRig.f (k + 1) a0) := by
 intro a0 k
 obtain ⟨ih0, ih1⟩ := laws_FnRig.mono_l k
 unfold laws_FnRig.f
 repeat' first
   | (with_reducible exact ih0 _ _)
   | (with_reducible exact ih1 _ _)
   | (with_reducible exact impl_AddDevice.mono _ _ _ _ _ _ _ _ _ _)
   | (with_reducible exact impl_FindDevice.mono _ _ _)
   | (with_reducible exact impl_IsRig.mono _ _)
   | (with_reducible exact impl_OnLine.mono _ _ _)
   | (with_reducible exact impl_RemoveDevice.mono _ _ _)
   | (with_reducible exact laws_rigs.mono _ _ _)
   | (with_reducible exact spec_DrawAddDevice.mono _ _)
   | (with_reducible exact LeO.refl _)
   | (with_reducible exact LeO.none _)
   | (with_reducible refine LeO.ite ?_ ?_)
   | (with_reducible refine LeO.bind ?_ (fun _ => ?_))
def laws_FnRig.T9 : Bool × List (List Nat × List Nat) := (true, [([], []), ([0], [0]), ([1], [1]), ([2, 1], [2]), ([3], [3]), ([4, 3], [3, 4]), ([3, 5], [3, 5]), ([6, 3], [6]), ([7], [7]), ([7], [7]), ([8, 9, 7], [7, 8, 9]), ([10, 7], [7, 10]), ([7], [7]), ([11, 12, 7], [7, 11, 12]), ([7, 13], [7, 13]), ([14, 7], [14]), ([15], [15]), ([16, 15], [15, 16]), ([15, 17], [15, 17]), ([18, 15], [18]), ([19], [19]), ([19], [19]), ([20, 21, 19, 19], [19, 20, 21]), ([22, 19], [19, 22]), ([19, 23], [19, 23])])
def laws_FnRig.B9 : List Nat := [0, 1, 3, 7, 15, 31, 63, 127, 255, 255, 1023, 2047, 255, 8191, 16383, 32767, 65535, 131071, 262143, 524287, 1048575, 1048575, 4194303, 8388607, 16777215]
theorem laws_FnRig.tab9 : rtab .any (opsOf Try.f14 9) = laws_FnRig.T9 := by kernel_rfl
theorem laws_FnRig.bits9 : waitsOk laws_FnRig.T9.2 laws_FnRig.B9 = true := by kernel_rfl
set_option maxHeartbeats 8000000 in
set_option maxRecDepth 100000 in
theorem laws_FnRig.calls (k : Nat) (A0 : Option Addr) (c0 : Nat) (l0 : List Int) (r : Bool) (w : World) (hr0 : Kd.C (Kd.int .u8) w A0 l0.length l0) (hc0 : l0.length ≤ c0) (h : laws_FnRig.f k l0 = some r) :
  Calls Try.prog 14 #[.slice A0 l0.length c0] w fun e w' => e = .returned (.bool r) ∧ Below w.heap.size w w' := by
 have hu30 := Try.underlying30
 have HR0 := Aside0.mk hr0
 have HC0 := Aside0.mk hc0
 clear hr0 hc0
 have HB := Aside0.mk (Below.refl w.heap.size w)
 have H : ((laws_big.f l0).bind fun t569 => (if t569 = true then (some true) else ((spec_DrawAddDevice.f k l0).bind fun bt570 => ((impl_AddDevice.f k bt570.1 bt570.2.1 bt570.2.2.1 bt570.2.2.2.1 bt570.2.2.2.2.1 bt570.2.2.2.2.2.1 bt570.2.2.2.2.2.2.1 bt570.2.2.2.2.2.2.2.1 bt570.2.2.2.2.2.2.2.2).bind fun bt582 => (if bt582.2 = true then ((impl_FindDevice.f k bt582.1 bt570.2.1).bind fun t587 => ((impl_RemoveDevice.f k bt582.1 bt570.2.1).bind fun bt588 => ((impl_IsRig.f k bt582.1).bind fun t592 => (if t592 = true then (if t587 < 0 then (laws_FnRig.j0 k bt582.1 true) else (if 0 ≤ t587 then (if t587 < (bt582.1.length : Int) then (if (!((((rd_T30 bt582.1 t587).f0).toList) == bt570.2.1.toList) || (!(((rd_T30 bt582.1 t587).f1) == bt570.2.2.1) || (!((((rd_T30 bt582.1 t587).f2).toList) == bt570.2.2.2.1.toList) || ((!(((rd_T30 bt582.1 t587).f3.f0) == bt570.2.2.2.2.1) || (!(((rd_T30 bt582.1 t587).f3.f1) == bt570.2.2.2.2.2.1))) || (!(((rd_T30 bt582.1 t587).f4) == bt570.2.2.2.2.2.2.1) || (!(((rd_T30 bt582.1 t587).f5) == bt570.2.2.2.2.2.2.2.1) || (!(((rd_T30 bt582.1 t587).f6) == bt570.2.2.2.2.2.2.2.2)))))))) = true then (laws_FnRig.j0 k bt582.1 true) else (if bt588.2 = true then ((laws_rigs.f k bt588.1 bt570.1).bind fun t594 => (laws_FnRig.j0 k bt582.1 (!t594))) else (laws_FnRig.j0 k bt582.1 true))) else (none)) else (none))) else (laws_FnRig.j0 k bt582.1 true))))) else ((laws_rigs.f k bt570.1 bt582.1).bind fun t586 => (some t586))))))) = some r := h
 clear h
 replace H := Option.bind_eq_some_iff.mp H
 obtain ⟨t569, A20, H⟩ := H
 replace H : (if t569 = true then (some true) else ((spec_DrawAddDevice.f k l0).bind fun bt570 => ((impl_AddDevice.f k bt570.1 bt570.2.1 bt570.2.2.1 bt570.2.2.2.1 bt570.2.2.2.2.1 bt570.2.2.2.2.2.1 bt570.2.2.2.2.2.2.1 bt570.2.2.2.2.2.2.2.1 bt570.2.2.2.2.2.2.2.2).bind fun bt582 => (if bt582.2 = true then ((impl_FindDevice.f k bt582.1 bt570.2.1).bind fun t587 => ((impl_RemoveDevice.f k bt582.1 bt570.2.1).bind fun bt588 => ((impl_IsRig.f k bt582.1).bind fun t592 => (if t592 = true then (if t587 < 0 then (laws_FnRig.j0 k bt582.1 true) else (if 0 ≤ t587 then (if t587 < (bt582.1.length : Int) then (if (!((((rd_T30 bt582.1 t587).f0).toList) == bt570.2.1.toList) || (!(((rd_T30 bt582.1 t587).f1) == bt570.2.2.1) || (!((((rd_T30 bt582.1 t587).f2).toList) == bt570.2.2.2.1.toList) || ((!(((rd_T30 bt582.1 t587).f3.f0) == bt570.2.2.2.2.1) || (!(((rd_T30 bt582.1 t587).f3.f1) == bt570.2.2.2.2.2.1))) || (!(((rd_T30 bt582.1 t587).f4) == bt570.2.2.2.2.2.2.1) || (!(((rd_T30 bt582.1 t587).f5) == bt570.2.2.2.2.2.2.2.1) || (!(((rd_T30 bt582.1 t587).f6) == bt570.2.2.2.2.2.2.2.2)))))))) = true then (laws_FnRig.j0 k bt582.1 true) else (if bt588.2 = true then ((laws_rigs.f k bt588.1 bt570.1).bind fun t594 => (laws_FnRig.j0 k bt582.1 (!t594))) else (laws_FnRig.j0 k bt582.1 true))) else (none)) else (none))) else (laws_FnRig.j0 k bt582.1 true))))) else ((laws_rigs.f k bt570.1 bt582.1).bind fun t586 => (some t586)))))) = some r := H
 have A2 := Aside0.mk A20
 clear A20
 by_cases c3 : t569 = true
 ·subst c3
  have H1 : (some true) = some r := by rw [if_pos rfl] at H; exact H
  clear H
  have H := H1
  clear H1
  obtain rfl := Option.some.inj H
  go_enter Try.func14, Try.ntmps14
  go_wp2_with (first | ((with_reducible refine gate_callee (f := 28) rfl ?_); refine goesL_ (some 14) rfl rfl Try.func28 (by kernel_rfl) rfl #[.slice A0 l0.length c0] rfl u15_3 ?_; (with_reducible refine (laws_big.calls _ _ l0 true _ ?side1 ?side2 A2.out).mono ?_); (case side1 => exact y15_3); (case side2 => exact HC0.out); rintro e w' ⟨rfl, ⟨nd, rfl⟩⟩; refine ⟨_, rfl, ?_⟩))
  go_ret
  exact ⟨by first | rfl | (simp [*] <;> rfl), by repeat (first | (with_reducible first | exact HB.out | apply below_alloc | apply pw_below_drewN | apply below_drew1) | exact HB.out)⟩
 ·replace c3 := Bool.eq_false_iff.mpr c3
  subst c3
  have H1 : ((spec_DrawAddDevice.f k l0).bind fun bt570 => ((impl_AddDevice.f k bt570.1 bt570.2.1 bt570.2.2.1 bt570.2.2.2.1 bt570.2.2.2.2.1 bt570.2.2.2.2.2.1 bt570.2.2.2.2.2.2.1 bt570.2.2.2.2.2.2.2.1 bt570.2.2.2.2.2.2.2.2).bind fun bt582 => (if bt582.2 = true then ((impl_FindDevice.f k bt582.1 bt570.2.1).bind fun t587 => ((impl_RemoveDevice.f k bt582.1 bt570.2.1).bind fun bt588 => ((impl_IsRig.f k bt582.1).bind fun t592 => (if t592 = true then (if t587 < 0 then (laws_FnRig.j0 k bt582.1 true) else (if 0 ≤ t587 then (if t587 < (bt582.1.length : Int) then (if (!((((rd_T30 bt582.1 t587).f0).toList) == bt570.2.1.toList) || (!(((rd_T30 bt582.1 t587).f1) == bt570.2.2.1) || (!((((rd_T30 bt582.1 t587).f2).toList) == bt570.2.2.2.1.toList) || ((!(((rd_T30 bt582.1 t587).f3.f0) == bt570.2.2.2.2.1) || (!(((rd_T30 bt582.1 t587).f3.f1) == bt570.2.2.2.2.2.1))) || (!(((rd_T30 bt582.1 t587).f4) == bt570.2.2.2.2.2.2.1) || (!(((rd_T30 bt582.1 t587).f5) == bt570.2.2.2.2.2.2.2.1) || (!(((rd_T30 bt582.1 t587).f6) == bt570.2.2.2.2.2.2.2.2)))))))) = true then (laws_FnRig.j0 k bt582.1 true) else (if bt588.2 = true then ((laws_rigs.f k bt588.1 bt570.1).bind fun t594 => (laws_FnRig.j0 k bt582.1 (!t594))) else (laws_FnRig.j0 k bt582.1 true))) else (none)) else (none))) else (laws_FnRig.j0 k bt582.1 true))))) else ((laws_rigs.f k bt570.1 bt582.1).bind fun t586 => (some t586))))) = some r := by rw [if_neg (show ¬ (false = true) by decide)] at H; exact H
  clear H
  have H := H1
  clear H1
  replace H := Option.bind_eq_some_iff.mp H
  obtain ⟨⟨t570, t573, t574, t575, t576, t577, t578, t579, t580⟩, A40, H⟩ := H
  replace H : ((impl_AddDevice.f k t570 t573 t574 t575 t576 t577 t578 t579 t580).bind fun bt582 => (if bt582.2 = true then ((impl_FindDevice.f k bt582.1 t573).bind fun t587 => ((impl_RemoveDevice.f k bt582.1 t573).bind fun bt588 => ((impl_IsRig.f k bt582.1).bind fun t592 => (if t592 = true then (if t587 < 0 then (laws_FnRig.j0 k bt582.1 true) else (if 0 ≤ t587 then (if t587 < (bt582.1.length : Int) then (if (!((((rd_T30 bt582.1 t587).f0).toList) == t573.toList) || (!(((rd_T30 bt582.1 t587).f1) == t574) || (!((((rd_T30 bt582.1 t587).f2).toList) == t575.toList) || ((!(((rd_T30 bt582.1 t587).f3.f0) == t576) || (!(((rd_T30 bt582.1 t587).f3.f1) == t577))) || (!(((rd_T30 bt582.1 t587).f4) == t578) || (!(((rd_T30 bt582.1 t587).f5) == t579) || (!(((rd_T30 bt582.1 t587).f6) == t580)))))))) = true then (laws_FnRig.j0 k bt582.1 true) else (if bt588.2 = true then ((laws_rigs.f k bt588.1 t570).bind fun t594 => (laws_FnRig.j0 k bt582.1 (!t594))) else (laws_FnRig.j0 k bt582.1 true))) else (none)) else (none))) else (laws_FnRig.j0 k bt582.1 true))))) else ((laws_rigs.f k t570 bt582.1).bind fun t586 => (some t586)))) = some r := H
  have A4 := Aside0.mk A40
  clear A40
  replace H := Option.bind_eq_some_iff.mp H
  obtain ⟨⟨t582, t585⟩, A50, H⟩ := H
  replace H : (if t585 = true then ((impl_FindDevice.f k t582 t573).bind fun t587 => ((impl_RemoveDevice.f k t582 t573).bind fun bt588 => ((impl_IsRig.f k t582).bind fun t592 => (if t592 = true then (if t587 < 0 then (laws_FnRig.j0 k t582 true) else (if 0 ≤ t587 then (if t587 < (t582.length : Int) then (if (!((((rd_T30 t582 t587).f0).toList) == t573.toList) || (!(((rd_T30 t582 t587).f1) == t574) || (!((((rd_T30 t582 t587).f2).toList) == t575.toList) || ((!(((rd_T30 t582 t587).f3.f0) == t576) || (!(((rd_T30 t582 t587).f3.f1) == t577))) || (!(((rd_T30 t582 t587).f4) == t578) || (!(((rd_T30 t582 t587).f5) == t579) || (!(((rd_T30 t582 t587).f6) == t580)))))))) = true then (laws_FnRig.j0 k t582 true) else (if bt588.2 = true then ((laws_rigs.f k bt588.1 t570).bind fun t594 => (laws_FnRig.j0 k t582 (!t594))) else (laws_FnRig.j0 k t582 true))) else (none)) else (none))) else (laws_FnRig.j0 k t582 true))))) else ((laws_rigs.f k t570 t582).bind fun t586 => (some t586))) = some r := H
  have A5 := Aside0.mk A50
  clear A50
  by_cases c6 : t585 = true
  ·subst c6
   have H1 : ((impl_FindDevice.f k t582 t573).bind fun t587 => ((impl_RemoveDevice.f k t582 t573).bind fun bt588 => ((impl_IsRig.f k t582).bind fun t592 => (if t592 = true then (if t587 < 0 then (laws_FnRig.j0 k t582 true) else (if 0 ≤ t587 then (if t587 < (t582.length : Int) then (if (!((((rd_T30 t582 t587).f0).toList) == t573.toList) || (!(((rd_T30 t582 t587).f1) == t574) || (!((((rd_T30 t582 t587).f2).toList) == t575.toList) || ((!(((rd_T30 t582 t587).f3.f0) == t576) || (!(((rd_T30 t582 t587).f3.f1) == t577))) || (!(((rd_T30 t582 t587).f4) == t578) || (!(((rd_T30 t582 t587).f5) == t579) || (!(((rd_T30 t582 t587).f6) == t580)))))))) = true then (laws_FnRig.j0 k t582 true) else (if bt588.2 = true then ((laws_rigs.f k bt588.1 t570).bind fun t594 => (laws_FnRig.j0 k t582 (!t594))) else (laws_FnRig.j0 k t582 true))) else (none)) else (none))) else (laws_FnRig.j0 k t582 true))))) = some r := by rw [if_pos rfl] at H; exact H
   clear H
   have H := H1
   clear H1
   replace H := Option.bind_eq_some_iff.mp H
   obtain ⟨t587, A70, H⟩ := H
   replace H : ((impl_RemoveDevice.f k t582 t573).bind fun bt588 => ((impl_IsRig.f k t582).bind fun t592 => (if t592 = true then (if t587 < 0 then (laws_FnRig.j0 k t582 true) else (if 0 ≤ t587 then (if t587 < (t582.length : Int) then (if (!((((rd_T30 t582 t587).f0).toList) == t573.toList) || (!(((rd_T30 t582 t587).f1) == t574) || (!((((rd_T30 t582 t587).f2).toList) == t575.toList) || ((!(((rd_T30 t582 t587).f3.f0) == t576) || (!(((rd_T30 t582 t587).f3.f1) == t577))) || (!(((rd_T30 t582 t587).f4) == t578) || (!(((rd_T30 t582 t587).f5) == t579) || (!(((rd_T30 t582 t587).f6) == t580)))))))) = true then (laws_FnRig.j0 k t582 true) else (if bt588.2 = true then ((laws_rigs.f k bt588.1 t570).bind fun t594 => (laws_FnRig.j0 k t582 (!t594))) else (laws_FnRig.j0 k t582 true))) else (none)) else (none))) else (laws_FnRig.j0 k t582 true)))) = some r := H
   have A7 := Aside0.mk A70
   clear A70
   replace H := Option.bind_eq_some_iff.mp H
   obtain ⟨⟨t588, t589⟩, A80, H⟩ := H
   replace H : ((impl_IsRig.f k t582).bind fun t592 => (if t592 = true then (if t587 < 0 then (laws_FnRig.j0 k t582 true) else (if 0 ≤ t587 then (if t587 < (t582.length : Int) then (if (!((((rd_T30 t582 t587).f0).toList) == t573.toList) || (!(((rd_T30 t582 t587).f1) == t574) || (!((((rd_T30 t582 t587).f2).toList) == t575.toList) || ((!(((rd_T30 t582 t587).f3.f0) == t576) || (!(((rd_T30 t582 t587).f3.f1) == t577))) || (!(((rd_T30 t582 t587).f4) == t578) || (!(((rd_T30 t582 t587).f5) == t579) || (!(((rd_T30 t582 t587).f6) == t580)))))))) = true then (laws_FnRig.j0 k t582 true) else (if t589 = true then ((laws_rigs.f k t588 t570).bind fun t594 => (laws_FnRig.j0 k t582 (!t594))) else (laws_FnRig.j0 k t582 true))) else (none)) else (none))) else (laws_FnRig.j0 k t582 true))) = some r := H
   have A8 := Aside0.mk A80
   clear A80
   have HC9 := Aside0.mk H
   clear H
   go_enter Try.func14, Try.ntmps14
   go_upto_region 9 with (first | ((with_reducible refine gate_callee (f := 28) rfl ?_); refine goesL_ (some 14) rfl rfl Try.func28 (by kernel_rfl) rfl #[.slice A0 l0.length c0] rfl u15_3 ?_; (with_reducible refine (laws_big.calls _ _ l0 false _ ?side1 ?side2 A2.out).mono ?_); (case side1 => exact y15_3); (case side2 => exact HC0.out); rintro e w' ⟨rfl, ⟨nd, rfl⟩⟩; refine ⟨_, rfl, ?_⟩) | ((with_reducible refine gate_callee (f := 49) rfl ?_); refine goesL_ (some 17) rfl rfl Try.func49 (by kernel_rfl) rfl #[.slice A0 l0.length c0] rfl u15_3 ?_; (with_reducible refine (spec_DrawAddDevice.calls k _ _ l0 t570 t573 t574 t575 t576 t577 t578 t579 t580 _ ?side1 ?side2 A4.out).mono ?_); (case side1 => exact y15_3); (case side2 => exact HC0.out); rintro e w10 ⟨v571, rfl, ho0, hb⟩; refine ⟨_, rfl, ?_⟩; have n0_ := Aside0.mk (Kd.Q_lower ho0 (below_size u15_5)); have n1_ := Aside0.mk (below_step u15_5 hb); clear HB; have HO572 := n0_; have HB := n1_; clear n0_ n1_; (try clear hb); (try clear hb2); (try clear hk); (try clear hi); (try clear ho0)) | ((with_reducible refine gate_dst (N := 4) rfl ?_); refine box_event ?hg (N := 4) ?hd (cs := #[.string (⟨#[]⟩ : ByteArray), .int .i64 0, .string (⟨#[]⟩ : ByteArray), .int .i64 0, .int .i64 0, .int .i64 0, .int .i64 0, .int .i64 0]) (t := 30) ?hr ?_; (case hd => rfl); (case hg => rfl); (case hr => exact gq); intro gb581 hg w11 hbox hb; have n0_ := Aside0.mk (Kd.Q_below (Kd.Q_elderB u15_6 gb581 (Nat.le_of_eq hg.symm)) hb); have n1_ := Aside0.mk (below_step u15_5 hb); have n2_ := Aside0.mk (hbox); have n3_ := bsw w hg (below_size u15_5); have n4_ := bsw w hg (below_size u15_5); clear HO572; clear HB; have HO572 := n0_; have HB := n1_; have BK581 := n2_; have GW581 := n3_; have GE581 := n4_; clear n0_ n1_ n2_ n3_ n4_; clear hb hbox hg; obtain ⟨hcz12_0, hcz12_1, hcz12_2, hcz12_3, hcz12_4, hcz12_5, hcz12_6, hcz12_7, hfz12_0, hfz12_1, hfz12_2, hfz12_3, hfz12_4, hfz12_5, hfz12_6, hfz12_7⟩ := cf8 BK581.out; obtain ⟨Ao13, co13, eo13, _⟩ := Kd.Q_slice HO572.out; subst eo13) | ((with_reducible refine gate_callee (f := 48) rfl ?_); refine goesL_ (some 23) rfl rfl Try.func48 (by kernel_rfl) rfl #[.slice Ao13 t570.length co13, .agg #[.string t573, .int .i64 t574, .string t575, .int .i64 t576, .int .i64 t577, .int .i64 t578, .int .i64 t579, .int .i64 t580]] rfl u15_3 ?_; (with_reducible refine (impl_AddDevice.calls k _ _ t570 t573 t574 t575 t576 t577 t578 t579 t580 t582 true _ ?side1 ?side2 A5.out).mono ?_); (case side1 => refine (Kd.Q_reads' (e := 30) (base := w.heap.size) (ok := fun k_ => (True ∧ k_ ≠ gb581)) (n := t570.length) (c := co13) ?_).2.2; exact u15_1); (case side2 => exact (Kd.Q_reads' HO572.out).2.1); rintro e w14 ⟨v583, rfl, ho0, hb⟩; refine ⟨_, rfl, ?_⟩; have n0_ := Aside0.mk (Kd.Q_elder' u15_1 (Kd.R_base ho0) hb); have n1_ := Aside0.mk (Kd.R_lower (Kd.R_newB (Kd.R_new' ho0 (Kd.Q_lt u15_1)) (g := gb581) (o := .cells #[.string t573, .int .i64 t574, .string t575, .int .i64 t576, .int .i64 t577, .int .i64 t578, .int .i64 t579, .int .i64 t580] 30 (0, 0)) u15_0) (below_size u15_2)); have n2_ := Aside0.mk (blk_below (g := gb581) (o := .cells #[.string t573, .int .i64 t574, .string t575, .int .i64 t576, .int .i64 t577, .int .i64 t578, .int .i64 t579, .int .i64 t580] 30 (0, 0)) u15_0 hb); have n3_ := Aside0.mk (below_step u15_2 hb); clear HO572; clear BK581; clear HB; have HO572 := n0_; have HO584 := n1_; have BK581 := n2_; have HB := n3_; clear n0_ n1_ n2_ n3_; (try clear hb); (try clear hb2); (try clear hk); (try clear hi); (try clear ho0); obtain ⟨hcz15_0, hcz15_1, hcz15_2, hcz15_3, hcz15_4, hcz15_5, hcz15_6, hcz15_7, hfz15_0, hfz15_1, hfz15_2, hfz15_3, hfz15_4, hfz15_5, hfz15_6, hfz15_7⟩ := cf8 BK581.out; obtain ⟨Ao16, co16, eo16⟩ := Kd.R_slice HO584.out; subst eo16) | ((with_reducible refine gate_callee (f := 22) rfl ?_); refine goesL_ (some 34) rfl rfl Try.func22 (by kernel_rfl) rfl #[.slice Ao16 t582.length co16, .string t573] rfl u15_3 ?_; (with_reducible refine (impl_FindDevice.calls k _ _ t582 t573 t587 _ ?side1 ?side2 A7.out).mono ?_); (case side1 => exact y15_1); (case side2 => exact (Kd.R_reads' HO584.out).2.1); rintro e w17 ⟨rfl, hb⟩; refine ⟨_, rfl, ?_⟩; have n0_ := Aside0.mk (Kd.Q_below u15_6 hb); have n1_ := Aside0.mk (Kd.R_below u15_7 hb); have n2_ := Aside0.mk (blk_below (g := gb581) (o := .cells #[.string t573, .int .i64 t574, .string t575, .int .i64 t576, .int .i64 t577, .int .i64 t578, .int .i64 t579, .int .i64 t580] 30 (0, 0)) u15_4 hb); have n3_ := Aside0.mk (below_step u15_2 hb); clear HO572; clear HO584; clear BK581; clear HB; have HO572 := n0_; have HO584 := n1_; have BK581 := n2_; have HB := n3_; clear n0_ n1_ n2_ n3_; (try clear hb); (try clear hb2); (try clear hk); (try clear hi); obtain ⟨hcz18_0, hcz18_1, hcz18_2, hcz18_3, hcz18_4, hcz18_5, hcz18_6, hcz18_7, hfz18_0, hfz18_1, hfz18_2, hfz18_3, hfz18_4, hfz18_5, hfz18_6, hfz18_7⟩ := cf8 BK581.out) | ((with_reducible refine gate_callee (f := 40) rfl ?_); refine goesL_ (some 39) rfl rfl Try.func40 (by kernel_rfl) rfl #[.slice Ao16 t582.length co16, .string t573] rfl u15_3 ?_; (with_reducible refine (impl_RemoveDevice.calls k _ _ t582 t573 t588 t589 _ ?side1 ?side2 A8.out).mono ?_); (case side1 => exact y15_1); (case side2 => exact (Kd.R_reads' HO584.out).2.1); rintro e w19 ⟨v590, rfl, ho0, hb⟩; refine ⟨_, rfl, ?_⟩; have n0_ := Aside0.mk (Kd.Q_elder' u15_6 (Kd.R_base ho0) hb); have n1_ := Aside0.mk (Kd.R_elder' u15_7 (Kd.R_base ho0) hb); have n2_ := Aside0.mk (Kd.R_lower (Kd.R_newB (Kd.R_new' (Kd.R_new' ho0 (Kd.Q_lt u15_6)) (Kd.R_lt u15_7)) (g := gb581) (o := .cells #[.string t573, .int .i64 t574, .string t575, .int .i64 t576, .int .i64 t577, .int .i64 t578, .int .i64 t579, .int .i64 t580] 30 (0, 0)) u15_4) (below_size u15_2)); have n3_ := Aside0.mk (blk_below (g := gb581) (o := .cells #[.string t573, .int .i64 t574, .string t575, .int .i64 t576, .int .i64 t577, .int .i64 t578, .int .i64 t579, .int .i64 t580] 30 (0, 0)) u15_4 hb); have n4_ := Aside0.mk (below_step u15_2 hb); clear HO572; clear HO584; clear BK581; clear HB; have HO572 := n0_; have HO584 := n1_; have HO591 := n2_; have BK581 := n3_; have HB := n4_; clear n0_ n1_ n2_ n3_ n4_; (try clear hb); (try clear hb2); (try clear hk); (try clear hi); (try clear ho0)))
   (try simp only [Act.put, List.setIfInBounds_toArray, List.set_cons_zero, List.set_cons_succ])
   go_cut [66] (fun v66 wc => ∃ (kq : Nat) (x66_8 : Bool), v66 = .bool x66_8 ∧ Aside0 (laws_FnRig.j0 kq t582 x66_8 = some r) ∧ Aside0 (kq ≤ k) ∧ Aside0 (Kd.R k30 30 wc w.heap.size (fun k_ => k_ ≠ gb581) (.slice Ao16 t582.length co16) t582) ∧ Aside0 (wc.heap[gb581]? = some (.cells #[.string t573, .int .i64 t574, .string t575, .int .i64 t576, .int .i64 t577, .int .i64 t578, .int .i64 t579, .int .i64 t580] 30 (0, 0))) ∧ Aside0 (Below w.heap.size w wc))
   case first =>
    have H := HC9.out
    clear HC9
    replace H := Option.bind_eq_some_iff.mp H
    obtain ⟨t592, A200, H⟩ := H
    replace H : (if t592 = true then (if t587 < 0 then (laws_FnRig.j0 k t582 true) else (if 0 ≤ t587 then (if t587 < (t582.length : Int) then (if (!((((rd_T30 t582 t587).f0).toList) == t573.toList) || (!(((rd_T30 t582 t587).f1) == t574) || (!((((rd_T30 t582 t587).f2).toList) == t575.toList) || ((!(((rd_T30 t582 t587).f3.f0) == t576) || (!(((rd_T30 t582 t587).f3.f1) == t577))) || (!(((rd_T30 t582 t587).f4) == t578) || (!(((rd_T30 t582 t587).f5) == t579) || (!(((rd_T30 t582 t587).f6) == t580)))))))) = true then (laws_FnRig.j0 k t582 true) else (if t589 = true then ((laws_rigs.f k t588 t570).bind fun t594 => (laws_FnRig.j0 k t582 (!t594))) else (laws_FnRig.j0 k t582 true))) else (none)) else (none))) else (laws_FnRig.j0 k t582 true)) = some r := H
    have A20 := Aside0.mk A200
    clear A200
    by_cases c21 : t592 = true
    ·subst c21
     have H1 : (if t587 < 0 then (laws_FnRig.j0 k t582 true) else (if 0 ≤ t587 then (if t587 < (t582.length : Int) then (if (!((((rd_T30 t582 t587).f0).toList) == t573.toList) || (!(((rd_T30 t582 t587).f1) == t574) || (!((((rd_T30 t582 t587).f2).toList) == t575.toList) || ((!(((rd_T30 t582 t587).f3.f0) == t576) || (!(((rd_T30 t582 t587).f3.f1) == t577))) || (!(((rd_T30 t582 t587).f4) == t578) || (!(((rd_T30 t582 t587).f5) == t579) || (!(((rd_T30 t582 t587).f6) == t580)))))))) = true then (laws_FnRig.j0 k t582 true) else (if t589 = true then ((laws_rigs.f k t588 t570).bind fun t594 => (laws_FnRig.j0 k t582 (!t594))) else (laws_FnRig.j0 k t582 true))) else (none)) else (none))) = some r := by rw [if_pos rfl] at H; exact H
     clear H
     have H := H1
     clear H1
     by_cases c22 : t587 < 0
     ·rw [if_pos c22] at H
      have c22b0 : decide (t587 < 0) = true := decide_eq_true c22
      clear c22
      (first | rw [c22b0] | (simp only [i64_w, i32_w]; rw [c22b0]) | skip)
      have H' := Aside0.mk H
      clear H
      try go_wp2
      have n0_ := Aside0.mk (Kd.Q_drew HO572.out)
      have n1_ := Aside0.mk (Kd.R_drew HO584.out)
      have n2_ := Aside0.mk (Kd.R_drew HO591.out)
      have n3_ := Aside0.mk (blk_drew BK581.out)
      have n4_ := Aside0.mk (below_drew1 HB.out)
      clear HO572
      clear HO584
      clear HO591
      clear BK581
      clear HB
      have HO572 := n0_
      have HO584 := n1_
      have HO591 := n2_
      have BK581 := n3_
      have HB := n4_
      clear n0_ n1_ n2_ n3_ n4_
      refine start_ (n := 25) (S := fun w' => True) (ds := []) mk15_0 (by kernel_rfl) rfl rfl trivial (fun hHeld => ?_); refine with_tabW laws_FnRig.tab9 laws_FnRig.bits9 (fun HT_ HW_ => ?_)
      generalize w19.drew = w23 at HO572 HO584 HO591 BK581 HB hHeld ⊢
      refine pz 0 42 mk15_1 (any_of HT_.out (by kernel_rfl)) ?_
      refine one_ (i := 1) (N := some 43) mk15_2 rfl rfl (one_of HT_.out (by kernel_rfl)) (by decide) (fun K hK => ?_)
      refine goes_ Try.func25 (by kernel_rfl) rfl #[.slice Ao16 t582.length co16] (by rfl) rfl rfl u15_3 ?_
      with_reducible refine (impl_IsRig.calls k _ _ t582 true _ ?side1 ?side2 A20.out).mono ?_
      (case side1 => exact y15_1)
      (case side2 => exact (Kd.R_reads' HO584.out).2.1)
      rintro e w24 ⟨rfl, hb⟩
      refine ⟨_, rfl, ?_⟩
      have n0_ := Aside0.mk (Kd.Q_below u15_6 hb)
      have n1_ := Aside0.mk (Kd.R_below u15_7 hb)
      have n2_ := Aside0.mk (Kd.R_below u15_9 hb)
      have n3_ := Aside0.mk (blk_below (g := gb581) (o := .cells #[.string t573, .int .i64 t574, .string t575, .int .i64 t576, .int .i64 t577, .int .i64 t578, .int .i64 t579, .int .i64 t580] 30 (0, 0)) u15_4 hb)
      have n4_ := Aside0.mk (below_step u15_2 hb)
      clear HO572
      clear HO584
      clear HO591
      clear BK581
      clear HB
      have HO572 := n0_
      have HO584 := n1_
      have HO591 := n2_
      have BK581 := n3_
      have HB := n4_
      clear n0_ n1_ n2_ n3_ n4_
      (try clear hb)
      (try clear hb2)
      (try clear hk)
      (try clear hi)
      refine hK.out _ _ trivial (fun hHeld => ?_)
      clear hK K
      refine norm_ (a' := ?_) ?_ ?_
      rotate_left
      ·show Act.put _ (some 43) _ = _
       simp only [Act.put, List.setIfInBounds_toArray, List.set_cons_zero, List.set_cons_succ, i64_w, i32_w]
       rfl
      refine pz 2 44 mk15_3 (any_of HT_.out (by kernel_rfl)) ?_
      refine pz 3 45 mk15_4 (any_of HT_.out (by kernel_rfl)) ?_
      refine pz 4 46 mk15_5 (any_of HT_.out (by kernel_rfl)) ?_
      refine pz 5 47 mk15_6 (any_of HT_.out (by kernel_rfl)) ?_
      refine pz 6 48 mk15_7 (any_of HT_.out (by kernel_rfl)) ?_
      refine pz 7 49 mk15_8 (any_of HT_.out (by kernel_rfl)) ?_
      refine pure_ (i := 8) (N := some 50) (v := undef) (a' := ?_) mk15_9 rfl rfl (any_of HT_.out (by kernel_rfl)) (fun _ _ _ h => h) (Or.inr ⟨by rfl, rfl⟩) ?_ ?_
      rotate_left
      ·exact ap
      refine pure_ (i := 9) (N := some 51) (v := undef) (a' := ?_) mk15_10 rfl rfl (any_of HT_.out (by kernel_rfl)) (fun _ _ _ h => h) (Or.inr ⟨by rfl, rfl⟩) ?_ ?_
      rotate_left
      ·exact ap
      refine pure_ (i := 10) (N := some 52) (v := undef) (a' := ?_) mk15_11 rfl rfl (any_of HT_.out (by kernel_rfl)) (fun _ _ _ h => h) (Or.inr ⟨by rfl, rfl⟩) ?_ ?_
      rotate_left
      ·exact ap
      refine pure_ (i := 11) (N := some 53) (v := undef) (a' := ?_) mk15_12 rfl rfl (any_of HT_.out (by kernel_rfl)) (fun _ _ _ h => h) (Or.inr ⟨by rfl, rfl⟩) ?_ ?_
      rotate_left
      ·exact ap
      refine pure_ (i := 12) (N := some 54) (v := undef) (a' := ?_) mk15_13 rfl rfl (any_of HT_.out (by kernel_rfl)) (fun _ _ _ h => h) (Or.inr ⟨by rfl, rfl⟩) ?_ ?_
      rotate_left
      ·exact ap
      refine pure_ (i := 13) (N := some 55) (v := undef) (a' := ?_) mk15_14 rfl rfl (any_of HT_.out (by kernel_rfl)) (fun _ _ _ h => h) (Or.inr ⟨by rfl, rfl⟩) ?_ ?_
      rotate_left
      ·exact ap
      refine pz 14 56 mk15_15 (any_of HT_.out (by kernel_rfl)) ?_
      refine pz 15 57 mk15_16 (any_of HT_.out (by kernel_rfl)) ?_
      refine pure_ (i := 16) (N := some 58) (v := undef) (a' := ?_) mk15_17 rfl rfl (any_of HT_.out (by kernel_rfl)) (fun _ _ _ h => h) (Or.inr ⟨by rfl, rfl⟩) ?_ ?_
      rotate_left
      ·exact ap
      refine pure_ (i := 17) (N := some 59) (v := undef) (a' := ?_) mk15_18 rfl rfl (any_of HT_.out (by kernel_rfl)) (fun _ _ _ h => h) (Or.inr ⟨by rfl, rfl⟩) ?_ ?_
      rotate_left
      ·exact ap
      refine pz 18 60 mk15_19 (any_of HT_.out (by kernel_rfl)) ?_
      refine pz 19 61 mk15_20 (any_of HT_.out (by kernel_rfl)) ?_
      refine pure_ (i := 20) (N := some 62) (v := undef) (a' := ?_) mk15_21 rfl rfl (any_of HT_.out (by kernel_rfl)) (fun _ _ _ h => h) (Or.inr ⟨by rfl, rfl⟩) ?_ ?_
      rotate_left
      ·exact ap
      refine pure_ (i := 21) (N := some 63) (v := undef) (a' := ?_) mk15_22 rfl rfl (any_of HT_.out (by kernel_rfl)) (fun _ _ _ h => h) (Or.inr ⟨by rfl, rfl⟩) ?_ ?_
      rotate_left
      ·exact ap
      refine pure_ (i := 22) (N := some 64) (v := undef) (a' := ?_) mk15_23 rfl rfl (any_of HT_.out (by kernel_rfl)) (fun _ _ _ h => h) (Or.inr ⟨by rfl, rfl⟩) ?_ ?_
      rotate_left
      ·exact ap
      refine pure_ (i := 23) (N := some 65) (v := undef) (a' := ?_) mk15_24 rfl rfl (any_of HT_.out (by kernel_rfl)) (fun _ _ _ h => h) (Or.inr ⟨by rfl, rfl⟩) ?_ ?_
      rotate_left
      ·exact ap
      refine pz 24 66 mk15_25 (any_of HT_.out (by kernel_rfl)) ?_
      refine done_ (done_of HT_.out (by kernel_rfl)) ?_
      try go_wp2
      go_meet
      case rel => exact ⟨_, (true), u15_10, H', ⟨by first | omega | exact Nat.le_refl _⟩, ⟨by (with_reducible repeat (first | apply Kd.R_alloc | apply Kd.R_drewN | apply Kd.R_drew)); exact Kd.R_mono HO584.out (fun _ hk => hk.1.2)⟩, ⟨by (with_reducible repeat (first | refine blk_drewN ?_ _ | refine blk_drew ?_ | refine blk_alloc ?_ _)); exact BK581.out⟩, ⟨s15_1⟩⟩
     ·rw [if_neg c22] at H
      have c22b0 : decide (t587 < 0) = false := decide_eq_false c22
      clear c22
      (first | rw [c22b0] | (simp only [i64_w, i32_w]; rw [c22b0]) | skip)
      by_cases c25 : 0 ≤ t587
      ·rw [if_pos c25] at H
       have c25b0 : decide (0 ≤ t587) = true := decide_eq_true c25
       clear c25
       by_cases c26 : t587 < (t582.length : Int)
       ·rw [if_pos c26] at H
        have c26b0 : decide (t587 < (t582.length : Int)) = true := decide_eq_true c26
        clear c26
        by_cases c27 : (!((((rd_T30 t582 t587).f0).toList) == t573.toList) || (!(((rd_T30 t582 t587).f1) == t574) || (!((((rd_T30 t582 t587).f2).toList) == t575.toList) || ((!(((rd_T30 t582 t587).f3.f0) == t576) || (!(((rd_T30 t582 t587).f3.f1) == t577))) || (!(((rd_T30 t582 t587).f4) == t578) || (!(((rd_T30 t582 t587).f5) == t579) || (!(((rd_T30 t582 t587).f6) == t580)))))))) = true
        ·rw [if_pos c27] at H
         have c27b0 : (!((((rd_T30 t582 t587).f0).toList) == t573.toList) || (!(((rd_T30 t582 t587).f1) == t574) || (!((((rd_T30 t582 t587).f2).toList) == t575.toList) || ((!(((rd_T30 t582 t587).f3.f0) == t576) || (!(((rd_T30 t582 t587).f3.f1) == t577))) || (!(((rd_T30 t582 t587).f4) == t578) || (!(((rd_T30 t582 t587).f5) == t579) || (!(((rd_T30 t582 t587).f6) == t580)))))))) = true := c27
         clear c27
         have H' := Aside0.mk H
         clear H
         try go_wp2
         have n0_ := Aside0.mk (Kd.Q_drew HO572.out)
         have n1_ := Aside0.mk (Kd.R_drew HO584.out)
         have n2_ := Aside0.mk (Kd.R_drew HO591.out)
         have n3_ := Aside0.mk (blk_drew BK581.out)
         have n4_ := Aside0.mk (below_drew1 HB.out)
         clear HO572
         clear HO584
         clear HO591
         clear BK581
         clear HB
         have HO572 := n0_
         have HO584 := n1_
         have HO591 := n2_
         have BK581 := n3_
         have HB := n4_
         clear n0_ n1_ n2_ n3_ n4_
         have p593 : 0 ≤ (t587 : Int) := of_decide_eq_true (by assumption)
         have q593 : t587 < (t582.length : Int) := of_decide_eq_true (by assumption)
         obtain ⟨ad593, e593, hx593_0, hx593_1, hx593_2, hx593_3, hx593_4, hx593_5, hx593_6, hx593_7⟩ := at_T30 (Kd.R_reads' HO584.out).2.2 t587 p593 q593
         cases e593
         replace p593 := eq_true p593
         replace q593 := eq_true q593
         refine start_ (n := 25) (S := fun w' => w'.cell? ⟨gb581, 0, none⟩ = some (.string t573) ∧ w'.cell? ⟨gb581, 1, none⟩ = some (.int .i64 t574) ∧ w'.cell? ⟨gb581, 2, none⟩ = some (.string t575) ∧ w'.cell? ⟨gb581, 3, none⟩ = some (.int .i64 t576) ∧ w'.cell? ⟨gb581, 4, none⟩ = some (.int .i64 t577) ∧ w'.cell? ⟨gb581, 5, none⟩ = some (.int .i64 t578) ∧ w'.cell? ⟨gb581, 6, none⟩ = some (.int .i64 t579) ∧ w'.cell? ⟨gb581, 7, none⟩ = some (.int .i64 t580) ∧ w'.cell? (ad593.add ((t587).toNat * 8)) = some (.string ((rd_T30 t582 t587).f0)) ∧ w'.cell? ⟨(ad593.add ((t587).toNat * 8)).block, (ad593.add ((t587).toNat * 8)).off + 1, none⟩ = some (.int .i64 ((rd_T30 t582 t587).f1)) ∧ w'.cell? ⟨(ad593.add ((t587).toNat * 8)).block, (ad593.add ((t587).toNat * 8)).off + 2, none⟩ = some (.string ((rd_T30 t582 t587).f2)) ∧ w'.cell? ⟨(ad593.add ((t587).toNat * 8)).block, (ad593.add ((t587).toNat * 8)).off + 3, none⟩ = some (.int .i64 ((rd_T30 t582 t587).f3.f0)) ∧ w'.cell? ⟨(ad593.add ((t587).toNat * 8)).block, (ad593.add ((t587).toNat * 8)).off + 4, none⟩ = some (.int .i64 ((rd_T30 t582 t587).f3.f1)) ∧ w'.cell? ⟨(ad593.add ((t587).toNat * 8)).block, (ad593.add ((t587).toNat * 8)).off + 5, none⟩ = some (.int .i64 ((rd_T30 t582 t587).f4)) ∧ w'.cell? ⟨(ad593.add ((t587).toNat * 8)).block, (ad593.add ((t587).toNat * 8)).off + 6, none⟩ = some (.int .i64 ((rd_T30 t582 t587).f5)) ∧ w'.cell? ⟨(ad593.add ((t587).toNat * 8)).block, (ad593.add ((t587).toNat * 8)).off + 7, none⟩ = some (.int .i64 ((rd_T30 t582 t587).f6))) (ds := []) mk15_0 (by kernel_rfl) rfl rfl ⟨(blk_cell BK581.out 0).trans rfl, (blk_cell BK581.out 1).trans rfl, (blk_cell BK581.out 2).trans rfl, (blk_cell BK581.out 3).trans rfl, (blk_cell BK581.out 4).trans rfl, (blk_cell BK581.out 5).trans rfl, (blk_cell BK581.out 6).trans rfl, (blk_cell BK581.out 7).trans rfl, hx593_0, hx593_1, hx593_2, hx593_3, hx593_4, hx593_5, hx593_6, hx593_7⟩ (fun hHeld => ?_); refine with_tabW laws_FnRig.tab9 laws_FnRig.bits9 (fun HT_ HW_ => ?_)
         generalize w19.drew = w28 at HO572 HO584 HO591 BK581 HB hx593_0 hx593_1 hx593_2 hx593_3 hx593_4 hx593_5 hx593_6 hx593_7 hHeld ⊢
         refine pz 0 42 mk15_1 (any_of HT_.out (by kernel_rfl)) ?_
         refine one_ (i := 1) (N := some 43) mk15_2 rfl rfl (one_of HT_.out (by kernel_rfl)) (by decide) (fun K hK => ?_)
         refine goes_ Try.func25 (by kernel_rfl) rfl #[.slice (some ad593) t582.length co16] (by rfl) rfl rfl u15_3 ?_
         with_reducible refine (impl_IsRig.calls k _ _ t582 true _ ?side1 ?side2 A20.out).mono ?_
         (case side1 => exact y15_1)
         (case side2 => exact (Kd.R_reads' HO584.out).2.1)
         rintro e w29 ⟨rfl, hb⟩
         have HS8_ := (hb.cell (World.block_lt_of_cell? _ _ (hHeld.2.2.2.2.2.2.2.2.1))).trans (hHeld.2.2.2.2.2.2.2.2.1)
         have HS9_ := (hb.cell (World.block_lt_of_cell? _ _ (hHeld.2.2.2.2.2.2.2.2.2.1))).trans (hHeld.2.2.2.2.2.2.2.2.2.1)
         have HS10_ := (hb.cell (World.block_lt_of_cell? _ _ (hHeld.2.2.2.2.2.2.2.2.2.2.1))).trans (hHeld.2.2.2.2.2.2.2.2.2.2.1)
         have HS11_ := (hb.cell (World.block_lt_of_cell? _ _ (hHeld.2.2.2.2.2.2.2.2.2.2.2.1))).trans (hHeld.2.2.2.2.2.2.2.2.2.2.2.1)
         have HS12_ := (hb.cell (World.block_lt_of_cell? _ _ (hHeld.2.2.2.2.2.2.2.2.2.2.2.2.1))).trans (hHeld.2.2.2.2.2.2.2.2.2.2.2.2.1)
         have HS13_ := (hb.cell (World.block_lt_of_cell? _ _ (hHeld.2.2.2.2.2.2.2.2.2.2.2.2.2.1))).trans (hHeld.2.2.2.2.2.2.2.2.2.2.2.2.2.1)
         have HS14_ := (hb.cell (World.block_lt_of_cell? _ _ (hHeld.2.2.2.2.2.2.2.2.2.2.2.2.2.2.1))).trans (hHeld.2.2.2.2.2.2.2.2.2.2.2.2.2.2.1)
         have HS15_ := (hb.cell (World.block_lt_of_cell? _ _ (hHeld.2.2.2.2.2.2.2.2.2.2.2.2.2.2.2))).trans (hHeld.2.2.2.2.2.2.2.2.2.2.2.2.2.2.2)
         refine ⟨_, rfl, ?_⟩
         have n0_ := Aside0.mk (Kd.Q_below u15_6 hb)
         have n1_ := Aside0.mk (Kd.R_below u15_7 hb)
         have n2_ := Aside0.mk (Kd.R_below u15_9 hb)
         have n3_ := Aside0.mk (blk_below (g := gb581) (o := .cells #[.string t573, .int .i64 t574, .string t575, .int .i64 t576, .int .i64 t577, .int .i64 t578, .int .i64 t579, .int .i64 t580] 30 (0, 0)) u15_4 hb)
         have n4_ := Aside0.mk (below_step u15_2 hb)
         clear HO572
         clear HO584
         clear HO591
         clear BK581
         clear HB
         have HO572 := n0_
         have HO584 := n1_
         have HO591 := n2_
         have BK581 := n3_
         have HB := n4_
         clear n0_ n1_ n2_ n3_ n4_
         (try clear hb)
         (try clear hb2)
         (try clear hk)
         (try clear hi)
         refine hK.out _ _ ⟨(blk_cell BK581.out 0).trans rfl, (blk_cell BK581.out 1).trans rfl, (blk_cell BK581.out 2).trans rfl, (blk_cell BK581.out 3).trans rfl, (blk_cell BK581.out 4).trans rfl, (blk_cell BK581.out 5).trans rfl, (blk_cell BK581.out 6).trans rfl, (blk_cell BK581.out 7).trans rfl, HS8_, HS9_, HS10_, HS11_, HS12_, HS13_, HS14_, HS15_⟩ (fun hHeld => ?_)
         clear hK K
         refine norm_ (a' := ?_) ?_ ?_
         rotate_left
         ·show Act.put _ (some 43) _ = _
          simp only [Act.put, List.setIfInBounds_toArray, List.set_cons_zero, List.set_cons_succ, i64_w, i32_w]
          rfl
         refine pz 2 44 mk15_3 (any_of HT_.out (by kernel_rfl)) ?_
         refine pz 3 45 mk15_4 (any_of HT_.out (by kernel_rfl)) ?_
         refine pz 4 46 mk15_5 (any_of HT_.out (by kernel_rfl)) ?_
         refine pz 5 47 mk15_6 (any_of HT_.out (by kernel_rfl)) ?_
         refine pz 6 48 mk15_7 (any_of HT_.out (by kernel_rfl)) ?_
         refine pz 7 49 mk15_8 (any_of HT_.out (by kernel_rfl)) ?_
         refine pz 8 50 mk15_9 (any_of HT_.out (by kernel_rfl)) ?_
         refine pz 9 51 mk15_10 (any_of HT_.out (by kernel_rfl)) ?_
         refine pz 10 52 mk15_11 (any_of HT_.out (by kernel_rfl)) ?_
         refine take_ (i := 11) (N := some 53) (v := ?_) (a' := ?_) mk15_12 rfl rfl (take_ofW HT_.out HW_.out (by kernel_rfl)) (fun _ _ _ h => h) (Or.inl ⟨by rfl, ?_⟩) hHeld ?_ ?_
         rotate_left
         ·rintro w' ⟨s0, s1, s2, s3, s4, s5, s6, s7, s8, s9, s10, s11, s12, s13, s14, s15⟩
          exact gs
         rotate_left
         ·exact ap
         refine take_ (i := 12) (N := some 54) (v := ?_) (a' := ?_) mk15_13 rfl rfl (take_ofW HT_.out HW_.out (by kernel_rfl)) (fun _ _ _ h => h) (Or.inl ⟨by rfl, ?_⟩) hHeld ?_ ?_
         rotate_left
         ·rintro w' ⟨s0, s1, s2, s3, s4, s5, s6, s7, s8, s9, s10, s11, s12, s13, s14, s15⟩
          exact gs
         rotate_left
         ·exact ap
         refine pz 13 55 mk15_14 (any_of HT_.out (by kernel_rfl)) ?_
         refine pz 14 56 mk15_15 (any_of HT_.out (by kernel_rfl)) ?_
         refine pz 15 57 mk15_16 (any_of HT_.out (by kernel_rfl)) ?_
         refine pure_ (i := 16) (N := some 58) (v := undef) (a' := ?_) mk15_17 rfl rfl (any_of HT_.out (by kernel_rfl)) (fun _ _ _ h => h) (Or.inr ⟨by rfl, rfl⟩) ?_ ?_
         rotate_left
         ·exact ap
         refine pure_ (i := 17) (N := some 59) (v := undef) (a' := ?_) mk15_18 rfl rfl (any_of HT_.out (by kernel_rfl)) (fun _ _ _ h => h) (Or.inr ⟨by rfl, rfl⟩) ?_ ?_
         rotate_left
         ·exact ap
         refine pz 18 60 mk15_19 (any_of HT_.out (by kernel_rfl)) ?_
         refine pz 19 61 mk15_20 (any_of HT_.out (by kernel_rfl)) ?_
         refine pure_ (i := 20) (N := some 62) (v := undef) (a' := ?_) mk15_21 rfl rfl (any_of HT_.out (by kernel_rfl)) (fun _ _ _ h => h) (Or.inr ⟨by rfl, rfl⟩) ?_ ?_
         rotate_left
         ·exact ap
         refine pure_ (i := 21) (N := some 63) (v := undef) (a' := ?_) mk15_22 rfl rfl (any_of HT_.out (by kernel_rfl)) (fun _ _ _ h => h) (Or.inr ⟨by rfl, rfl⟩) ?_ ?_
         rotate_left
         ·exact ap
         refine pure_ (i := 22) (N := some 64) (v := undef) (a' := ?_) mk15_23 rfl rfl (any_of HT_.out (by kernel_rfl)) (fun _ _ _ h => h) (Or.inr ⟨by rfl, rfl⟩) ?_ ?_
         rotate_left
         ·exact ap
         refine pure_ (i := 23) (N := some 65) (v := undef) (a' := ?_) mk15_24 rfl rfl (any_of HT_.out (by kernel_rfl)) (fun _ _ _ h => h) (Or.inr ⟨by rfl, rfl⟩) ?_ ?_
         rotate_left
         ·exact ap
         refine pz 24 66 mk15_25 (any_of HT_.out (by kernel_rfl)) ?_
         refine done_ (done_of HT_.out (by kernel_rfl)) ?_
         try go_wp2
         go_meet
         case rel => exact ⟨_, (true), u15_10, H', ⟨by first | omega | exact Nat.le_refl _⟩, ⟨by (with_reducible repeat (first | apply Kd.R_alloc | apply Kd.R_drewN | apply Kd.R_drew)); exact Kd.R_mono HO584.out (fun _ hk => hk.1.2)⟩, ⟨by (with_reducible repeat (first | refine blk_drewN ?_ _ | refine blk_drew ?_ | refine blk_alloc ?_ _)); exact BK581.out⟩, ⟨s15_1⟩⟩
        ·rw [if_neg c27] at H
         have c27b0 : (!((((rd_T30 t582 t587).f0).toList) == t573.toList) || (!(((rd_T30 t582 t587).f1) == t574) || (!((((rd_T30 t582 t587).f2).toList) == t575.toList) || ((!(((rd_T30 t582 t587).f3.f0) == t576) || (!(((rd_T30 t582 t587).f3.f1) == t577))) || (!(((rd_T30 t582 t587).f4) == t578) || (!(((rd_T30 t582 t587).f5) == t579) || (!(((rd_T30 t582 t587).f6) == t580)))))))) = false := by simpa using c27
         clear c27
         by_cases c30 : t589 = true
         ·subst c30
          have H1 : ((laws_rigs.f k t588 t570).bind fun t594 => (laws_FnRig.j0 k t582 (!t594))) = some r := by rw [if_pos rfl] at H; exact H
          clear H
          have H := H1
          clear H1
          replace H := Option.bind_eq_some_iff.mp H
          obtain ⟨t594, A310, H⟩ := H
          replace H : (laws_FnRig.j0 k t582 (!t594)) = some r := H
          have A31 := Aside0.mk A310
          clear A310
          have H' := Aside0.mk H
          clear H
          try go_wp2
          have n0_ := Aside0.mk (Kd.Q_drew HO572.out)
          have n1_ := Aside0.mk (Kd.R_drew HO584.out)
          have n2_ := Aside0.mk (Kd.R_drew HO591.out)
          have n3_ := Aside0.mk (blk_drew BK581.out)
          have n4_ := Aside0.mk (below_drew1 HB.out)
          clear HO572
          clear HO584
          clear HO591
          clear BK581
          clear HB
          have HO572 := n0_
          have HO584 := n1_
          have HO591 := n2_
          have BK581 := n3_
          have HB := n4_
          clear n0_ n1_ n2_ n3_ n4_
          have p593 : 0 ≤ (t587 : Int) := of_decide_eq_true (by assumption)
          have q593 : t587 < (t582.length : Int) := of_decide_eq_true (by assumption)
          obtain ⟨ad593, e593, hx593_0, hx593_1, hx593_2, hx593_3, hx593_4, hx593_5, hx593_6, hx593_7⟩ := at_T30 (Kd.R_reads' HO584.out).2.2 t587 p593 q593
          cases e593
          replace p593 := eq_true p593
          replace q593 := eq_true q593
          refine start_ (n := 25) (S := fun w' => w'.cell? ⟨gb581, 0, none⟩ = some (.string t573) ∧ w'.cell? ⟨gb581, 1, none⟩ = some (.int .i64 t574) ∧ w'.cell? ⟨gb581, 2, none⟩ = some (.string t575) ∧ w'.cell? ⟨gb581, 3, none⟩ = some (.int .i64 t576) ∧ w'.cell? ⟨gb581, 4, none⟩ = some (.int .i64 t577) ∧ w'.cell? ⟨gb581, 5, none⟩ = some (.int .i64 t578) ∧ w'.cell? ⟨gb581, 6, none⟩ = some (.int .i64 t579) ∧ w'.cell? ⟨gb581, 7, none⟩ = some (.int .i64 t580) ∧ w'.cell? (ad593.add ((t587).toNat * 8)) = some (.string ((rd_T30 t582 t587).f0)) ∧ w'.cell? ⟨(ad593.add ((t587).toNat * 8)).block, (ad593.add ((t587).toNat * 8)).off + 1, none⟩ = some (.int .i64 ((rd_T30 t582 t587).f1)) ∧ w'.cell? ⟨(ad593.add ((t587).toNat * 8)).block, (ad593.add ((t587).toNat * 8)).off + 2, none⟩ = some (.string ((rd_T30 t582 t587).f2)) ∧ w'.cell? ⟨(ad593.add ((t587).toNat * 8)).block, (ad593.add ((t587).toNat * 8)).off + 3, none⟩ = some (.int .i64 ((rd_T30 t582 t587).f3.f0)) ∧ w'.cell? ⟨(ad593.add ((t587).toNat * 8)).block, (ad593.add ((t587).toNat * 8)).off + 4, none⟩ = some (.int .i64 ((rd_T30 t582 t587).f3.f1)) ∧ w'.cell? ⟨(ad593.add ((t587).toNat * 8)).block, (ad593.add ((t587).toNat * 8)).off + 5, none⟩ = some (.int .i64 ((rd_T30 t582 t587).f4)) ∧ w'.cell? ⟨(ad593.add ((t587).toNat * 8)).block, (ad593.add ((t587).toNat * 8)).off + 6, none⟩ = some (.int .i64 ((rd_T30 t582 t587).f5)) ∧ w'.cell? ⟨(ad593.add ((t587).toNat * 8)).block, (ad593.add ((t587).toNat * 8)).off + 7, none⟩ = some (.int .i64 ((rd_T30 t582 t587).f6))) (ds := []) mk15_0 (by kernel_rfl) rfl rfl ⟨(blk_cell BK581.out 0).trans rfl, (blk_cell BK581.out 1).trans rfl, (blk_cell BK581.out 2).trans rfl, (blk_cell BK581.out 3).trans rfl, (blk_cell BK581.out 4).trans rfl, (blk_cell BK581.out 5).trans rfl, (blk_cell BK581.out 6).trans rfl, (blk_cell BK581.out 7).trans rfl, hx593_0, hx593_1, hx593_2, hx593_3, hx593_4, hx593_5, hx593_6, hx593_7⟩ (fun hHeld => ?_); refine with_tabW laws_FnRig.tab9 laws_FnRig.bits9 (fun HT_ HW_ => ?_)
          generalize w19.drew = w32 at HO572 HO584 HO591 BK581 HB hx593_0 hx593_1 hx593_2 hx593_3 hx593_4 hx593_5 hx593_6 hx593_7 hHeld ⊢
          refine pz 0 42 mk15_1 (any_of HT_.out (by kernel_rfl)) ?_
          refine one_ (i := 1) (N := some 43) mk15_2 rfl rfl (one_of HT_.out (by kernel_rfl)) (by decide) (fun K hK => ?_)
          refine goes_ Try.func25 (by kernel_rfl) rfl #[.slice (some ad593) t582.length co16] (by rfl) rfl rfl u15_3 ?_
          with_reducible refine (impl_IsRig.calls k _ _ t582 true _ ?side1 ?side2 A20.out).mono ?_
          (case side1 => exact y15_1)
          (case side2 => exact (Kd.R_reads' HO584.out).2.1)
          rintro e w33 ⟨rfl, hb⟩
          have HS8_ := (hb.cell (World.block_lt_of_cell? _ _ (hHeld.2.2.2.2.2.2.2.2.1))).trans (hHeld.2.2.2.2.2.2.2.2.1)
          have HS9_ := (hb.cell (World.block_lt_of_cell? _ _ (hHeld.2.2.2.2.2.2.2.2.2.1))).trans (hHeld.2.2.2.2.2.2.2.2.2.1)
          have HS10_ := (hb.cell (World.block_lt_of_cell? _ _ (hHeld.2.2.2.2.2.2.2.2.2.2.1))).trans (hHeld.2.2.2.2.2.2.2.2.2.2.1)
          have HS11_ := (hb.cell (World.block_lt_of_cell? _ _ (hHeld.2.2.2.2.2.2.2.2.2.2.2.1))).trans (hHeld.2.2.2.2.2.2.2.2.2.2.2.1)
          have HS12_ := (hb.cell (World.block_lt_of_cell? _ _ (hHeld.2.2.2.2.2.2.2.2.2.2.2.2.1))).trans (hHeld.2.2.2.2.2.2.2.2.2.2.2.2.1)
          have HS13_ := (hb.cell (World.block_lt_of_cell? _ _ (hHeld.2.2.2.2.2.2.2.2.2.2.2.2.2.1))).trans (hHeld.2.2.2.2.2.2.2.2.2.2.2.2.2.1)
          have HS14_ := (hb.cell (World.block_lt_of_cell? _ _ (hHeld.2.2.2.2.2.2.2.2.2.2.2.2.2.2.1))).trans (hHeld.2.2.2.2.2.2.2.2.2.2.2.2.2.2.1)
          have HS15_ := (hb.cell (World.block_lt_of_cell? _ _ (hHeld.2.2.2.2.2.2.2.2.2.2.2.2.2.2.2))).trans (hHeld.2.2.2.2.2.2.2.2.2.2.2.2.2.2.2)
          refine ⟨_, rfl, ?_⟩
          have n0_ := Aside0.mk (Kd.Q_below u15_6 hb)
          have n1_ := Aside0.mk (Kd.R_below u15_7 hb)
          have n2_ := Aside0.mk (Kd.R_below u15_9 hb)
          have n3_ := Aside0.mk (blk_below (g := gb581) (o := .cells #[.string t573, .int .i64 t574, .string t575, .int .i64 t576, .int .i64 t577, .int .i64 t578, .int .i64 t579, .int .i64 t580] 30 (0, 0)) u15_4 hb)
          have n4_ := Aside0.mk (below_step u15_2 hb)
          clear HO572
          clear HO584
          clear HO591
          clear BK581
          clear HB
          have HO572 := n0_
          have HO584 := n1_
          have HO591 := n2_
          have BK581 := n3_
          have HB := n4_
          clear n0_ n1_ n2_ n3_ n4_
          (try clear hb)
          (try clear hb2)
          (try clear hk)
          (try clear hi)
          obtain ⟨Ao34, co34, eo34⟩ := Kd.R_slice HO591.out
          (first | subst eo34 | (injection eo34 with f1_ f2_ f3_; have f4_ := f1_.symm; have f5_ := f3_.symm; clear f1_ f2_ f3_; subst f4_; subst f5_))
          refine hK.out _ _ ⟨(blk_cell BK581.out 0).trans rfl, (blk_cell BK581.out 1).trans rfl, (blk_cell BK581.out 2).trans rfl, (blk_cell BK581.out 3).trans rfl, (blk_cell BK581.out 4).trans rfl, (blk_cell BK581.out 5).trans rfl, (blk_cell BK581.out 6).trans rfl, (blk_cell BK581.out 7).trans rfl, HS8_, HS9_, HS10_, HS11_, HS12_, HS13_, HS14_, HS15_⟩ (fun hHeld => ?_)
          clear hK K
          refine norm_ (a' := ?_) ?_ ?_
          rotate_left
          ·show Act.put _ (some 43) _ = _
           simp only [Act.put, List.setIfInBounds_toArray, List.set_cons_zero, List.set_cons_succ, i64_w, i32_w]
           rfl
          refine pz 2 44 mk15_3 (any_of HT_.out (by kernel_rfl)) ?_
          refine pz 3 45 mk15_4 (any_of HT_.out (by kernel_rfl)) ?_
          refine pz 4 46 mk15_5 (any_of HT_.out (by kernel_rfl)) ?_
          refine pz 5 47 mk15_6 (any_of HT_.out (by kernel_rfl)) ?_
          refine pz 6 48 mk15_7 (any_of HT_.out (by kernel_rfl)) ?_
          refine pz 7 49 mk15_8 (any_of HT_.out (by kernel_rfl)) ?_
          refine pz 8 50 mk15_9 (any_of HT_.out (by kernel_rfl)) ?_
          refine pz 9 51 mk15_10 (any_of HT_.out (by kernel_rfl)) ?_
          refine pz 10 52 mk15_11 (any_of HT_.out (by kernel_rfl)) ?_
          refine take_ (i := 11) (N := some 53) (v := ?_) (a' := ?_) mk15_12 rfl rfl (take_ofW HT_.out HW_.out (by kernel_rfl)) (fun _ _ _ h => h) (Or.inl ⟨by rfl, ?_⟩) hHeld ?_ ?_
          rotate_left
          ·rintro w' ⟨s0, s1, s2, s3, s4, s5, s6, s7, s8, s9, s10, s11, s12, s13, s14, s15⟩
           exact gs
          rotate_left
          ·exact ap
          refine take_ (i := 12) (N := some 54) (v := ?_) (a' := ?_) mk15_13 rfl rfl (take_ofW HT_.out HW_.out (by kernel_rfl)) (fun _ _ _ h => h) (Or.inl ⟨by rfl, ?_⟩) hHeld ?_ ?_
          rotate_left
          ·rintro w' ⟨s0, s1, s2, s3, s4, s5, s6, s7, s8, s9, s10, s11, s12, s13, s14, s15⟩
           exact gs
          rotate_left
          ·exact ap
          refine pz 13 55 mk15_14 (any_of HT_.out (by kernel_rfl)) ?_
          refine pz 14 56 mk15_15 (any_of HT_.out (by kernel_rfl)) ?_
          refine pz 15 57 mk15_16 (any_of HT_.out (by kernel_rfl)) ?_
          refine pz 16 58 mk15_17 (any_of HT_.out (by kernel_rfl)) ?_
          refine pz 17 59 mk15_18 (any_of HT_.out (by kernel_rfl)) ?_
          refine pz 18 60 mk15_19 (any_of HT_.out (by kernel_rfl)) ?_
          refine pz 19 61 mk15_20 (any_of HT_.out (by kernel_rfl)) ?_
          refine pz 20 62 mk15_21 (any_of HT_.out (by kernel_rfl)) ?_
          refine pz 21 63 mk15_22 (any_of HT_.out (by kernel_rfl)) ?_
          refine one_ (i := 22) (N := some 64) mk15_23 rfl rfl (one_of HT_.out (by kernel_rfl)) (by decide) (fun K hK => ?_)
          refine goes_ Try.func50 (by kernel_rfl) rfl #[.slice Ao34 t588.length co34, .slice Ao13 t570.length co13] (by rfl) rfl rfl u15_3 ?_
          with_reducible refine (laws_rigs.calls k _ _ t588 _ _ t570 t594 _ ?side1 ?side2 ?side3 ?side4 A31.out).mono ?_
          (case side1 => repeat (first | exact (Kd.R_reads' HO591.out).2.2 | (with_reducible refine Kd.C_alloc ?_ _) | (with_reducible refine Kd.C_drewN ?_ _) | (with_reducible refine Kd.C_drew ?_)))
          (case side2 => exact (Kd.R_reads' HO591.out).2.1)
          (case side3 => exact s15_0)
          (case side4 => exact (Kd.Q_reads' HO572.out).2.1)
          rintro e w' ⟨rfl, ⟨nd, rfl⟩⟩
          refine ⟨_, rfl, ?_⟩
          refine hK.out _ _ ⟨(blk_cell BK581.out 0).trans rfl, (blk_cell BK581.out 1).trans rfl, (blk_cell BK581.out 2).trans rfl, (blk_cell BK581.out 3).trans rfl, (blk_cell BK581.out 4).trans rfl, (blk_cell BK581.out 5).trans rfl, (blk_cell BK581.out 6).trans rfl, (blk_cell BK581.out 7).trans rfl, hHeld.2.2.2.2.2.2.2.2.1, hHeld.2.2.2.2.2.2.2.2.2.1, hHeld.2.2.2.2.2.2.2.2.2.2.1, hHeld.2.2.2.2.2.2.2.2.2.2.2.1, hHeld.2.2.2.2.2.2.2.2.2.2.2.2.1, hHeld.2.2.2.2.2.2.2.2.2.2.2.2.2.1, hHeld.2.2.2.2.2.2.2.2.2.2.2.2.2.2.1, hHeld.2.2.2.2.2.2.2.2.2.2.2.2.2.2.2⟩ (fun hHeld => ?_)
          clear hK K
          refine norm_ (a' := ?_) ?_ ?_
          rotate_left
          ·show Act.put _ (some 64) _ = _
           simp only [Act.put, List.setIfInBounds_toArray, List.set_cons_zero, List.set_cons_succ, i64_w, i32_w]
           rfl
          refine pz 23 65 mk15_24 (any_of HT_.out (by kernel_rfl)) ?_
          refine pz 24 66 mk15_25 (any_of HT_.out (by kernel_rfl)) ?_
          refine done_ (done_of HT_.out (by kernel_rfl)) ?_
          try go_wp2
          go_meet
          case rel => exact ⟨_, (!t594), u15_10, H', ⟨by first | omega | exact Nat.le_refl _⟩, ⟨by (with_reducible repeat (first | apply Kd.R_alloc | apply Kd.R_drewN | apply Kd.R_drew)); exact Kd.R_mono HO584.out (fun _ hk => hk.1.2)⟩, ⟨by (with_reducible repeat (first | refine blk_drewN ?_ _ | refine blk_drew ?_ | refine blk_alloc ?_ _)); exact BK581.out⟩, ⟨s15_1⟩⟩
         ·replace c30 := Bool.eq_false_iff.mpr c30
          subst c30
          have H1 : (laws_FnRig.j0 k t582 true) = some r := by rw [if_neg (show ¬ (false = true) by decide)] at H; exact H
          clear H
          have H := H1
          clear H1
          have H' := Aside0.mk H
          clear H
          try go_wp2
          have n0_ := Aside0.mk (Kd.Q_drew HO572.out)
          have n1_ := Aside0.mk (Kd.R_drew HO584.out)
          have n2_ := Aside0.mk (Kd.R_drew HO591.out)
          have n3_ := Aside0.mk (blk_drew BK581.out)
          have n4_ := Aside0.mk (below_drew1 HB.out)
          clear HO572
          clear HO584
          clear HO591
          clear BK581
          clear HB
          have HO572 := n0_
          have HO584 := n1_
          have HO591 := n2_
          have BK581 := n3_
          have HB := n4_
          clear n0_ n1_ n2_ n3_ n4_
          have p593 : 0 ≤ (t587 : Int) := of_decide_eq_true (by assumption)
          have q593 : t587 < (t582.length : Int) := of_decide_eq_true (by assumption)
          obtain ⟨ad593, e593, hx593_0, hx593_1, hx593_2, hx593_3, hx593_4, hx593_5, hx593_6, hx593_7⟩ := at_T30 (Kd.R_reads' HO584.out).2.2 t587 p593 q593
          cases e593
          replace p593 := eq_true p593
          replace q593 := eq_true q593
          refine start_ (n := 25) (S := fun w' => w'.cell? ⟨gb581, 0, none⟩ = some (.string t573) ∧ w'.cell? ⟨gb581, 1, none⟩ = some (.int .i64 t574) ∧ w'.cell? ⟨gb581, 2, none⟩ = some (.string t575) ∧ w'.cell? ⟨gb581, 3, none⟩ = some (.int .i64 t576) ∧ w'.cell? ⟨gb581, 4, none⟩ = some (.int .i64 t577) ∧ w'.cell? ⟨gb581, 5, none⟩ = some (.int .i64 t578) ∧ w'.cell? ⟨gb581, 6, none⟩ = some (.int .i64 t579) ∧ w'.cell? ⟨gb581, 7, none⟩ = some (.int .i64 t580) ∧ w'.cell? (ad593.add ((t587).toNat * 8)) = some (.string ((rd_T30 t582 t587).f0)) ∧ w'.cell? ⟨(ad593.add ((t587).toNat * 8)).block, (ad593.add ((t587).toNat * 8)).off + 1, none⟩ = some (.int .i64 ((rd_T30 t582 t587).f1)) ∧ w'.cell? ⟨(ad593.add ((t587).toNat * 8)).block, (ad593.add ((t587).toNat * 8)).off + 2, none⟩ = some (.string ((rd_T30 t582 t587).f2)) ∧ w'.cell? ⟨(ad593.add ((t587).toNat * 8)).block, (ad593.add ((t587).toNat * 8)).off + 3, none⟩ = some (.int .i64 ((rd_T30 t582 t587).f3.f0)) ∧ w'.cell? ⟨(ad593.add ((t587).toNat * 8)).block, (ad593.add ((t587).toNat * 8)).off + 4, none⟩ = some (.int .i64 ((rd_T30 t582 t587).f3.f1)) ∧ w'.cell? ⟨(ad593.add ((t587).toNat * 8)).block, (ad593.add ((t587).toNat * 8)).off + 5, none⟩ = some (.int .i64 ((rd_T30 t582 t587).f4)) ∧ w'.cell? ⟨(ad593.add ((t587).toNat * 8)).block, (ad593.add ((t587).toNat * 8)).off + 6, none⟩ = some (.int .i64 ((rd_T30 t582 t587).f5)) ∧ w'.cell? ⟨(ad593.add ((t587).toNat * 8)).block, (ad593.add ((t587).toNat * 8)).off + 7, none⟩ = some (.int .i64 ((rd_T30 t582 t587).f6))) (ds := []) mk15_0 (by kernel_rfl) rfl rfl ⟨(blk_cell BK581.out 0).trans rfl, (blk_cell BK581.out 1).trans rfl, (blk_cell BK581.out 2).trans rfl, (blk_cell BK581.out 3).trans rfl, (blk_cell BK581.out 4).trans rfl, (blk_cell BK581.out 5).trans rfl, (blk_cell BK581.out 6).trans rfl, (blk_cell BK581.out 7).trans rfl, hx593_0, hx593_1, hx593_2, hx593_3, hx593_4, hx593_5, hx593_6, hx593_7⟩ (fun hHeld => ?_); refine with_tabW laws_FnRig.tab9 laws_FnRig.bits9 (fun HT_ HW_ => ?_)
          generalize w19.drew = w35 at HO572 HO584 HO591 BK581 HB hx593_0 hx593_1 hx593_2 hx593_3 hx593_4 hx593_5 hx593_6 hx593_7 hHeld ⊢
          refine pz 0 42 mk15_1 (any_of HT_.out (by kernel_rfl)) ?_
          refine one_ (i := 1) (N := some 43) mk15_2 rfl rfl (one_of HT_.out (by kernel_rfl)) (by decide) (fun K hK => ?_)
          refine goes_ Try.func25 (by kernel_rfl) rfl #[.slice (some ad593) t582.length co16] (by rfl) rfl rfl u15_3 ?_
          with_reducible refine (impl_IsRig.calls k _ _ t582 true _ ?side1 ?side2 A20.out).mono ?_
          (case side1 => exact y15_1)
          (case side2 => exact (Kd.R_reads' HO584.out).2.1)
          rintro e w36 ⟨rfl, hb⟩
          have HS8_ := (hb.cell (World.block_lt_of_cell? _ _ (hHeld.2.2.2.2.2.2.2.2.1))).trans (hHeld.2.2.2.2.2.2.2.2.1)
          have HS9_ := (hb.cell (World.block_lt_of_cell? _ _ (hHeld.2.2.2.2.2.2.2.2.2.1))).trans (hHeld.2.2.2.2.2.2.2.2.2.1)
          have HS10_ := (hb.cell (World.block_lt_of_cell? _ _ (hHeld.2.2.2.2.2.2.2.2.2.2.1))).trans (hHeld.2.2.2.2.2.2.2.2.2.2.1)
          have HS11_ := (hb.cell (World.block_lt_of_cell? _ _ (hHeld.2.2.2.2.2.2.2.2.2.2.2.1))).trans (hHeld.2.2.2.2.2.2.2.2.2.2.2.1)
          have HS12_ := (hb.cell (World.block_lt_of_cell? _ _ (hHeld.2.2.2.2.2.2.2.2.2.2.2.2.1))).trans (hHeld.2.2.2.2.2.2.2.2.2.2.2.2.1)
          have HS13_ := (hb.cell (World.block_lt_of_cell? _ _ (hHeld.2.2.2.2.2.2.2.2.2.2.2.2.2.1))).trans (hHeld.2.2.2.2.2.2.2.2.2.2.2.2.2.1)
          have HS14_ := (hb.cell (World.block_lt_of_cell? _ _ (hHeld.2.2.2.2.2.2.2.2.2.2.2.2.2.2.1))).trans (hHeld.2.2.2.2.2.2.2.2.2.2.2.2.2.2.1)
          have HS15_ := (hb.cell (World.block_lt_of_cell? _ _ (hHeld.2.2.2.2.2.2.2.2.2.2.2.2.2.2.2))).trans (hHeld.2.2.2.2.2.2.2.2.2.2.2.2.2.2.2)
          refine ⟨_, rfl, ?_⟩
          have n0_ := Aside0.mk (Kd.Q_below u15_6 hb)
          have n1_ := Aside0.mk (Kd.R_below u15_7 hb)
          have n2_ := Aside0.mk (Kd.R_below u15_9 hb)
          have n3_ := Aside0.mk (blk_below (g := gb581) (o := .cells #[.string t573, .int .i64 t574, .string t575, .int .i64 t576, .int .i64 t577, .int .i64 t578, .int .i64 t579, .int .i64 t580] 30 (0, 0)) u15_4 hb)
          have n4_ := Aside0.mk (below_step u15_2 hb)
          clear HO572
          clear HO584
          clear HO591
          clear BK581
          clear HB
          have HO572 := n0_
          have HO584 := n1_
          have HO591 := n2_
          have BK581 := n3_
          have HB := n4_
          clear n0_ n1_ n2_ n3_ n4_
          (try clear hb)
          (try clear hb2)
          (try clear hk)
          (try clear hi)
          refine hK.out _ _ ⟨(blk_cell BK581.out 0).trans rfl, (blk_cell BK581.out 1).trans rfl, (blk_cell BK581.out 2).trans rfl, (blk_cell BK581.out 3).trans rfl, (blk_cell BK581.out 4).trans rfl, (blk_cell BK581.out 5).trans rfl, (blk_cell BK581.out 6).trans rfl, (blk_cell BK581.out 7).trans rfl, HS8_, HS9_, HS10_, HS11_, HS12_, HS13_, HS14_, HS15_⟩ (fun hHeld => ?_)
          clear hK K
          refine norm_ (a' := ?_) ?_ ?_
          rotate_left
          ·show Act.put _ (some 43) _ = _
           simp only [Act.put, List.setIfInBounds_toArray, List.set_cons_zero, List.set_cons_succ, i64_w, i32_w]
           rfl
          refine pz 2 44 mk15_3 (any_of HT_.out (by kernel_rfl)) ?_
          refine pz 3 45 mk15_4 (any_of HT_.out (by kernel_rfl)) ?_
          refine pz 4 46 mk15_5 (any_of HT_.out (by kernel_rfl)) ?_
          refine pz 5 47 mk15_6 (any_of HT_.out (by kernel_rfl)) ?_
          refine pz 6 48 mk15_7 (any_of HT_.out (by kernel_rfl)) ?_
          refine pz 7 49 mk15_8 (any_of HT_.out (by kernel_rfl)) ?_
          refine pz 8 50 mk15_9 (any_of HT_.out (by kernel_rfl)) ?_
          refine pz 9 51 mk15_10 (any_of HT_.out (by kernel_rfl)) ?_
          refine pz 10 52 mk15_11 (any_of HT_.out (by kernel_rfl)) ?_
          refine take_ (i := 11) (N := some 53) (v := ?_) (a' := ?_) mk15_12 rfl rfl (take_ofW HT_.out HW_.out (by kernel_rfl)) (fun _ _ _ h => h) (Or.inl ⟨by rfl, ?_⟩) hHeld ?_ ?_
          rotate_left
          ·rintro w' ⟨s0, s1, s2, s3, s4, s5, s6, s7, s8, s9, s10, s11, s12, s13, s14, s15⟩
           exact gs
          rotate_left
          ·exact ap
          refine take_ (i := 12) (N := some 54) (v := ?_) (a' := ?_) mk15_13 rfl rfl (take_ofW HT_.out HW_.out (by kernel_rfl)) (fun _ _ _ h => h) (Or.inl ⟨by rfl, ?_⟩) hHeld ?_ ?_
          rotate_left
          ·rintro w' ⟨s0, s1, s2, s3, s4, s5, s6, s7, s8, s9, s10, s11, s12, s13, s14, s15⟩
           exact gs
          rotate_left
          ·exact ap
          refine pz 13 55 mk15_14 (any_of HT_.out (by kernel_rfl)) ?_
          refine pz 14 56 mk15_15 (any_of HT_.out (by kernel_rfl)) ?_
          refine pz 15 57 mk15_16 (any_of HT_.out (by kernel_rfl)) ?_
          refine pz 16 58 mk15_17 (any_of HT_.out (by kernel_rfl)) ?_
          refine pz 17 59 mk15_18 (any_of HT_.out (by kernel_rfl)) ?_
          refine pz 18 60 mk15_19 (any_of HT_.out (by kernel_rfl)) ?_
          refine pz 19 61 mk15_20 (any_of HT_.out (by kernel_rfl)) ?_
          refine pure_ (i := 20) (N := some 62) (v := undef) (a' := ?_) mk15_21 rfl rfl (any_of HT_.out (by kernel_rfl)) (fun _ _ _ h => h) (Or.inr ⟨by rfl, rfl⟩) ?_ ?_
          rotate_left
          ·exact ap
          refine pure_ (i := 21) (N := some 63) (v := undef) (a' := ?_) mk15_22 rfl rfl (any_of HT_.out (by kernel_rfl)) (fun _ _ _ h => h) (Or.inr ⟨by rfl, rfl⟩) ?_ ?_
          rotate_left
          ·exact ap
          refine pure_ (i := 22) (N := some 64) (v := undef) (a' := ?_) mk15_23 rfl rfl (any_of HT_.out (by kernel_rfl)) (fun _ _ _ h => h) (Or.inr ⟨by rfl, rfl⟩) ?_ ?_
          rotate_left
          ·exact ap
          refine pure_ (i := 23) (N := some 65) (v := undef) (a' := ?_) mk15_24 rfl rfl (any_of HT_.out (by kernel_rfl)) (fun _ _ _ h => h) (Or.inr ⟨by rfl, rfl⟩) ?_ ?_
          rotate_left
          ·exact ap
          refine pz 24 66 mk15_25 (any_of HT_.out (by kernel_rfl)) ?_
          refine done_ (done_of HT_.out (by kernel_rfl)) ?_
          try go_wp2
          go_meet
          case rel => exact ⟨_, (true), u15_10, H', ⟨by first | omega | exact Nat.le_refl _⟩, ⟨by (with_reducible repeat (first | apply Kd.R_alloc | apply Kd.R_drewN | apply Kd.R_drew)); exact Kd.R_mono HO584.out (fun _ hk => hk.1.2)⟩, ⟨by (with_reducible repeat (first | refine blk_drewN ?_ _ | refine blk_drew ?_ | refine blk_alloc ?_ _)); exact BK581.out⟩, ⟨s15_1⟩⟩
       ·rw [if_neg c26] at H
        exact absurd H (by simp)
      ·rw [if_neg c25] at H
       exact absurd H (by simp)
    ·replace c21 := Bool.eq_false_iff.mpr c21
     subst c21
     have H1 : (laws_FnRig.j0 k t582 true) = some r := by rw [if_neg (show ¬ (false = true) by decide)] at H; exact H
     clear H
     have H := H1
     clear H1
     have H' := Aside0.mk H
     clear H
     try go_wp2
     have n0_ := Aside0.mk (Kd.Q_drew HO572.out)
     have n1_ := Aside0.mk (Kd.R_drew HO584.out)
     have n2_ := Aside0.mk (Kd.R_drew HO591.out)
     have n3_ := Aside0.mk (blk_drew BK581.out)
     have n4_ := Aside0.mk (below_drew1 HB.out)
     clear HO572
     clear HO584
     clear HO591
     clear BK581
     clear HB
     have HO572 := n0_
     have HO584 := n1_
     have HO591 := n2_
     have BK581 := n3_
     have HB := n4_
     clear n0_ n1_ n2_ n3_ n4_
     refine start_ (n := 25) (S := fun w' => True) (ds := []) mk15_0 (by kernel_rfl) rfl rfl trivial (fun hHeld => ?_); refine with_tabW laws_FnRig.tab9 laws_FnRig.bits9 (fun HT_ HW_ => ?_)
     generalize w19.drew = w37 at HO572 HO584 HO591 BK581 HB hHeld ⊢
     refine pz 0 42 mk15_1 (any_of HT_.out (by kernel_rfl)) ?_
     refine one_ (i := 1) (N := some 43) mk15_2 rfl rfl (one_of HT_.out (by kernel_rfl)) (by decide) (fun K hK => ?_)
     refine goes_ Try.func25 (by kernel_rfl) rfl #[.slice Ao16 t582.length co16] (by rfl) rfl rfl u15_3 ?_
     with_reducible refine (impl_IsRig.calls k _ _ t582 false _ ?side1 ?side2 A20.out).mono ?_
     (case side1 => exact y15_1)
     (case side2 => exact (Kd.R_reads' HO584.out).2.1)
     rintro e w38 ⟨rfl, hb⟩
     refine ⟨_, rfl, ?_⟩
     have n0_ := Aside0.mk (Kd.Q_below u15_6 hb)
     have n1_ := Aside0.mk (Kd.R_below u15_7 hb)
     have n2_ := Aside0.mk (Kd.R_below u15_9 hb)
     have n3_ := Aside0.mk (blk_below (g := gb581) (o := .cells #[.string t573, .int .i64 t574, .string t575, .int .i64 t576, .int .i64 t577, .int .i64 t578, .int .i64 t579, .int .i64 t580] 30 (0, 0)) u15_4 hb)
     have n4_ := Aside0.mk (below_step u15_2 hb)
     clear HO572
     clear HO584
     clear HO591
     clear BK581
     clear HB
     have HO572 := n0_
     have HO584 := n1_
     have HO591 := n2_
     have BK581 := n3_
     have HB := n4_
     clear n0_ n1_ n2_ n3_ n4_
     (try clear hb)
     (try clear hb2)
     (try clear hk)
     (try clear hi)
     refine hK.out _ _ trivial (fun hHeld => ?_)
     clear hK K
     refine norm_ (a' := ?_) ?_ ?_
     rotate_left
     ·show Act.put _ (some 43) _ = _
      simp only [Act.put, List.setIfInBounds_toArray, List.set_cons_zero, List.set_cons_succ, i64_w, i32_w]
      rfl
     refine pz 2 44 mk15_3 (any_of HT_.out (by kernel_rfl)) ?_
     refine pz 3 45 mk15_4 (any_of HT_.out (by kernel_rfl)) ?_
     refine pure_ (i := 4) (N := some 46) (v := undef) (a' := ?_) mk15_5 rfl rfl (any_of HT_.out (by kernel_rfl)) (fun _ _ _ h => h) (Or.inr ⟨by rfl, rfl⟩) ?_ ?_
     rotate_left
     ·exact ap
     refine pure_ (i := 5) (N := some 47) (v := undef) (a' := ?_) mk15_6 rfl rfl (any_of HT_.out (by kernel_rfl)) (fun _ _ _ h => h) (Or.inr ⟨by rfl, rfl⟩) ?_ ?_
     rotate_left
     ·exact ap
     refine pz 6 48 mk15_7 (any_of HT_.out (by kernel_rfl)) ?_
     refine pz 7 49 mk15_8 (any_of HT_.out (by kernel_rfl)) ?_
     refine pure_ (i := 8) (N := some 50) (v := undef) (a' := ?_) mk15_9 rfl rfl (any_of HT_.out (by kernel_rfl)) (fun _ _ _ h => h) (Or.inr ⟨by rfl, rfl⟩) ?_ ?_
     rotate_left
     ·exact ap
     refine pure_ (i := 9) (N := some 51) (v := undef) (a' := ?_) mk15_10 rfl rfl (any_of HT_.out (by kernel_rfl)) (fun _ _ _ h => h) (Or.inr ⟨by rfl, rfl⟩) ?_ ?_
     rotate_left
     ·exact ap
     refine pure_ (i := 10) (N := some 52) (v := undef) (a' := ?_) mk15_11 rfl rfl (any_of HT_.out (by kernel_rfl)) (fun _ _ _ h => h) (Or.inr ⟨by rfl, rfl⟩) ?_ ?_
     rotate_left
     ·exact ap
     refine pure_ (i := 11) (N := some 53) (v := undef) (a' := ?_) mk15_12 rfl rfl (any_of HT_.out (by kernel_rfl)) (fun _ _ _ h => h) (Or.inr ⟨by rfl, rfl⟩) ?_ ?_
     rotate_left
     ·exact ap
     refine pure_ (i := 12) (N := some 54) (v := undef) (a' := ?_) mk15_13 rfl rfl (any_of HT_.out (by kernel_rfl)) (fun _ _ _ h => h) (Or.inr ⟨by rfl, rfl⟩) ?_ ?_
     rotate_left
     ·exact ap
     refine pure_ (i := 13) (N := some 55) (v := undef) (a' := ?_) mk15_14 rfl rfl (any_of HT_.out (by kernel_rfl)) (fun _ _ _ h => h) (Or.inr ⟨by rfl, rfl⟩) ?_ ?_
     rotate_left
     ·exact ap
     refine pz 14 56 mk15_15 (any_of HT_.out (by kernel_rfl)) ?_
     refine pz 15 57 mk15_16 (any_of HT_.out (by kernel_rfl)) ?_
     refine pure_ (i := 16) (N := some 58) (v := undef) (a' := ?_) mk15_17 rfl rfl (any_of HT_.out (by kernel_rfl)) (fun _ _ _ h => h) (Or.inr ⟨by rfl, rfl⟩) ?_ ?_
     rotate_left
     ·exact ap
     refine pure_ (i := 17) (N := some 59) (v := undef) (a' := ?_) mk15_18 rfl rfl (any_of HT_.out (by kernel_rfl)) (fun _ _ _ h => h) (Or.inr ⟨by rfl, rfl⟩) ?_ ?_
     rotate_left
     ·exact ap
     refine pz 18 60 mk15_19 (any_of HT_.out (by kernel_rfl)) ?_
     refine pz 19 61 mk15_20 (any_of HT_.out (by kernel_rfl)) ?_
     refine pure_ (i := 20) (N := some 62) (v := undef) (a' := ?_) mk15_21 rfl rfl (any_of HT_.out (by kernel_rfl)) (fun _ _ _ h => h) (Or.inr ⟨by rfl, rfl⟩) ?_ ?_
     rotate_left
     ·exact ap
     refine pure_ (i := 21) (N := some 63) (v := undef) (a' := ?_) mk15_22 rfl rfl (any_of HT_.out (by kernel_rfl)) (fun _ _ _ h => h) (Or.inr ⟨by rfl, rfl⟩) ?_ ?_
     rotate_left
     ·exact ap
     refine pure_ (i := 22) (N := some 64) (v := undef) (a' := ?_) mk15_23 rfl rfl (any_of HT_.out (by kernel_rfl)) (fun _ _ _ h => h) (Or.inr ⟨by rfl, rfl⟩) ?_ ?_
     rotate_left
     ·exact ap
     refine pure_ (i := 23) (N := some 65) (v := undef) (a' := ?_) mk15_24 rfl rfl (any_of HT_.out (by kernel_rfl)) (fun _ _ _ h => h) (Or.inr ⟨by rfl, rfl⟩) ?_ ?_
     rotate_left
     ·exact ap
     refine pz 24 66 mk15_25 (any_of HT_.out (by kernel_rfl)) ?_
     refine done_ (done_of HT_.out (by kernel_rfl)) ?_
     try go_wp2
     go_meet
     case rel => exact ⟨_, (true), u15_10, H', ⟨by first | omega | exact Nat.le_refl _⟩, ⟨by (with_reducible repeat (first | apply Kd.R_alloc | apply Kd.R_drewN | apply Kd.R_drew)); exact Kd.R_mono HO584.out (fun _ hk => hk.1.2)⟩, ⟨by (with_reducible repeat (first | refine blk_drewN ?_ _ | refine blk_drew ?_ | refine blk_alloc ?_ _)); exact BK581.out⟩, ⟨s15_1⟩⟩
   case rest =>
    clear HC9
    try clear c2
    try clear p2
    try clear c3
    try clear c5
    try clear p5
    try clear q5
    try clear hx5
    try clear c21
    try clear c25
    try clear c26
    try clear c30
    try clear hx593_0
    try clear hx593_1
    try clear hx593_2
    try clear hx593_3
    try clear hx593_4
    try clear hx593_5
    try clear hx593_6
    try clear hx593_7
    try clear p593
    try clear q593
    obtain ⟨kq, x66_8, rfl, HA, HJ8, HO_5, BK581, HB⟩ := hcut
    cases kq with
    | zero => exact absurd HA.out (by simp [laws_FnRig.j0])
    | succ kj8 =>
     have H := HA.out
     clear HA
     simp only [laws_FnRig.j0] at H
     by_cases c39 : x66_8 = true
     ·subst c39
      have H1 : (some false) = some r := by rw [if_pos rfl] at H; exact H
      clear H
      have H := H1
      clear H1
      obtain rfl := Option.some.inj H
      go_wp2
      go_ret
      exact ⟨by first | rfl | (simp [*] <;> rfl), s15_1⟩
     ·replace c39 := Bool.eq_false_iff.mpr c39
      subst c39
      have H1 : (laws_FnRig.l0 kj8 t582 0) = some r := by rw [if_neg (show ¬ (false = true) by decide)] at H; exact H
      clear H
      have H := H1
      clear H1
      have H' := Aside0.mk H
      clear H
      go_wp2
      go_loopg [10] kj8 (fun kq v10 w' => ∃ (x10_2 : Int), v10 = .int .i64 x10_2 ∧ Aside0 (laws_FnRig.l0 kq t582 x10_2 = some r) ∧ Aside0 (kq ≤ kj8) ∧ Aside0 (Kd.R k30 30 w' w.heap.size (fun k_ => k_ ≠ gb581) (.slice Ao16 t582.length co16) t582) ∧ Aside0 (w'.heap[gb581]? = some (.cells #[.string t573, .int .i64 t574, .string t575, .int .i64 t576, .int .i64 t577, .int .i64 t578, .int .i64 t579, .int .i64 t580] 30 (0, 0))) ∧ Aside0 (Below w.heap.size w w'))
      case atStart => exact ⟨(0), u15_10, H', ⟨Nat.le_refl _⟩, ⟨by (with_reducible repeat (first | apply Kd.R_alloc | apply Kd.R_drewN | apply Kd.R_drew)); exact HO_5.out⟩, ⟨by (with_reducible repeat (first | refine blk_drewN ?_ _ | refine blk_drew ?_ | refine blk_alloc ?_ _)); exact BK581.out⟩, ⟨s15_1⟩⟩
      case round =>
       clear H'
       try clear c2
       try clear p2
       try clear c3
       try clear c5
       try clear p5
       try clear q5
       try clear hx5
       try clear c21
       try clear c25
       try clear c26
       try clear c30
       try clear c39
       try clear hx593_0
       try clear hx593_1
       try clear hx593_2
       try clear hx593_3
       try clear hx593_4
       try clear hx593_5
       try clear hx593_6
       try clear hx593_7
       try clear p2
       try clear p5
       try clear p593
       try clear q5
       try clear q593
       obtain ⟨x10_2, rfl, HA, HK2, HO_5, BK581, HB⟩ := hrel
       cases gk with
       | zero => exact absurd HA.out (by simp [laws_FnRig.l0])
       | succ k2 =>
        have H := HA.out
        clear HA
        simp only [laws_FnRig.l0] at H
        by_cases c40 : x10_2 < (t582.length : Int)
        ·rw [if_pos c40] at H
         have c40b0 : decide (x10_2 < (t582.length : Int)) = true := decide_eq_true c40
         clear c40
         by_cases c41 : 0 ≤ x10_2
         ·rw [if_pos c41] at H
          have c41b0 : decide (0 ≤ x10_2) = true := decide_eq_true c41
          clear c41
          replace H := Option.bind_eq_some_iff.mp H
          obtain ⟨⟨t596, t597⟩, A420, H⟩ := H
          replace H : ((impl_OnLine.f k2 t582 ((rd_T30 t582 x10_2).f0)).bind fun t601 => (if (t597 != ((t601.length : Int) == 0)) = true then (some false) else (laws_FnRig.l0 k2 t582 (wrap64 (x10_2 + 1))))) = some r := H
          have A42 := Aside0.mk A420
          clear A420
          replace H := Option.bind_eq_some_iff.mp H
          obtain ⟨t601, A430, H⟩ := H
          replace H : (if (t597 != ((t601.length : Int) == 0)) = true then (some false) else (laws_FnRig.l0 k2 t582 (wrap64 (x10_2 + 1)))) = some r := H
          have A43 := Aside0.mk A430
          clear A430
          by_cases c44 : (t597 != ((t601.length : Int) == 0)) = true
          ·rw [if_pos c44] at H
           have c44b0 : (t597 != ((t601.length : Int) == 0)) = true := c44
           (try (have c44b1 : decide (t597 = ((t601.length : Int) == 0)) = false := by simpa using c44))
           (try (have c44b2 : (t597 == ((t601.length : Int) == 0)) = false := by simpa using c44))
           (try (have c44b3 : ¬ (t597 = ((t601.length : Int) == 0)) := by simpa using c44))
           clear c44
           obtain rfl := Option.some.inj H
           have p595 : 0 ≤ (x10_2 : Int) := of_decide_eq_true (by assumption)
           have q595 : x10_2 < (t582.length : Int) := of_decide_eq_true (by assumption)
           obtain ⟨ad595, e595, hx595_0, hx595_1, hx595_2, hx595_3, hx595_4, hx595_5, hx595_6, hx595_7⟩ := at_T30 (Kd.R_reads' HO_5.out).2.2 x10_2 p595 q595
           cases e595
           replace p595 := eq_true p595
           replace q595 := eq_true q595
           go_wp2_with (first | ((with_reducible refine gate_callee (f := 40) rfl ?_); refine goesL_ (some 80) rfl rfl Try.func40 (by kernel_rfl) rfl #[.slice (some ad595) t582.length co16, .string ((rd_T30 t582 x10_2).f0)] rfl u15_3 ?_; (with_reducible refine (impl_RemoveDevice.calls k2 _ _ t582 ((rd_T30 t582 x10_2).f0) t596 t597 _ ?side1 ?side2 A42.out).mono ?_); (case side1 => exact y15_2); (case side2 => exact (Kd.R_reads' HO_5.out).2.1); rintro e w45 ⟨v598, rfl, ho0, hb⟩; refine ⟨_, rfl, ?_⟩; have n0_ := Aside0.mk (Kd.R_elder' u15_8 (Kd.R_base ho0) hb); have n1_ := Aside0.mk (Kd.R_lower (Kd.R_newB (Kd.R_new' ho0 (Kd.R_lt u15_8)) (g := gb581) (o := .cells #[.string t573, .int .i64 t574, .string t575, .int .i64 t576, .int .i64 t577, .int .i64 t578, .int .i64 t579, .int .i64 t580] 30 (0, 0)) u15_4) (below_size u15_2)); have n2_ := Aside0.mk (blk_below (g := gb581) (o := .cells #[.string t573, .int .i64 t574, .string t575, .int .i64 t576, .int .i64 t577, .int .i64 t578, .int .i64 t579, .int .i64 t580] 30 (0, 0)) u15_4 hb); have n3_ := Aside0.mk (below_step u15_2 hb); clear HO_5; clear BK581; clear HB; have HO_5 := n0_; have HO599 := n1_; have BK581 := n2_; have HB := n3_; clear n0_ n1_ n2_ n3_; (try clear hb); (try clear hb2); (try clear hk); (try clear hi); (try clear ho0); have p600 : 0 ≤ (x10_2 : Int) := of_decide_eq_true (by assumption); have q600 : x10_2 < (t582.length : Int) := of_decide_eq_true (by assumption); obtain ⟨ad600, e600, hx600_0, hx600_1, hx600_2, hx600_3, hx600_4, hx600_5, hx600_6, hx600_7⟩ := at_T30 (Kd.R_reads' HO_5.out).2.2 x10_2 p600 q600; obtain rfl : ad595 = ad600 := (by injection e600); replace p600 := eq_true p600; replace q600 := eq_true q600) | ((with_reducible refine gate_callee (f := 32) rfl ?_); refine goesL_ (some 90) rfl rfl Try.func32 (by kernel_rfl) rfl #[.slice (some ad595) t582.length co16, .string ((rd_T30 t582 x10_2).f0)] rfl u15_3 ?_; (with_reducible refine (impl_OnLine.calls k2 _ _ t582 ((rd_T30 t582 x10_2).f0) t601 _ ?side1 ?side2 A43.out).mono ?_); (case side1 => exact y15_2); (case side2 => exact (Kd.R_reads' HO_5.out).2.1); rintro e w46 ⟨v602, rfl, ho0, hb⟩; refine ⟨_, rfl, ?_⟩; have n0_ := Aside0.mk (Kd.R_below u15_8 hb); have n1_ := Aside0.mk (Kd.R_below (by (with_reducible repeat (first | apply Kd.R_alloc | apply Kd.R_drewN | apply Kd.R_drew)); exact HO599.out) hb); have n2_ := Aside0.mk (Kd.R_lower ho0 (below_size u15_2)); have n3_ := Aside0.mk (blk_below (g := gb581) (o := .cells #[.string t573, .int .i64 t574, .string t575, .int .i64 t576, .int .i64 t577, .int .i64 t578, .int .i64 t579, .int .i64 t580] 30 (0, 0)) u15_4 hb); have n4_ := Aside0.mk (below_step u15_2 hb); clear HO_5; clear HO599; clear BK581; clear HB; have HO_5 := n0_; have HO599 := n1_; have HO603 := n2_; have BK581 := n3_; have HB := n4_; clear n0_ n1_ n2_ n3_ n4_; (try clear hb); (try clear hb2); (try clear hk); (try clear hi); (try clear ho0); obtain ⟨Ao47, co47, eo47⟩ := Kd.R_slice HO603.out; subst eo47))
           go_ret
           exact ⟨by first | rfl | (simp [*] <;> rfl), s15_1⟩
          ·rw [if_neg c44] at H
           have c44b0 : (t597 != ((t601.length : Int) == 0)) = false := by simpa using c44
           (try (have c44b1 : decide (t597 = ((t601.length : Int) == 0)) = true := by simpa using c44))
           (try (have c44b2 : (t597 == ((t601.length : Int) == 0)) = true := by simpa using c44))
           clear c44
           have H' := Aside0.mk H
           clear H
           have p595 : 0 ≤ (x10_2 : Int) := of_decide_eq_true (by assumption)
           have q595 : x10_2 < (t582.length : Int) := of_decide_eq_true (by assumption)
           obtain ⟨ad595, e595, hx595_0, hx595_1, hx595_2, hx595_3, hx595_4, hx595_5, hx595_6, hx595_7⟩ := at_T30 (Kd.R_reads' HO_5.out).2.2 x10_2 p595 q595
           cases e595
           replace p595 := eq_true p595
           replace q595 := eq_true q595
           go_wp2_with (first | ((with_reducible refine gate_callee (f := 40) rfl ?_); refine goesL_ (some 80) rfl rfl Try.func40 (by kernel_rfl) rfl #[.slice (some ad595) t582.length co16, .string ((rd_T30 t582 x10_2).f0)] rfl u15_3 ?_; (with_reducible refine (impl_RemoveDevice.calls k2 _ _ t582 ((rd_T30 t582 x10_2).f0) t596 t597 _ ?side1 ?side2 A42.out).mono ?_); (case side1 => exact y15_2); (case side2 => exact (Kd.R_reads' HO_5.out).2.1); rintro e w48 ⟨v598, rfl, ho0, hb⟩; refine ⟨_, rfl, ?_⟩; have n0_ := Aside0.mk (Kd.R_elder' u15_8 (Kd.R_base ho0) hb); have n1_ := Aside0.mk (Kd.R_lower (Kd.R_newB (Kd.R_new' ho0 (Kd.R_lt u15_8)) (g := gb581) (o := .cells #[.string t573, .int .i64 t574, .string t575, .int .i64 t576, .int .i64 t577, .int .i64 t578, .int .i64 t579, .int .i64 t580] 30 (0, 0)) u15_4) (below_size u15_2)); have n2_ := Aside0.mk (blk_below (g := gb581) (o := .cells #[.string t573, .int .i64 t574, .string t575, .int .i64 t576, .int .i64 t577, .int .i64 t578, .int .i64 t579, .int .i64 t580] 30 (0, 0)) u15_4 hb); have n3_ := Aside0.mk (below_step u15_2 hb); clear HO_5; clear BK581; clear HB; have HO_5 := n0_; have HO599 := n1_; have BK581 := n2_; have HB := n3_; clear n0_ n1_ n2_ n3_; (try clear hb); (try clear hb2); (try clear hk); (try clear hi); (try clear ho0); have p600 : 0 ≤ (x10_2 : Int) := of_decide_eq_true (by assumption); have q600 : x10_2 < (t582.length : Int) := of_decide_eq_true (by assumption); obtain ⟨ad600, e600, hx600_0, hx600_1, hx600_2, hx600_3, hx600_4, hx600_5, hx600_6, hx600_7⟩ := at_T30 (Kd.R_reads' HO_5.out).2.2 x10_2 p600 q600; obtain rfl : ad595 = ad600 := (by injection e600); replace p600 := eq_true p600; replace q600 := eq_true q600) | ((with_reducible refine gate_callee (f := 32) rfl ?_); refine goesL_ (some 90) rfl rfl Try.func32 (by kernel_rfl) rfl #[.slice (some ad595) t582.length co16, .string ((rd_T30 t582 x10_2).f0)] rfl u15_3 ?_; (with_reducible refine (impl_OnLine.calls k2 _ _ t582 ((rd_T30 t582 x10_2).f0) t601 _ ?side1 ?side2 A43.out).mono ?_); (case side1 => exact y15_2); (case side2 => exact (Kd.R_reads' HO_5.out).2.1); rintro e w49 ⟨v602, rfl, ho0, hb⟩; refine ⟨_, rfl, ?_⟩; have n0_ := Aside0.mk (Kd.R_below u15_8 hb); have n1_ := Aside0.mk (Kd.R_below (by (with_reducible repeat (first | apply Kd.R_alloc | apply Kd.R_drewN | apply Kd.R_drew)); exact HO599.out) hb); have n2_ := Aside0.mk (Kd.R_lower ho0 (below_size u15_2)); have n3_ := Aside0.mk (blk_below (g := gb581) (o := .cells #[.string t573, .int .i64 t574, .string t575, .int .i64 t576, .int .i64 t577, .int .i64 t578, .int .i64 t579, .int .i64 t580] 30 (0, 0)) u15_4 hb); have n4_ := Aside0.mk (below_step u15_2 hb); clear HO_5; clear HO599; clear BK581; clear HB; have HO_5 := n0_; have HO599 := n1_; have HO603 := n2_; have BK581 := n3_; have HB := n4_; clear n0_ n1_ n2_ n3_ n4_; (try clear hb); (try clear hb2); (try clear hk); (try clear hi); (try clear ho0); obtain ⟨Ao50, co50, eo50⟩ := Kd.R_slice HO603.out; subst eo50))
           go_roundg k2
           case measure => have := HJ8.out; have := HK2.out; omega
           case rel => exact ⟨(wrap64 (x10_2 + 1)), u15_10, H', ⟨by have := HJ8.out; have := HK2.out; omega⟩, ⟨by (with_reducible repeat (first | apply Kd.R_alloc | apply Kd.R_drewN | apply Kd.R_drew)); exact Kd.R_mono HO_5.out (fun _ hk => hk.1)⟩, ⟨by (with_reducible repeat (first | refine blk_drewN ?_ _ | refine blk_drew ?_ | refine blk_alloc ?_ _)); exact BK581.out⟩, ⟨s15_1⟩⟩
         ·rw [if_neg c41] at H
          exact absurd H (by simp)
        ·rw [if_neg c40] at H
         have c40b0 : decide (x10_2 < (t582.length : Int)) = false := decide_eq_false c40
         clear c40
         obtain rfl := Option.some.inj H
         go_wp2
         go_ret
         exact ⟨by first | rfl | (simp [*] <;> rfl), s15_1⟩
  ·replace c6 := Bool.eq_false_iff.mpr c6
   subst c6
   have H1 : ((laws_rigs.f k t570 t582).bind fun t586 => (some t586)) = some r := by rw [if_neg (show ¬ (false = true) by decide)] at H; exact H
   clear H
   have H := H1
   clear H1
   replace H := Option.bind_eq_some_iff.mp H
   obtain ⟨t586, A510, H⟩ := H
   replace H : (some t586) = some r := H
   have A51 := Aside0.mk A510
   clear A510
   obtain rfl := Option.some.inj H
   go_enter Try.func14, Try.ntmps14
   go_wp2_with (first | ((with_reducible refine gate_callee (f := 28) rfl ?_); refine goesL_ (some 14) rfl rfl Try.func28 (by kernel_rfl) rfl #[.slice A0 l0.length c0] rfl u15_3 ?_; (with_reducible refine (laws_big.calls _ _ l0 false _ ?side1 ?side2 A2.out).mono ?_); (case side1 => exact y15_3); (case side2 => exact HC0.out); rintro e w' ⟨rfl, ⟨nd, rfl⟩⟩; refine ⟨_, rfl, ?_⟩) | ((with_reducible refine gate_callee (f := 49) rfl ?_); refine goesL_ (some 17) rfl rfl Try.func49 (by kernel_rfl) rfl #[.slice A0 l0.length c0] rfl u15_3 ?_; (with_reducible refine (spec_DrawAddDevice.calls k _ _ l0 t570 t573 t574 t575 t576 t577 t578 t579 t580 _ ?side1 ?side2 A4.out).mono ?_); (case side1 => exact y15_3); (case side2 => exact HC0.out); rintro e w52 ⟨v571, rfl, ho0, hb⟩; refine ⟨_, rfl, ?_⟩; have n0_ := Aside0.mk (Kd.Q_lower ho0 (below_size u15_5)); have n1_ := Aside0.mk (below_step u15_5 hb); clear HB; have HO572 := n0_; have HB := n1_; clear n0_ n1_; (try clear hb); (try clear hb2); (try clear hk); (try clear hi); (try clear ho0)) | ((with_reducible refine gate_dst (N := 4) rfl ?_); refine box_event ?hg (N := 4) ?hd (cs := #[.string (⟨#[]⟩ : ByteArray), .int .i64 0, .string (⟨#[]⟩ : ByteArray), .int .i64 0, .int .i64 0, .int .i64 0, .int .i64 0, .int .i64 0]) (t := 30) ?hr ?_; (case hd => rfl); (case hg => rfl); (case hr => exact gq); intro gb581 hg w53 hbox hb; have n0_ := Aside0.mk (Kd.Q_below (Kd.Q_elderB u15_6 gb581 (Nat.le_of_eq hg.symm)) hb); have n1_ := Aside0.mk (below_step u15_5 hb); have n2_ := Aside0.mk (hbox); have n3_ := bsw w hg (below_size u15_5); have n4_ := bsw w hg (below_size u15_5); clear HO572; clear HB; have HO572 := n0_; have HB := n1_; have BK581 := n2_; have GW581 := n3_; have GE581 := n4_; clear n0_ n1_ n2_ n3_ n4_; clear hb hbox hg; obtain ⟨hcz54_0, hcz54_1, hcz54_2, hcz54_3, hcz54_4, hcz54_5, hcz54_6, hcz54_7, hfz54_0, hfz54_1, hfz54_2, hfz54_3, hfz54_4, hfz54_5, hfz54_6, hfz54_7⟩ := cf8 BK581.out; obtain ⟨Ao55, co55, eo55, _⟩ := Kd.Q_slice HO572.out; subst eo55) | ((with_reducible refine gate_callee (f := 48) rfl ?_); refine goesL_ (some 23) rfl rfl Try.func48 (by kernel_rfl) rfl #[.slice Ao55 t570.length co55, .agg #[.string t573, .int .i64 t574, .string t575, .int .i64 t576, .int .i64 t577, .int .i64 t578, .int .i64 t579, .int .i64 t580]] rfl u15_3 ?_; (with_reducible refine (impl_AddDevice.calls k _ _ t570 t573 t574 t575 t576 t577 t578 t579 t580 t582 false _ ?side1 ?side2 A5.out).mono ?_); (case side1 => refine (Kd.Q_reads' (e := 30) (base := w.heap.size) (ok := fun k_ => (True ∧ k_ ≠ gb581)) (n := t570.length) (c := co55) ?_).2.2; exact u15_1); (case side2 => exact (Kd.Q_reads' HO572.out).2.1); rintro e w56 ⟨v583, rfl, ho0, hb⟩; refine ⟨_, rfl, ?_⟩; have n0_ := Aside0.mk (Kd.Q_elder' u15_1 (Kd.R_base ho0) hb); have n1_ := Aside0.mk (Kd.R_lower (Kd.R_newB (Kd.R_new' ho0 (Kd.Q_lt u15_1)) (g := gb581) (o := .cells #[.string t573, .int .i64 t574, .string t575, .int .i64 t576, .int .i64 t577, .int .i64 t578, .int .i64 t579, .int .i64 t580] 30 (0, 0)) u15_0) (below_size u15_2)); have n2_ := Aside0.mk (blk_below (g := gb581) (o := .cells #[.string t573, .int .i64 t574, .string t575, .int .i64 t576, .int .i64 t577, .int .i64 t578, .int .i64 t579, .int .i64 t580] 30 (0, 0)) u15_0 hb); have n3_ := Aside0.mk (below_step u15_2 hb); clear HO572; clear BK581; clear HB; have HO572 := n0_; have HO584 := n1_; have BK581 := n2_; have HB := n3_; clear n0_ n1_ n2_ n3_; (try clear hb); (try clear hb2); (try clear hk); (try clear hi); (try clear ho0); obtain ⟨Ao57, co57, eo57⟩ := Kd.R_slice HO584.out; subst eo57) | ((with_reducible refine gate_callee (f := 50) rfl ?_); refine goesL_ (some 30) rfl rfl Try.func50 (by kernel_rfl) rfl #[.slice Ao55 t570.length co55, .slice Ao57 t582.length co57] rfl u15_3 ?_; (with_reducible refine (laws_rigs.calls k _ _ t570 _ _ t582 t586 _ ?side1 ?side2 ?side3 ?side4 A51.out).mono ?_); (case side1 => exact s15_0); (case side2 => exact (Kd.Q_reads' HO572.out).2.1); (case side3 => repeat (first | exact (Kd.R_reads' HO584.out).2.2 | (with_reducible refine Kd.C_alloc ?_ _) | (with_reducible refine Kd.C_drewN ?_ _) | (with_reducible refine Kd.C_drew ?_))); (case side4 => exact (Kd.R_reads' HO584.out).2.1); rintro e w' ⟨rfl, ⟨nd, rfl⟩⟩; refine ⟨_, rfl, ?_⟩))
   go_ret
   exact ⟨by first | rfl | (simp [*] <;> rfl), s15_1⟩

end Go.Proofs.Ytkedcokhcgklpaa.MFnRig
