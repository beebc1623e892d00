-- Written by a program for this claim.
import Derived.Test.YtkedcokhcgklpaaMFnExactShiftRigx0
import Derived.Test.YtkedcokhcgklpaaMFnExactShiftRigx2
import Derived.Test.YtkedcokhcgklpaaMFnExactShiftRigx3
import Derived.Test.YtkedcokhcgklpaaMFnExactShiftRigx4
import Derived.Test.YtkedcokhcgklpaaMFnExactShiftRigx8
import Derived.Test.YtkedcokhcgklpaaMFnExactShiftRigx12
namespace Go.Proofs.Ytkedcokhcgklpaa.MFnExactShiftRig
open Go.RowKit Go.Proofs.YtkedcokhcgklpaaW.PrintWords Go.Proofs.YtkedcokhcgklpaaW.PrintLast Go.Proofs.YtkedcokhcgklpaaW.PrintMore
attribute [local go_sem] max2_int min2_int max_two min_two max_three min_three max_four min_four   -- for this text's walks alone
set_option linter.unusedVariables false
set_option linter.unusedSimpArgs false

theorem y13_0 {p : Prop} (h : p := by repeat (first | exact (Kd.C_below HR0.out HB.out) | (with_reducible refine Kd.C_alloc ?_ _) | (with_reducible refine Kd.C_drewN ?_ _) | (with_reducible refine Kd.C_drew ?_))) : p := h
theorem y13_2 {p : Prop} (h : p := by repeat (first | exact (Kd.R_reads' HO325.out).2.2 | (with_reducible refine Kd.C_alloc ?_ _) | (with_reducible refine Kd.C_drewN ?_ _) | (with_reducible refine Kd.C_drew ?_))) : p := h
theorem y13_3 {p : Prop} (h : p := by repeat (first | exact (Kd.R_reads' HO345.out).2.2 | (with_reducible refine Kd.C_alloc ?_ _) | (with_reducible refine Kd.C_drewN ?_ _) | (with_reducible refine Kd.C_drew ?_))) : p := h
theorem y13_4 {p : Prop} (h : p := by repeat (first | exact (Kd.R_reads' HO_8.out).2.2 | (with_reducible refine Kd.C_alloc ?_ _) | (with_reducible refine Kd.C_drewN ?_ _) | (with_reducible refine Kd.C_drew ?_))) : p := h
theorem y13_5 {p : Prop} (h : p := by repeat (first | exact (Kd.R_reads' HO_9.out).2.2 | (with_reducible refine Kd.C_alloc ?_ _) | (with_reducible refine Kd.C_drewN ?_ _) | (with_reducible refine Kd.C_drew ?_))) : p := h
theorem y13_6 {p : Prop} (h : p := by repeat (first | exact (Kd.R_reads' HO316.out).2.2 | (with_reducible refine Kd.C_alloc ?_ _) | (with_reducible refine Kd.C_drewN ?_ _) | (with_reducible refine Kd.C_drew ?_))) : p := h
theorem y13_7 {p : Prop} (h : p := by repeat (first | exact (Kd.R_reads' HO330.out).2.2 | (with_reducible refine Kd.C_alloc ?_ _) | (with_reducible refine Kd.C_drewN ?_ _) | (with_reducible refine Kd.C_drew ?_))) : p := h
theorem y13_8 {p : Prop} (h : p := by repeat (first | exact (Kd.R_reads' HO_6.out).2.2 | (with_reducible refine Kd.C_alloc ?_ _) | (with_reducible refine Kd.C_drewN ?_ _) | (with_reducible refine Kd.C_drew ?_))) : p := h
abbrev mk13_0 : Array Bool := #[false, false, false, false, false, false, false, false, false, false]
abbrev mk13_1 : Array Bool := #[true, false, false, false, false, false, false, false, false, false]
abbrev mk13_2 : Array Bool := #[true, false, true, false, false, false, false, false, false, false]
abbrev mk13_3 : Array Bool := #[true, true, true, false, false, false, false, false, false, false]
abbrev mk13_4 : Array Bool := #[true, true, true, true, false, false, false, false, false, false]
abbrev mk13_5 : Array Bool := #[true, true, true, true, true, false, false, false, false, false]
abbrev mk13_6 : Array Bool := #[true, true, true, true, true, true, false, false, false, false]
abbrev mk13_7 : Array Bool := #[true, true, true, true, true, true, true, false, false, false]
abbrev mk13_8 : Array Bool := #[true, true, true, true, true, true, true, true, false, false]
abbrev mk13_9 : Array Bool := #[true, true, true, true, true, true, true, true, true, false]
abbrev mk13_10 : Array Bool := #[true, true, true, true, true, true, true, true, true, true]
theorem u13_0 {p : Prop} (h : p := by repeat (first | (with_reducible first | exact HB.out | apply below_alloc | apply pw_below_drewN | apply below_drew1 | refine below_set ?_ GE307.out) | exact HB.out)) : p := h
theorem u13_1 {p : Prop} (h : p := by (with_reducible repeat (first | refine blk_drewN ?_ _ | refine blk_drew ?_ | refine blk_alloc ?_ _)); exact BK307.out) : p := h
theorem u13_2 {p : Prop} (h : p := by (try simp only [List.map_toArray, List.map_cons, List.map_nil]); first | done | rfl) : p := h
theorem u13_3 {p : Prop} (h : p := by (with_reducible repeat (first | apply Kd.R_alloc | apply Kd.R_drewN | apply Kd.R_drew)); exact HO_9.out) : p := h
theorem u13_4 {p : Prop} (h : p := by (with_reducible repeat (first | apply Kd.R_alloc | apply Kd.R_drewN | apply Kd.R_drew)); exact HO_6.out) : p := h
theorem u13_5 {p : Prop} (h : p := by (with_reducible repeat (first | apply Kd.R_alloc | apply Kd.R_drewN | apply Kd.R_drew)); exact HO311.out) : p := h
theorem u13_6 {p : Prop} (h : p := by (with_reducible repeat (first | apply Kd.R_alloc | apply Kd.R_drewN | apply Kd.R_drew)); exact HO_8.out) : p := h
theorem u13_7 {p : Prop} (h : p := by repeat (first | (with_reducible first | exact HB.out | apply below_alloc | apply pw_below_drewN | apply below_drew1) | exact HB.out)) : p := h
theorem u13_8 {p : Prop} (h : p := by (with_reducible repeat (first | apply Kd.R_alloc | apply Kd.R_drewN | apply Kd.R_drew)); exact HO316.out) : p := h
theorem u13_9 {p : Prop} (h : p := by (try simp only [List.map_toArray, List.map_cons, List.map_nil]); first | done | (rw [show t336.length = t323.length from (Kd.R_reads' HO_9.out).1.symm] <;> rfl) | rfl | (simp only [List.length_drop, List.length_take]; rfl)) : p := h
theorem u13_10 {p : Prop} (h : p := by (with_reducible repeat (first | apply Kd.R_alloc | apply Kd.R_drewN | apply Kd.R_drew)); exact HO340.out) : p := h
theorem u13_11 {p : Prop} (h : p := by (with_reducible repeat (first | apply Kd.R_alloc | apply Kd.R_drewN | apply Kd.R_drew)); exact HO320.out) : p := h
theorem u13_12 {p : Prop} (h : p := by (with_reducible repeat (first | apply Kd.R_alloc | apply Kd.R_drewN | apply Kd.R_drew)); exact HO330.out) : p := h
theorem u13_13 {p : Prop} (h : p := by first | rfl | (simp; done) | (simp [*]; done)) : p := h
mutual
def laws_FnExactShiftRig.j0 : Nat → List (S25) → List (S30) → Bool → List (S30) → List (S30) → Bool → Bool → Int → Int → Option (Bool)
 | 0, _, _, _, _, _, _, _, _, _ => none
 | k + 1, x0, x6, x7, x8, x9, x10, x46, x308000, x308001 => if x46 = true then (some false) else ((laws_toDeviceS.f k x0).bind fun t328 => ((laws_eqDeviceS.f k x8 t328).bind fun t331 => (if t331 = true then ((laws_markDeviceS.f k x8 1).bind fun bt332 => (if bt332.1 < 0 then (laws_FnExactShiftRig.j1 k x0 x6 x7 x9 true x308000 x308001) else ((laws_eqDeviceS.f k x9 x6).bind fun t334 => (if t334 = true then (laws_FnExactShiftRig.j1 k x0 x6 x7 x9 (x10 != x7) x308000 x308001) else (laws_FnExactShiftRig.j1 k x0 x6 x7 x9 true x308000 x308001))))) else (some false))))
def laws_FnExactShiftRig.j1 : Nat → List (S25) → List (S30) → Bool → List (S30) → Bool → Int → Int → Option (Bool)
 | 0, _, _, _, _, _, _, _ => none
 | k + 1, x0, x6, x7, x9, x67, x308000, x308001 => if x67 = true then (some false) else ((laws_markDeviceS.f k x9 1).bind fun bt335 => ((laws_heldDeviceS.f k bt335.2 1).bind fun t337 => (if t337 < 0 then (some false) else (if t337 = bt335.1 then ((laws_toDeviceS.f k x0).bind fun t338 => ((laws_toPlace.f x308000 x308001).bind fun bt341 => ((impl_ShiftRig.f k t338 bt341.1 bt341.2).bind fun bt343 => ((laws_eqDeviceS.f k bt343.1 x6).bind fun t347 => (if t347 = true then (laws_FnExactShiftRig.j2 k bt335.2 bt335.1 (bt343.2 != x7)) else (laws_FnExactShiftRig.j2 k bt335.2 bt335.1 true)))))) else (some false)))))
def laws_FnExactShiftRig.j2 : Nat → List (S30) → Int → Bool → Option (Bool)
 | 0, _, _, _ => none
 | k + 1, x9, x12, x95 => if x95 = true then (some false) else ((laws_heldDeviceS.f k x9 1).bind fun t348 => (if t348 < 0 then (some false) else (if t348 = x12 then (some true) else (some false))))
end
def laws_FnExactShiftRig.f (k : Nat) (l0 : List (S25)) (a1_0 : Int) (a1_1 : Int) : Option (Bool) := (laws_szDeviceS.f k l0 1048576).bind fun t308 => (if t308 < 0 then (some true) else ((laws_toDeviceS.f k l0).bind fun t309 => ((laws_toPlace.f a1_0 a1_1).bind fun bt312 => ((spec_ShiftRig.f k t309 bt312.1 bt312.2).bind fun bt314 => ((laws_toDeviceS.f k l0).bind fun t318 => ((laws_toPlace.f a1_0 a1_1).bind fun bt321 => ((impl_ShiftRig.f k t318 bt321.1 bt321.2).bind fun bt323 => ((laws_eqDeviceS.f k bt323.1 bt314.1).bind fun t327 => (if t327 = true then (laws_FnExactShiftRig.j0 k l0 bt314.1 bt314.2 t318 bt323.1 bt323.2 (bt323.2 != bt314.2) a1_0 a1_1) else (laws_FnExactShiftRig.j0 k l0 bt314.1 bt314.2 t318 bt323.1 bt323.2 true a1_0 a1_1))))))))))
theorem laws_FnExactShiftRig.mono_l : ∀ k, (∀ y0 y1 y2 y3 y4 y5 y6 y7 y8, LeO (laws_FnExactShiftRig.j0 k y0 y1 y2 y3 y4 y5 y6 y7 y8) (laws_FnExactShiftRig.j0 (k + 1) y0 y1 y2 y3 y4 y5 y6 y7 y8)) ∧ (∀ y0 y1 y2 y3 y4 y5 y6, LeO (laws_FnExactShiftRig.j1 k y0 y1 y2 y3 y4 y5 y6) (laws_FnExactShiftRig.j1 (k + 1) y0 y1 y2 y3 y4 y5 y6)) ∧ (∀ y0 y1 y2, LeO (laws_FnExactShiftRig.j2 k y0 y1 y2) (laws_FnExactShiftRig.j2 (k + 1) y0 y1 y2))
 | 0 => ⟨fun _ _ _ _ _ _ _ _ _ r h => by simp [laws_FnExactShiftRig.j0] at h, fun _ _ _ _ _ _ _ r h => by simp [laws_FnExactShiftRig.j1] at h, fun _ _ _ r h => by simp [laws_FnExactShiftRig.j2] at h⟩
 | k + 1 => by
  obtain ⟨ih0, ih1, ih2⟩ := laws_FnExactShiftRig.mono_l k
  refine ⟨?_, ?_, ?_⟩
  ·intro y0 y1 y2 y3 y4 y5 y6 y7 y8
   unfold laws_FnExactShiftRig.j0
   repeat' first
   | (with_reducible exact ih0 _ _ _ _ _ _ _ _ _)
   | (with_reducible exact ih1 _ _ _ _ _ _ _)
   | (with_reducible exact ih2 _ _ _)
   | (with_reducible exact impl_ShiftRig.mono _ _ _ _)
   | (with_reducible exact laws_eqDeviceS.mono _ _ _)
   | (with_reducible exact laws_heldDeviceS.mono _ _ _)
   | (with_reducible exact laws_markDeviceS.mono _ _ _)
   | (with_reducible exact laws_szDeviceS.mono _ _ _)
   | (with_reducible exact laws_toDeviceS.mono _ _)
   | (with_reducible exact spec_ShiftRig.mono _ _ _ _)
   | (with_reducible exact LeO.refl _)
   | (with_reducible exact LeO.none _)
   | (with_reducible refine LeO.ite ?_ ?_)
   | (with_reducible refine LeO.bind ?_ (fun _ => ?_))
  ·intro y0 y1 y2 y3 y4 y5 y6
   unfold laws_FnExactShiftRig.j1
   repeat' first
   | (with_reducible exact ih0 _ _ _ _ _ _ _ _ _)
   | (with_reducible exact ih1 _ _ _ _ _ _ _)
   | (with_reducible exact ih2 _ _ _)
   | (with_reducible exact impl_ShiftRig.mono _ _ _ _)
   | (with_reducible exact laws_eqDeviceS.mono _ _ _)
   | (with_reducible exact laws_heldDeviceS.mono _ _ _)
   | (with_reducible exact laws_markDeviceS.mono _ _ _)
   | (with_reducible exact laws_szDeviceS.mono _ _ _)
   | (with_reducible exact laws_toDeviceS.mono _ _)
   | (with_reducible exact spec_ShiftRig.mono _ _ _ _)
   | (with_reducible exact LeO.refl _)
   | (with_reducible exact LeO.none _)
   | (with_reducible refine LeO.ite ?_ ?_)
   | (with_reducible refine LeO.bind ?_ (fun _ => ?_))
  ·intro y0 y1 y2
   unfold laws_FnExactShiftRig.j2
   repeat' first
   | (with_reducible exact ih0 _ _ _ _ _ _ _ _ _)
   | (with_reducible exact ih1 _ _ _ _ _ _ _)
   | (with_reducible exact ih2 _ _ _)
   | (with_reducible exact impl_ShiftRig.mono _ _ _ _)
   | (with_reducible exact laws_eqDeviceS.mono _ _ _)
   | (with_reducible exact laws_heldDeviceS.mono _ _ _)
   | (with_reducible exact laws_markDeviceS.mono _ _ _)
   | (with_reducible exact laws_szDeviceS.mono _ _ _)
   | (with_reducible exact laws_toDeviceS.mono _ _)
   | (with_reducible exact spec_ShiftRig.mono _ _ _ _)
   | (with_reducible exact LeO.refl _)
   | (with_reducible exact LeO.none _)
   | (with_reducible refine LeO.ite ?_ ?_)
   | (with_reducible refine LeO.bind ?_ (fun _ => ?_))
theorem laws_FnExactShiftRig.mono : ∀ a0 a1 a2 k, LeO (laws_FnExactShiftRig.f k a0 a1 a2) (laws_FnExactShiftRig.f (k + 1) a0 a1 a2) := by
 intro a0 a1 a2 k
 obtain ⟨ih0, ih1, ih2⟩ := laws_FnExactShiftRig.mono_l k
 unfold laws_FnExactShiftRig.f
 repeat' first
   | (with_reducible exact ih0 _ _ _ _ _ _ _ _ _)
   | (with_reducible exact ih1 _ _ _ _ _ _ _)
   | (with_reducible exact ih2 _ _ _)
   | (with_reducible exact impl_ShiftRig.mono _ _ _ _)
   | (with_reducible exact laws_eqDeviceS.mono _ _ _)
   | (with_reducible exact laws_heldDeviceS.mono _ _ _)
   | (with_reducible exact laws_markDeviceS.mono _ _ _)
   | (with_reducible exact laws_szDeviceS.mono _ _ _)
   | (with_reducible exact laws_toDeviceS.mono _ _)
   | (with_reducible exact spec_ShiftRig.mono _ _ _ _)
   | (with_reducible exact LeO.refl _)
   | (with_reducible exact LeO.none _)
   | (with_reducible refine LeO.ite ?_ ?_)
   | (with_reducible refine LeO.bind ?_ (fun _ => ?_))
def laws_FnExactShiftRig.T5 : Bool × List (List Nat × List Nat) := (true, [([], []), ([0], [0]), ([], []), ([2, 1], [2]), ([1, 3, 3], [1, 3]), ([4], [4]), ([5], [5]), ([5], [5]), ([6, 4, 0, 1, 2, 3, 4, 5, 6], [6]), ([7, 8, 0, 1, 2, 3, 4, 5, 6, 7, 8], [7])])
def laws_FnExactShiftRig.B5 : List Nat := [0, 1, 0, 7, 15, 31, 63, 63, 127, 511]
theorem laws_FnExactShiftRig.tab5 : rtab .any (opsOf Try.f12 5) = laws_FnExactShiftRig.T5 := by kernel_rfl
theorem laws_FnExactShiftRig.bits5 : waitsOk laws_FnExactShiftRig.T5.2 laws_FnExactShiftRig.B5 = true := by kernel_rfl
def laws_FnExactShiftRig.T24 : Bool × List (List Nat × List Nat) := (true, [([], []), ([0], [0]), ([], []), ([2, 1], [2]), ([1, 3, 3], [1, 3]), ([4], [4]), ([5], [5]), ([5], [5]), ([6, 4, 0, 1, 2, 3, 4, 5, 6], [6]), ([7, 8, 0, 1, 2, 3, 4, 5, 6, 7, 8], [7])])
def laws_FnExactShiftRig.B24 : List Nat := [0, 1, 0, 7, 15, 31, 63, 63, 127, 511]
theorem laws_FnExactShiftRig.tab24 : rtab .any (opsOf Try.f12 24) = laws_FnExactShiftRig.T24 := by kernel_rfl
theorem laws_FnExactShiftRig.bits24 : waitsOk laws_FnExactShiftRig.T24.2 laws_FnExactShiftRig.B24 = true := by kernel_rfl
set_option maxHeartbeats 8000000 in
set_option maxRecDepth 100000 in
theorem laws_FnExactShiftRig.calls (k : Nat) (A0 : Option Addr) (c0 : Nat) (l0 : List (S25)) (a1_0 : Int) (a1_1 : Int) (r : Bool) (w : World) (hr0 : Kd.C k25 w A0 l0.length l0) (hc0 : l0.length ≤ c0) (h : laws_FnExactShiftRig.f k l0 a1_0 a1_1 = some r) :
  Calls Try.prog 12 #[.slice A0 l0.length c0, .agg #[.int .i64 a1_0, .int .i64 a1_1]] w fun e w' => e = .returned (.bool r) ∧ Below w.heap.size w w' := by
 have hu23 := Try.underlying23
 have HR0 := Aside0.mk hr0
 have HC0 := Aside0.mk hc0
 clear hr0 hc0
 have HB := Aside0.mk (Below.refl w.heap.size w)
 have H : ((laws_szDeviceS.f k l0 1048576).bind fun t308 => (if t308 < 0 then (some true) else ((laws_toDeviceS.f k l0).bind fun t309 => ((laws_toPlace.f a1_0 a1_1).bind fun bt312 => ((spec_ShiftRig.f k t309 bt312.1 bt312.2).bind fun bt314 => ((laws_toDeviceS.f k l0).bind fun t318 => ((laws_toPlace.f a1_0 a1_1).bind fun bt321 => ((impl_ShiftRig.f k t318 bt321.1 bt321.2).bind fun bt323 => ((laws_eqDeviceS.f k bt323.1 bt314.1).bind fun t327 => (if t327 = true then (laws_FnExactShiftRig.j0 k l0 bt314.1 bt314.2 t318 bt323.1 bt323.2 (bt323.2 != bt314.2) a1_0 a1_1) else (laws_FnExactShiftRig.j0 k l0 bt314.1 bt314.2 t318 bt323.1 bt323.2 true a1_0 a1_1))))))))))) = some r := h
 clear h
 replace H := Option.bind_eq_some_iff.mp H
 obtain ⟨t308, A30, H⟩ := H
 replace H : (if t308 < 0 then (some true) else ((laws_toDeviceS.f k l0).bind fun t309 => ((laws_toPlace.f a1_0 a1_1).bind fun bt312 => ((spec_ShiftRig.f k t309 bt312.1 bt312.2).bind fun bt314 => ((laws_toDeviceS.f k l0).bind fun t318 => ((laws_toPlace.f a1_0 a1_1).bind fun bt321 => ((impl_ShiftRig.f k t318 bt321.1 bt321.2).bind fun bt323 => ((laws_eqDeviceS.f k bt323.1 bt314.1).bind fun t327 => (if t327 = true then (laws_FnExactShiftRig.j0 k l0 bt314.1 bt314.2 t318 bt323.1 bt323.2 (bt323.2 != bt314.2) a1_0 a1_1) else (laws_FnExactShiftRig.j0 k l0 bt314.1 bt314.2 t318 bt323.1 bt323.2 true a1_0 a1_1)))))))))) = some r := H
 have A3 := Aside0.mk A30
 clear A30
 by_cases c4 : t308 < 0
 ·rw [if_pos c4] at H
  have c4b0 : decide (t308 < 0) = true := decide_eq_true c4
  clear c4
  obtain rfl := Option.some.inj H
  go_enter Try.func12, Try.ntmps12
  go_wp2_with (first | ((with_reducible refine gate_dst (N := 3) rfl ?_); refine box_event ?hg (N := 3) ?hd (cs := #[.int .i64 a1_0, .int .i64 a1_1]) (t := 23) ?hr ?_; (case hd => rfl); (case hg => rfl); (case hr => first | (go_simp; done) | (go_simp; rfl)); intro gb307 hg w5 hbox hb; have n0_ := Aside0.mk (below_step u13_7 hb); have n1_ := Aside0.mk (hbox); have n2_ := Aside0.mk ((by rw [hg]; exact (below_size u13_7) : w.heap.size ≤ gb307)); have n3_ := Aside0.mk ((by rw [hg]; exact (below_size u13_7) : w.heap.size ≤ gb307)); clear HB; have HB := n0_; have BK307 := n1_; have GW307 := n2_; have GE307 := n3_; clear n0_ n1_ n2_ n3_; clear hb hbox hg) | ((with_reducible refine gate_callee (f := 19) rfl ?_); refine goesL_ (some 18) rfl rfl Try.func19 (by kernel_rfl) rfl #[.slice A0 l0.length c0, .int .i64 1048576] rfl u13_2 ?_; (with_reducible refine (laws_szDeviceS.calls k _ _ l0 1048576 t308 _ ?side1 ?side2 A3.out).mono ?_); (case side1 => exact y13_0); (case side2 => exact HC0.out); rintro e w6 ⟨rfl, hb⟩; refine ⟨_, rfl, ?_⟩; have n0_ := Aside0.mk (blk_below (g := gb307) (o := .cells #[.int .i64 a1_0, .int .i64 a1_1] 23 (0, 0)) u13_1 hb); have n1_ := Aside0.mk (below_step u13_0 hb); clear BK307; clear HB; have BK307 := n0_; have HB := n1_; clear n0_ n1_; (try clear hb); (try clear hb2); (try clear hk); (try clear hi)))
  go_ret
  exact ⟨by first | rfl | (simp [*] <;> rfl), by repeat (first | (with_reducible first | exact HB.out | apply below_alloc | apply pw_below_drewN | apply below_drew1 | refine below_set ?_ GE307.out) | exact HB.out)⟩
 ·rw [if_neg c4] at H
  have c4b0 : decide (t308 < 0) = false := decide_eq_false c4
  clear c4
  replace H := Option.bind_eq_some_iff.mp H
  obtain ⟨t309, A70, H⟩ := H
  replace H : ((laws_toPlace.f a1_0 a1_1).bind fun bt312 => ((spec_ShiftRig.f k t309 bt312.1 bt312.2).bind fun bt314 => ((laws_toDeviceS.f k l0).bind fun t318 => ((laws_toPlace.f a1_0 a1_1).bind fun bt321 => ((impl_ShiftRig.f k t318 bt321.1 bt321.2).bind fun bt323 => ((laws_eqDeviceS.f k bt323.1 bt314.1).bind fun t327 => (if t327 = true then (laws_FnExactShiftRig.j0 k l0 bt314.1 bt314.2 t318 bt323.1 bt323.2 (bt323.2 != bt314.2) a1_0 a1_1) else (laws_FnExactShiftRig.j0 k l0 bt314.1 bt314.2 t318 bt323.1 bt323.2 true a1_0 a1_1)))))))) = some r := H
  have A7 := Aside0.mk A70
  clear A70
  replace H := Option.bind_eq_some_iff.mp H
  obtain ⟨⟨t312, t313⟩, A80, H⟩ := H
  replace H : ((spec_ShiftRig.f k t309 t312 t313).bind fun bt314 => ((laws_toDeviceS.f k l0).bind fun t318 => ((laws_toPlace.f a1_0 a1_1).bind fun bt321 => ((impl_ShiftRig.f k t318 bt321.1 bt321.2).bind fun bt323 => ((laws_eqDeviceS.f k bt323.1 bt314.1).bind fun t327 => (if t327 = true then (laws_FnExactShiftRig.j0 k l0 bt314.1 bt314.2 t318 bt323.1 bt323.2 (bt323.2 != bt314.2) a1_0 a1_1) else (laws_FnExactShiftRig.j0 k l0 bt314.1 bt314.2 t318 bt323.1 bt323.2 true a1_0 a1_1))))))) = some r := H
  have A8 := Aside0.mk A80
  clear A80
  replace H := Option.bind_eq_some_iff.mp H
  obtain ⟨⟨t314, t317⟩, A90, H⟩ := H
  replace H : ((laws_toDeviceS.f k l0).bind fun t318 => ((laws_toPlace.f a1_0 a1_1).bind fun bt321 => ((impl_ShiftRig.f k t318 bt321.1 bt321.2).bind fun bt323 => ((laws_eqDeviceS.f k bt323.1 t314).bind fun t327 => (if t327 = true then (laws_FnExactShiftRig.j0 k l0 t314 t317 t318 bt323.1 bt323.2 (bt323.2 != t317) a1_0 a1_1) else (laws_FnExactShiftRig.j0 k l0 t314 t317 t318 bt323.1 bt323.2 true a1_0 a1_1)))))) = some r := H
  have A9 := Aside0.mk A90
  clear A90
  replace H := Option.bind_eq_some_iff.mp H
  obtain ⟨t318, A100, H⟩ := H
  replace H : ((laws_toPlace.f a1_0 a1_1).bind fun bt321 => ((impl_ShiftRig.f k t318 bt321.1 bt321.2).bind fun bt323 => ((laws_eqDeviceS.f k bt323.1 t314).bind fun t327 => (if t327 = true then (laws_FnExactShiftRig.j0 k l0 t314 t317 t318 bt323.1 bt323.2 (bt323.2 != t317) a1_0 a1_1) else (laws_FnExactShiftRig.j0 k l0 t314 t317 t318 bt323.1 bt323.2 true a1_0 a1_1))))) = some r := H
  have A10 := Aside0.mk A100
  clear A100
  replace H := Option.bind_eq_some_iff.mp H
  obtain ⟨⟨t321, t322⟩, A110, H⟩ := H
  replace H : ((impl_ShiftRig.f k t318 t321 t322).bind fun bt323 => ((laws_eqDeviceS.f k bt323.1 t314).bind fun t327 => (if t327 = true then (laws_FnExactShiftRig.j0 k l0 t314 t317 t318 bt323.1 bt323.2 (bt323.2 != t317) a1_0 a1_1) else (laws_FnExactShiftRig.j0 k l0 t314 t317 t318 bt323.1 bt323.2 true a1_0 a1_1)))) = some r := H
  have A11 := Aside0.mk A110
  clear A110
  replace H := Option.bind_eq_some_iff.mp H
  obtain ⟨⟨t323, t326⟩, A120, H⟩ := H
  replace H : ((laws_eqDeviceS.f k t323 t314).bind fun t327 => (if t327 = true then (laws_FnExactShiftRig.j0 k l0 t314 t317 t318 t323 t326 (t326 != t317) a1_0 a1_1) else (laws_FnExactShiftRig.j0 k l0 t314 t317 t318 t323 t326 true a1_0 a1_1))) = some r := H
  have A12 := Aside0.mk A120
  clear A120
  have HC13 := Aside0.mk H
  clear H
  go_enter Try.func12, Try.ntmps12
  try go_wp2_with (first | ((with_reducible refine gate_dst (N := 3) rfl ?_); refine box_event ?hg (N := 3) ?hd (cs := #[.int .i64 a1_0, .int .i64 a1_1]) (t := 23) ?hr ?_; (case hd => rfl); (case hg => rfl); (case hr => first | (go_simp; done) | (go_simp; rfl)); intro gb307 hg w14 hbox hb; have n0_ := Aside0.mk (below_step u13_7 hb); have n1_ := Aside0.mk (hbox); have n2_ := Aside0.mk ((by rw [hg]; exact (below_size u13_7) : w.heap.size ≤ gb307)); have n3_ := Aside0.mk ((by rw [hg]; exact (below_size u13_7) : w.heap.size ≤ gb307)); clear HB; have HB := n0_; have BK307 := n1_; have GW307 := n2_; have GE307 := n3_; clear n0_ n1_ n2_ n3_; clear hb hbox hg) | ((with_reducible refine gate_callee (f := 19) rfl ?_); refine goesL_ (some 18) rfl rfl Try.func19 (by kernel_rfl) rfl #[.slice A0 l0.length c0, .int .i64 1048576] rfl u13_2 ?_; (with_reducible refine (laws_szDeviceS.calls k _ _ l0 1048576 t308 _ ?side1 ?side2 A3.out).mono ?_); (case side1 => exact y13_0); (case side2 => exact HC0.out); rintro e w15 ⟨rfl, hb⟩; refine ⟨_, rfl, ?_⟩; have n0_ := Aside0.mk (blk_below (g := gb307) (o := .cells #[.int .i64 a1_0, .int .i64 a1_1] 23 (0, 0)) u13_1 hb); have n1_ := Aside0.mk (below_step u13_0 hb); clear BK307; clear HB; have BK307 := n0_; have HB := n1_; clear n0_ n1_; (try clear hb); (try clear hb2); (try clear hk); (try clear hi)))
  have n0_ := Aside0.mk (blk_drew BK307.out)
  have n1_ := Aside0.mk (below_drew1 HB.out)
  clear BK307
  clear HB
  have BK307 := n0_
  have HB := n1_
  clear n0_ n1_
  refine start_ (n := 10) (S := fun w' => w'.cell? ⟨gb307, 0, none⟩ = some (.int .i64 a1_0) ∧ w'.cell? ⟨gb307, 1, none⟩ = some (.int .i64 a1_1)) (ds := []) mk13_0 (by kernel_rfl) rfl rfl ⟨(blk_cell BK307.out 0).trans rfl, (blk_cell BK307.out 1).trans rfl⟩ (fun hHeld => ?_); refine with_tabW laws_FnExactShiftRig.tab5 laws_FnExactShiftRig.bits5 (fun HT_ HW_ => ?_)
  generalize w15.drew = w16 at BK307 HB hHeld ⊢
  refine pz 0 22 mk13_1 (any_of HT_.out (by kernel_rfl)) ?_
  refine take_ (i := 2) (N := some 24) (v := ?_) (a' := ?_) mk13_2 rfl rfl (take_ofW HT_.out HW_.out (by kernel_rfl)) (fun _ _ _ h => h) (Or.inl ⟨by rfl, ?_⟩) hHeld ?_ ?_
  rotate_left
  ·rintro w' ⟨s0, s1⟩
   exact gs
  rotate_left
  ·exact ap
  refine one_ (i := 1) (N := some 23) mk13_3 rfl rfl (one_of HT_.out (by kernel_rfl)) (by decide) (fun K hK => ?_)
  refine goes_ Try.func21 (by kernel_rfl) rfl #[.slice A0 l0.length c0] (by rfl) rfl rfl u13_2 ?_
  with_reducible refine (laws_toDeviceS.calls k _ _ l0 t309 _ ?side1 ?side2 A7.out).mono ?_
  (case side1 => exact y13_0)
  (case side2 => exact HC0.out)
  rintro e w17 ⟨v310, rfl, ho0, hb⟩
  refine ⟨_, rfl, ?_⟩
  have n0_ := Aside0.mk (Kd.R_lower ho0 (below_size u13_0))
  have n1_ := Aside0.mk (blk_below (g := gb307) (o := .cells #[.int .i64 a1_0, .int .i64 a1_1] 23 (0, 0)) u13_1 hb)
  have n2_ := Aside0.mk (below_step u13_0 hb)
  clear BK307
  clear HB
  have HO311 := n0_
  have BK307 := n1_
  have HB := n2_
  clear n0_ n1_ n2_
  (try clear hb)
  (try clear hb2)
  (try clear hk)
  (try clear hi)
  (try clear ho0)
  refine hK.out _ _ ⟨(blk_cell BK307.out 0).trans rfl, (blk_cell BK307.out 1).trans rfl⟩ (fun hHeld => ?_)
  clear hK K
  refine norm_ (a' := ?_) ?_ ?_
  rotate_left
  ·show Act.put _ (some 23) _ = _
   simp only [Act.put, List.setIfInBounds_toArray, List.set_cons_zero, List.set_cons_succ, i64_w, i32_w]
   rfl
  refine one_ (i := 3) (N := some 25) mk13_4 rfl rfl (one_of HT_.out (by kernel_rfl)) (by decide) (fun K hK => ?_)
  refine goes_ Try.func45 (by kernel_rfl) rfl #[.agg #[.int .i64 a1_0, .int .i64 a1_1]] (by rfl) rfl rfl u13_2 ?_
  with_reducible refine (laws_toPlace.calls a1_0 a1_1 t312 t313 _ A8.out).mono ?_
  rintro e w18 ⟨rfl, hb⟩
  refine ⟨_, rfl, ?_⟩
  have n0_ := Aside0.mk (Kd.R_below u13_5 hb)
  have n1_ := Aside0.mk (blk_below (g := gb307) (o := .cells #[.int .i64 a1_0, .int .i64 a1_1] 23 (0, 0)) u13_1 hb)
  have n2_ := Aside0.mk (below_step u13_0 hb)
  clear HO311
  clear BK307
  clear HB
  have HO311 := n0_
  have BK307 := n1_
  have HB := n2_
  clear n0_ n1_ n2_
  (try clear hb)
  (try clear hb2)
  (try clear hk)
  (try clear hi)
  obtain ⟨Ao19, co19, eo19⟩ := Kd.R_slice HO311.out
  (first | subst eo19 | (injection eo19 with f1_ f2_ f3_; have f4_ := f1_.symm; have f5_ := f3_.symm; clear f1_ f2_ f3_; subst f4_; subst f5_))
  refine hK.out _ _ ⟨(blk_cell BK307.out 0).trans rfl, (blk_cell BK307.out 1).trans rfl⟩ (fun hHeld => ?_)
  clear hK K
  refine norm_ (a' := ?_) ?_ ?_
  rotate_left
  ·show Act.put _ (some 25) _ = _
   simp only [Act.put, List.setIfInBounds_toArray, List.set_cons_zero, List.set_cons_succ, i64_w, i32_w]
   rfl
  refine one_ (i := 4) (N := some 26) mk13_5 rfl rfl (one_of HT_.out (by kernel_rfl)) (by decide) (fun K hK => ?_)
  refine goes_ Try.func44 (by kernel_rfl) rfl #[.slice Ao19 t309.length co19, .agg #[.int .i64 t312, .int .i64 t313]] (by rfl) rfl rfl u13_2 ?_
  with_reducible refine (spec_ShiftRig.calls k _ _ t309 t312 t313 t314 t317 _ ?side1 ?side2 A9.out).mono ?_
  (case side1 => repeat (first | exact (Kd.R_reads' HO311.out).2.2 | (with_reducible refine Kd.C_alloc ?_ _) | (with_reducible refine Kd.C_drewN ?_ _) | (with_reducible refine Kd.C_drew ?_)))
  (case side2 => exact (Kd.R_reads' HO311.out).2.1)
  rintro e w20 ⟨v315, rfl, ho0, hb⟩
  refine ⟨_, rfl, ?_⟩
  have n0_ := Aside0.mk (Kd.R_elder' u13_5 (Kd.R_base ho0) hb)
  have n1_ := Aside0.mk (Kd.R_lower (Kd.R_new' ho0 (Kd.R_lt u13_5)) (below_size u13_0))
  have n2_ := Aside0.mk (blk_below (g := gb307) (o := .cells #[.int .i64 a1_0, .int .i64 a1_1] 23 (0, 0)) u13_1 hb)
  have n3_ := Aside0.mk (below_step u13_0 hb)
  clear HO311
  clear BK307
  clear HB
  have HO311 := n0_
  have HO316 := n1_
  have BK307 := n2_
  have HB := n3_
  clear n0_ n1_ n2_ n3_
  (try clear hb)
  (try clear hb2)
  (try clear hk)
  (try clear hi)
  (try clear ho0)
  refine hK.out _ _ ⟨(blk_cell BK307.out 0).trans rfl, (blk_cell BK307.out 1).trans rfl⟩ (fun hHeld => ?_)
  clear hK K
  refine norm_ (a' := ?_) ?_ ?_
  rotate_left
  ·show Act.put _ (some 26) _ = _
   simp only [Act.put, List.setIfInBounds_toArray, List.set_cons_zero, List.set_cons_succ, i64_w, i32_w]
   rfl
  refine pz 5 21 mk13_6 (any_of HT_.out (by kernel_rfl)) ?_
  refine pz 6 27 mk13_7 (any_of HT_.out (by kernel_rfl)) ?_
  refine pz 7 28 mk13_8 (any_of HT_.out (by kernel_rfl)) ?_
  refine pz 8 6 mk13_9 (any_of HT_.out (by kernel_rfl)) ?_
  refine pz 9 7 mk13_10 (any_of HT_.out (by kernel_rfl)) ?_
  refine done_ (done_of HT_.out (by kernel_rfl)) ?_
  go_upto_region 8 with (first | ((with_reducible refine gate_callee (f := 21) rfl ?_); refine goesL_ (some 30) rfl rfl Try.func21 (by kernel_rfl) rfl #[.slice A0 l0.length c0] rfl u13_2 ?_; (with_reducible refine (laws_toDeviceS.calls k _ _ l0 t318 _ ?side1 ?side2 A10.out).mono ?_); (case side1 => exact y13_0); (case side2 => exact HC0.out); rintro e w21 ⟨v319, rfl, ho0, hb⟩; refine ⟨_, rfl, ?_⟩; have n0_ := Aside0.mk (Kd.R_elder' u13_5 (Kd.R_base ho0) hb); have n1_ := Aside0.mk (Kd.R_elder' u13_8 (Kd.R_base ho0) hb); have n2_ := Aside0.mk (Kd.R_lower (Kd.R_new' (Kd.R_new' ho0 (Kd.R_lt u13_5)) (Kd.R_lt u13_8)) (below_size u13_0)); have n3_ := Aside0.mk (blk_below (g := gb307) (o := .cells #[.int .i64 a1_0, .int .i64 a1_1] 23 (0, 0)) u13_1 hb); have n4_ := Aside0.mk (below_step u13_0 hb); clear HO311; clear HO316; clear BK307; clear HB; have HO311 := n0_; have HO316 := n1_; have HO320 := n2_; have BK307 := n3_; have HB := n4_; clear n0_ n1_ n2_ n3_ n4_; (try clear hb); (try clear hb2); (try clear hk); (try clear hi); (try clear ho0); have hcz22_0 : w21.cell? ⟨gb307, 0, none⟩ = some (.int .i64 a1_0) := (blk_cell BK307.out 0).trans rfl; have hcz22_1 : w21.cell? ⟨gb307, 1, none⟩ = some (.int .i64 a1_1) := (blk_cell BK307.out 1).trans rfl; have hfz22_0 := blk_frozen BK307.out 0; have hfz22_1 := blk_frozen BK307.out 1) | ((with_reducible refine gate_callee (f := 45) rfl ?_); refine goesL_ (some 34) rfl rfl Try.func45 (by kernel_rfl) rfl #[.agg #[.int .i64 a1_0, .int .i64 a1_1]] rfl u13_2 ?_; (with_reducible refine (laws_toPlace.calls a1_0 a1_1 t321 t322 _ A11.out).mono ?_); rintro e w23 ⟨rfl, hb⟩; refine ⟨_, rfl, ?_⟩; have n0_ := Aside0.mk (Kd.R_below u13_5 hb); have n1_ := Aside0.mk (Kd.R_below u13_8 hb); have n2_ := Aside0.mk (Kd.R_below u13_11 hb); have n3_ := Aside0.mk (blk_below (g := gb307) (o := .cells #[.int .i64 a1_0, .int .i64 a1_1] 23 (0, 0)) u13_1 hb); have n4_ := Aside0.mk (below_step u13_0 hb); clear HO311; clear HO316; clear HO320; clear BK307; clear HB; have HO311 := n0_; have HO316 := n1_; have HO320 := n2_; have BK307 := n3_; have HB := n4_; clear n0_ n1_ n2_ n3_ n4_; (try clear hb); (try clear hb2); (try clear hk); (try clear hi); obtain ⟨Ao24, co24, eo24⟩ := Kd.R_slice HO320.out; subst eo24) | ((with_reducible refine gate_callee (f := 46) rfl ?_); refine goesL_ (some 35) rfl rfl Try.func46 (by kernel_rfl) rfl #[.slice Ao24 t318.length co24, .agg #[.int .i64 t321, .int .i64 t322]] rfl u13_2 ?_; (with_reducible refine (impl_ShiftRig.calls k _ _ t318 t321 t322 t323 t326 _ ?side1 ?side2 A12.out).mono ?_); (case side1 => repeat (first | exact (Kd.R_reads' HO320.out).2.2 | (with_reducible refine Kd.C_alloc ?_ _) | (with_reducible refine Kd.C_drewN ?_ _) | (with_reducible refine Kd.C_drew ?_))); (case side2 => exact (Kd.R_reads' HO320.out).2.1); rintro e w25 ⟨v324, rfl, ho0, hb⟩; refine ⟨_, rfl, ?_⟩; have n0_ := Aside0.mk (Kd.R_elder' u13_5 (Kd.R_base ho0) hb); have n1_ := Aside0.mk (Kd.R_elder' u13_8 (Kd.R_base ho0) hb); have n2_ := Aside0.mk (Kd.R_elder' u13_11 (Kd.R_base ho0) hb); have n3_ := Aside0.mk (Kd.R_lower (Kd.R_new' (Kd.R_new' (Kd.R_new' ho0 (Kd.R_lt u13_5)) (Kd.R_lt u13_8)) (Kd.R_lt u13_11)) (below_size u13_0)); have n4_ := Aside0.mk (blk_below (g := gb307) (o := .cells #[.int .i64 a1_0, .int .i64 a1_1] 23 (0, 0)) u13_1 hb); have n5_ := Aside0.mk (below_step u13_0 hb); clear HO311; clear HO316; clear HO320; clear BK307; clear HB; have HO311 := n0_; have HO316 := n1_; have HO320 := n2_; have HO325 := n3_; have BK307 := n4_; have HB := n5_; clear n0_ n1_ n2_ n3_ n4_ n5_; (try clear hb); (try clear hb2); (try clear hk); (try clear hi); (try clear ho0)))
  (try simp only [Act.put, List.setIfInBounds_toArray, List.set_cons_zero, List.set_cons_succ])
  go_cut [46] (fun v46 wc => ∃ (kq : Nat) (x46_12 : Bool), v46 = .bool x46_12 ∧ Aside0 (laws_FnExactShiftRig.j0 kq l0 t314 t317 t318 t323 t326 x46_12 a1_0 a1_1 = some r) ∧ Aside0 (kq ≤ k) ∧ Aside0 (Kd.R k30 30 wc w.heap.size (fun k_ => some k_ ≠ ((.slice Ao24 t318.length co24) : Value).ownBlock ∧ some k_ ≠ (v324 : Value).ownBlock) v315 t314) ∧ Aside0 (Kd.R k30 30 wc w.heap.size (fun k_ => some k_ ≠ (v315 : Value).ownBlock ∧ some k_ ≠ (v324 : Value).ownBlock) (.slice Ao24 t318.length co24) t318) ∧ Aside0 (Kd.R k30 30 wc w.heap.size (fun k_ => some k_ ≠ (v315 : Value).ownBlock ∧ some k_ ≠ ((.slice Ao24 t318.length co24) : Value).ownBlock) v324 t323) ∧ Aside0 (wc.heap[gb307]? = some (.cells #[.int .i64 a1_0, .int .i64 a1_1] 23 (0, 0))) ∧ Aside0 (Below w.heap.size w wc))
  case first =>
   have H := HC13.out
   clear HC13
   replace H := Option.bind_eq_some_iff.mp H
   obtain ⟨t327, A260, H⟩ := H
   replace H : (if t327 = true then (laws_FnExactShiftRig.j0 k l0 t314 t317 t318 t323 t326 (t326 != t317) a1_0 a1_1) else (laws_FnExactShiftRig.j0 k l0 t314 t317 t318 t323 t326 true a1_0 a1_1)) = some r := H
   have A26 := Aside0.mk A260
   clear A260
   by_cases c27 : t327 = true
   ·subst c27
    have H1 : (laws_FnExactShiftRig.j0 k l0 t314 t317 t318 t323 t326 (t326 != t317) a1_0 a1_1) = some r := by rw [if_pos rfl] at H; exact H
    clear H
    have H := H1
    clear H1
    have H' := Aside0.mk H
    clear H
    obtain ⟨Ao28, co28, eo28⟩ := Kd.R_slice HO325.out
    subst eo28
    obtain ⟨Ao29, co29, eo29⟩ := Kd.R_slice HO316.out
    subst eo29
    go_wp2_with (first | ((with_reducible refine gate_callee (f := 23) rfl ?_); refine goesL_ (some 40) rfl rfl Try.func23 (by kernel_rfl) rfl #[.slice Ao28 t323.length co28, .slice Ao29 t314.length co29] rfl u13_2 ?_; (with_reducible refine (laws_eqDeviceS.calls k _ _ t323 _ _ t314 true _ ?side1 ?side2 ?side3 ?side4 A26.out).mono ?_); (case side1 => exact y13_2); (case side2 => exact (Kd.R_reads' HO325.out).2.1); (case side3 => exact y13_6); (case side4 => exact (Kd.R_reads' HO316.out).2.1); rintro e w30 ⟨rfl, hb⟩; refine ⟨_, rfl, ?_⟩; have n0_ := Aside0.mk (Kd.R_below u13_5 hb); have n1_ := Aside0.mk (Kd.R_below u13_8 hb); have n2_ := Aside0.mk (Kd.R_below u13_11 hb); have n3_ := Aside0.mk (Kd.R_below (by (with_reducible repeat (first | apply Kd.R_alloc | apply Kd.R_drewN | apply Kd.R_drew)); exact HO325.out) hb); have n4_ := Aside0.mk (blk_below (g := gb307) (o := .cells #[.int .i64 a1_0, .int .i64 a1_1] 23 (0, 0)) u13_1 hb); have n5_ := Aside0.mk (below_step u13_0 hb); clear HO311; clear HO316; clear HO320; clear HO325; clear BK307; clear HB; have HO311 := n0_; have HO316 := n1_; have HO320 := n2_; have HO325 := n3_; have BK307 := n4_; have HB := n5_; clear n0_ n1_ n2_ n3_ n4_ n5_; (try clear hb); (try clear hb2); (try clear hk); (try clear hi)))
    go_meet
    case rel => exact ⟨_, ((t326 != t317)), u13_13, H', ⟨by first | omega | exact Nat.le_refl _⟩, ⟨by (with_reducible repeat (first | apply Kd.R_alloc | apply Kd.R_drewN | apply Kd.R_drew)); exact Kd.R_mono HO316.out (fun _ hk => ⟨hk.1.2, hk.2⟩)⟩, ⟨by (with_reducible repeat (first | apply Kd.R_alloc | apply Kd.R_drewN | apply Kd.R_drew)); exact Kd.R_mono HO320.out (fun _ hk => ⟨hk.1.2, hk.2⟩)⟩, ⟨by (with_reducible repeat (first | apply Kd.R_alloc | apply Kd.R_drewN | apply Kd.R_drew)); exact Kd.R_mono HO325.out (fun _ hk => ⟨hk.1.2, hk.2⟩)⟩, ⟨by (with_reducible repeat (first | refine blk_drewN ?_ _ | refine blk_drew ?_ | refine blk_alloc ?_ _)); exact BK307.out⟩, ⟨by repeat (first | (with_reducible first | exact HB.out | apply below_alloc | apply pw_below_drewN | apply below_drew1 | refine below_set ?_ GE307.out) | exact HB.out)⟩⟩
   ·replace c27 := Bool.eq_false_iff.mpr c27
    subst c27
    have H1 : (laws_FnExactShiftRig.j0 k l0 t314 t317 t318 t323 t326 true a1_0 a1_1) = some r := by rw [if_neg (show ¬ (false = true) by decide)] at H; exact H
    clear H
    have H := H1
    clear H1
    have H' := Aside0.mk H
    clear H
    obtain ⟨Ao31, co31, eo31⟩ := Kd.R_slice HO325.out
    subst eo31
    obtain ⟨Ao32, co32, eo32⟩ := Kd.R_slice HO316.out
    subst eo32
    go_wp2_with (first | ((with_reducible refine gate_callee (f := 23) rfl ?_); refine goesL_ (some 40) rfl rfl Try.func23 (by kernel_rfl) rfl #[.slice Ao31 t323.length co31, .slice Ao32 t314.length co32] rfl u13_2 ?_; (with_reducible refine (laws_eqDeviceS.calls k _ _ t323 _ _ t314 false _ ?side1 ?side2 ?side3 ?side4 A26.out).mono ?_); (case side1 => exact y13_2); (case side2 => exact (Kd.R_reads' HO325.out).2.1); (case side3 => exact y13_6); (case side4 => exact (Kd.R_reads' HO316.out).2.1); rintro e w33 ⟨rfl, hb⟩; refine ⟨_, rfl, ?_⟩; have n0_ := Aside0.mk (Kd.R_below u13_5 hb); have n1_ := Aside0.mk (Kd.R_below u13_8 hb); have n2_ := Aside0.mk (Kd.R_below u13_11 hb); have n3_ := Aside0.mk (Kd.R_below (by (with_reducible repeat (first | apply Kd.R_alloc | apply Kd.R_drewN | apply Kd.R_drew)); exact HO325.out) hb); have n4_ := Aside0.mk (blk_below (g := gb307) (o := .cells #[.int .i64 a1_0, .int .i64 a1_1] 23 (0, 0)) u13_1 hb); have n5_ := Aside0.mk (below_step u13_0 hb); clear HO311; clear HO316; clear HO320; clear HO325; clear BK307; clear HB; have HO311 := n0_; have HO316 := n1_; have HO320 := n2_; have HO325 := n3_; have BK307 := n4_; have HB := n5_; clear n0_ n1_ n2_ n3_ n4_ n5_; (try clear hb); (try clear hb2); (try clear hk); (try clear hi)))
    go_meet
    case rel => exact ⟨_, (true), u13_13, H', ⟨by first | omega | exact Nat.le_refl _⟩, ⟨by (with_reducible repeat (first | apply Kd.R_alloc | apply Kd.R_drewN | apply Kd.R_drew)); exact Kd.R_mono HO316.out (fun _ hk => ⟨hk.1.2, hk.2⟩)⟩, ⟨by (with_reducible repeat (first | apply Kd.R_alloc | apply Kd.R_drewN | apply Kd.R_drew)); exact Kd.R_mono HO320.out (fun _ hk => ⟨hk.1.2, hk.2⟩)⟩, ⟨by (with_reducible repeat (first | apply Kd.R_alloc | apply Kd.R_drewN | apply Kd.R_drew)); exact Kd.R_mono HO325.out (fun _ hk => ⟨hk.1.2, hk.2⟩)⟩, ⟨by (with_reducible repeat (first | refine blk_drewN ?_ _ | refine blk_drew ?_ | refine blk_alloc ?_ _)); exact BK307.out⟩, ⟨by repeat (first | (with_reducible first | exact HB.out | apply below_alloc | apply pw_below_drewN | apply below_drew1 | refine below_set ?_ GE307.out) | exact HB.out)⟩⟩
  case rest =>
   clear HC13
   try clear c1
   try clear c2
   try clear p2
   try clear c4
   try clear c4b0
   try clear c12
   try clear c19
   try clear c21
   try clear c23
   try clear c27
   try clear hcz22_0
   try clear hcz22_1
   try clear hfz22_0
   try clear hfz22_1
   obtain ⟨kq, x46_12, rfl, HA, HJ12, HO_6, HO_8, HO_9, BK307, HB⟩ := hcut
   cases kq with
   | zero => exact absurd HA.out (by simp [laws_FnExactShiftRig.j0])
   | succ kj12 =>
    have H := HA.out
    clear HA
    simp only [laws_FnExactShiftRig.j0] at H
    by_cases c34 : x46_12 = true
    ·subst c34
     have H1 : (some false) = some r := by rw [if_pos rfl] at H; exact H
     clear H
     have H := H1
     clear H1
     obtain rfl := Option.some.inj H
     go_wp2
     go_ret
     exact ⟨by first | rfl | (simp [*] <;> rfl), by repeat (first | (with_reducible first | exact HB.out | apply below_alloc | apply pw_below_drewN | apply below_drew1 | refine below_set ?_ GE307.out) | exact HB.out)⟩
    ·replace c34 := Bool.eq_false_iff.mpr c34
     subst c34
     have H1 : ((laws_toDeviceS.f kj12 l0).bind fun t328 => ((laws_eqDeviceS.f kj12 t318 t328).bind fun t331 => (if t331 = true then ((laws_markDeviceS.f kj12 t318 1).bind fun bt332 => (if bt332.1 < 0 then (laws_FnExactShiftRig.j1 kj12 l0 t314 t317 t323 true a1_0 a1_1) else ((laws_eqDeviceS.f kj12 t323 t314).bind fun t334 => (if t334 = true then (laws_FnExactShiftRig.j1 kj12 l0 t314 t317 t323 (t326 != t317) a1_0 a1_1) else (laws_FnExactShiftRig.j1 kj12 l0 t314 t317 t323 true a1_0 a1_1))))) else (some false)))) = some r := by rw [if_neg (show ¬ (false = true) by decide)] at H; exact H
     clear H
     have H := H1
     clear H1
     replace H := Option.bind_eq_some_iff.mp H
     obtain ⟨t328, A350, H⟩ := H
     replace H : ((laws_eqDeviceS.f kj12 t318 t328).bind fun t331 => (if t331 = true then ((laws_markDeviceS.f kj12 t318 1).bind fun bt332 => (if bt332.1 < 0 then (laws_FnExactShiftRig.j1 kj12 l0 t314 t317 t323 true a1_0 a1_1) else ((laws_eqDeviceS.f kj12 t323 t314).bind fun t334 => (if t334 = true then (laws_FnExactShiftRig.j1 kj12 l0 t314 t317 t323 (t326 != t317) a1_0 a1_1) else (laws_FnExactShiftRig.j1 kj12 l0 t314 t317 t323 true a1_0 a1_1))))) else (some false))) = some r := H
     have A35 := Aside0.mk A350
     clear A350
     replace H := Option.bind_eq_some_iff.mp H
     obtain ⟨t331, A360, H⟩ := H
     replace H : (if t331 = true then ((laws_markDeviceS.f kj12 t318 1).bind fun bt332 => (if bt332.1 < 0 then (laws_FnExactShiftRig.j1 kj12 l0 t314 t317 t323 true a1_0 a1_1) else ((laws_eqDeviceS.f kj12 t323 t314).bind fun t334 => (if t334 = true then (laws_FnExactShiftRig.j1 kj12 l0 t314 t317 t323 (t326 != t317) a1_0 a1_1) else (laws_FnExactShiftRig.j1 kj12 l0 t314 t317 t323 true a1_0 a1_1))))) else (some false)) = some r := H
     have A36 := Aside0.mk A360
     clear A360
     by_cases c37 : t331 = true
     ·subst c37
      have H1 : ((laws_markDeviceS.f kj12 t318 1).bind fun bt332 => (if bt332.1 < 0 then (laws_FnExactShiftRig.j1 kj12 l0 t314 t317 t323 true a1_0 a1_1) else ((laws_eqDeviceS.f kj12 t323 t314).bind fun t334 => (if t334 = true then (laws_FnExactShiftRig.j1 kj12 l0 t314 t317 t323 (t326 != t317) a1_0 a1_1) else (laws_FnExactShiftRig.j1 kj12 l0 t314 t317 t323 true a1_0 a1_1))))) = some r := by rw [if_pos rfl] at H; exact H
      clear H
      have H := H1
      clear H1
      replace H := Option.bind_eq_some_iff.mp H
      obtain ⟨⟨t332, t333⟩, A380, H⟩ := H
      replace H : (if t332 < 0 then (laws_FnExactShiftRig.j1 kj12 l0 t314 t317 t323 true a1_0 a1_1) else ((laws_eqDeviceS.f kj12 t323 t314).bind fun t334 => (if t334 = true then (laws_FnExactShiftRig.j1 kj12 l0 t314 t317 t323 (t326 != t317) a1_0 a1_1) else (laws_FnExactShiftRig.j1 kj12 l0 t314 t317 t323 true a1_0 a1_1)))) = some r := H
      have A38 := Aside0.mk A380
      clear A380
      have HC39 := Aside0.mk H
      clear H
      go_upto_region 14 with (first | ((with_reducible refine gate_callee (f := 21) rfl ?_); refine goesL_ (some 49) rfl rfl Try.func21 (by kernel_rfl) rfl #[.slice A0 l0.length c0] rfl u13_2 ?_; (with_reducible refine (laws_toDeviceS.calls kj12 _ _ l0 t328 _ ?side1 ?side2 A35.out).mono ?_); (case side1 => exact y13_0); (case side2 => exact HC0.out); rintro e w40 ⟨v329, rfl, ho0, hb⟩; refine ⟨_, rfl, ?_⟩; have n0_ := Aside0.mk (Kd.R_elder' u13_4 (Kd.R_base ho0) hb); have n1_ := Aside0.mk (Kd.R_elder' u13_6 (Kd.R_base ho0) hb); have n2_ := Aside0.mk (Kd.R_elder' u13_3 (Kd.R_base ho0) hb); have n3_ := Aside0.mk (Kd.R_lower (Kd.R_new' (Kd.R_new' (Kd.R_new' ho0 (Kd.R_lt u13_4)) (Kd.R_lt u13_6)) (Kd.R_lt u13_3)) (below_size u13_0)); have n4_ := Aside0.mk (blk_below (g := gb307) (o := .cells #[.int .i64 a1_0, .int .i64 a1_1] 23 (0, 0)) u13_1 hb); have n5_ := Aside0.mk (below_step u13_0 hb); clear HO_6; clear HO_8; clear HO_9; clear BK307; clear HB; have HO_6 := n0_; have HO_8 := n1_; have HO_9 := n2_; have HO330 := n3_; have BK307 := n4_; have HB := n5_; clear n0_ n1_ n2_ n3_ n4_ n5_; (try clear hb); (try clear hb2); (try clear hk); (try clear hi); (try clear ho0); obtain ⟨Ao41, co41, eo41⟩ := Kd.R_slice HO330.out; subst eo41) | ((with_reducible refine gate_callee (f := 23) rfl ?_); refine goesL_ (some 50) rfl rfl Try.func23 (by kernel_rfl) rfl #[.slice Ao24 t318.length co24, .slice Ao41 t328.length co41] rfl u13_2 ?_; (with_reducible refine (laws_eqDeviceS.calls kj12 _ _ t318 _ _ t328 true _ ?side1 ?side2 ?side3 ?side4 A36.out).mono ?_); (case side1 => exact y13_4); (case side2 => exact (Kd.R_reads' HO_8.out).2.1); (case side3 => exact y13_7); (case side4 => exact (Kd.R_reads' HO330.out).2.1); rintro e w42 ⟨rfl, hb⟩; refine ⟨_, rfl, ?_⟩; have n0_ := Aside0.mk (Kd.R_below u13_4 hb); have n1_ := Aside0.mk (Kd.R_below u13_6 hb); have n2_ := Aside0.mk (Kd.R_below u13_3 hb); have n3_ := Aside0.mk (Kd.R_below u13_12 hb); have n4_ := Aside0.mk (blk_below (g := gb307) (o := .cells #[.int .i64 a1_0, .int .i64 a1_1] 23 (0, 0)) u13_1 hb); have n5_ := Aside0.mk (below_step u13_0 hb); clear HO_6; clear HO_8; clear HO_9; clear HO330; clear BK307; clear HB; have HO_6 := n0_; have HO_8 := n1_; have HO_9 := n2_; have HO330 := n3_; have BK307 := n4_; have HB := n5_; clear n0_ n1_ n2_ n3_ n4_ n5_; (try clear hb); (try clear hb2); (try clear hk); (try clear hi)) | ((with_reducible refine gate_callee (f := 36) rfl ?_); refine goesL_ (some 54) rfl rfl Try.func36 (by kernel_rfl) rfl #[.slice Ao24 t318.length co24, .int .i64 1] rfl u13_2 ?_; (with_reducible refine (laws_markDeviceS.calls kj12 (fun k_ => some k_ = (.slice Ao24 t318.length co24 : Value).ownBlock) (.slice Ao24 t318.length co24) t318 1 t332 t333 w _ ?side1 ?side2 A38.out).mono ?_); (case side1 => repeat (first | (with_reducible first | exact HB.out | apply below_alloc | apply pw_below_drewN | apply below_drew1 | refine below_set ?_ GE307.out) | exact HB.out)); (case side2 => exact Kd.R_tight rfl HO_8.out); rintro e w43 ⟨rfl, hy0, hb, hkp⟩; refine ⟨_, rfl, ?_⟩; have n0_ := Aside0.mk (Kd.R_mono (ok' := fun k_ => some k_ ≠ (.slice Ao24 t318.length co24 : Value).ownBlock ∧ some k_ ≠ (v324 : Value).ownBlock ∧ some k_ ≠ (.slice Ao41 t328.length co41 : Value).ownBlock) (Kd.R_keptB (HO_6.out) hkp (fun k_ hk_ hs_ => (hk_.1.1) hs_)) (fun k_ hk_ => ⟨hk_.1.1.1, hk_.1.1.2, hk_.1.2⟩)); have n1_ := Aside0.mk (Kd.R_reok rfl hy0 (fun k_ e_ => HO_8.out.1 k_ e_)); have n2_ := Aside0.mk (Kd.R_mono (ok' := fun k_ => some k_ ≠ (v315 : Value).ownBlock ∧ some k_ ≠ (.slice Ao24 t318.length co24 : Value).ownBlock ∧ some k_ ≠ (.slice Ao41 t328.length co41 : Value).ownBlock) (Kd.R_keptB (HO_9.out) hkp (fun k_ hk_ hs_ => (hk_.1.2) hs_)) (fun k_ hk_ => ⟨hk_.1.1.1, hk_.1.1.2, hk_.1.2⟩)); have n3_ := Aside0.mk (blk_kept u13_1 hkp (fun hs_ => (fun e_ => (Kd.R_ne HO_8.out BK307.out (by decide)) e_) hs_)); have n4_ := Aside0.mk (Kd.R_mono (ok' := fun k_ => some k_ ≠ (v315 : Value).ownBlock ∧ some k_ ≠ (.slice Ao24 t318.length co24 : Value).ownBlock ∧ some k_ ≠ (v324 : Value).ownBlock) (Kd.R_keptB (HO330.out) hkp (fun k_ hk_ hs_ => (hk_.1.2) hs_)) (fun k_ hk_ => ⟨hk_.1.1.1.2, hk_.1.1.2, hk_.1.2⟩)); have n5_ := Aside0.mk (hb); clear HO_6; clear HO_8; clear HO_9; clear BK307; clear HO330; clear HB; have HO_6 := n0_; have HO_8 := n1_; have HO_9 := n2_; have BK307 := n3_; have HO330 := n4_; have HB := n5_; clear n0_ n1_ n2_ n3_ n4_ n5_; (try clear hb); (try clear hkp); (try clear hy0)))
      (try simp only [Act.put, List.setIfInBounds_toArray, List.set_cons_zero, List.set_cons_succ])
      go_cut [67] (fun v67 wc => ∃ (kq : Nat) (x67_38 : Bool), v67 = .bool x67_38 ∧ Aside0 (laws_FnExactShiftRig.j1 kq l0 t314 t317 t323 x67_38 a1_0 a1_1 = some r) ∧ Aside0 (kq ≤ kj12) ∧ Aside0 (Kd.R k30 30 wc w.heap.size (fun k_ => some k_ ≠ (v324 : Value).ownBlock) v315 t314) ∧ Aside0 (Kd.R k30 30 wc w.heap.size (fun k_ => some k_ ≠ (v315 : Value).ownBlock) v324 t323) ∧ Aside0 (wc.heap[gb307]? = some (.cells #[.int .i64 a1_0, .int .i64 a1_1] 23 (0, 0))) ∧ Aside0 (Below w.heap.size w wc))
      case first =>
       have H := HC39.out
       clear HC39
       by_cases c44 : t332 < 0
       ·rw [if_pos c44] at H
        have c44b0 : decide (t332 < 0) = true := decide_eq_true c44
        clear c44
        (first | rw [c44b0] | (simp only [i64_w, i32_w]; rw [c44b0]) | skip)
        have H' := Aside0.mk H
        clear H
        go_wp2
        go_meet
        case rel => exact ⟨_, (true), u13_13, H', ⟨by have := HJ12.out; first | omega | exact Nat.le_refl _⟩, ⟨by (with_reducible repeat (first | apply Kd.R_alloc | apply Kd.R_drewN | apply Kd.R_drew)); exact Kd.R_mono HO_6.out (fun _ hk => hk.2.1)⟩, ⟨by (with_reducible repeat (first | apply Kd.R_alloc | apply Kd.R_drewN | apply Kd.R_drew)); exact Kd.R_mono HO_9.out (fun _ hk => hk.1)⟩, ⟨by (with_reducible repeat (first | refine blk_drewN ?_ _ | refine blk_drew ?_ | refine blk_alloc ?_ _)); exact BK307.out⟩, ⟨by repeat (first | (with_reducible first | exact HB.out | apply below_alloc | apply pw_below_drewN | apply below_drew1 | refine below_set ?_ GE307.out) | exact HB.out)⟩⟩
       ·rw [if_neg c44] at H
        have c44b0 : decide (t332 < 0) = false := decide_eq_false c44
        clear c44
        (first | rw [c44b0] | (simp only [i64_w, i32_w]; rw [c44b0]) | skip)
        replace H := Option.bind_eq_some_iff.mp H
        obtain ⟨t334, A450, H⟩ := H
        replace H : (if t334 = true then (laws_FnExactShiftRig.j1 kj12 l0 t314 t317 t323 (t326 != t317) a1_0 a1_1) else (laws_FnExactShiftRig.j1 kj12 l0 t314 t317 t323 true a1_0 a1_1)) = some r := H
        have A45 := Aside0.mk A450
        clear A450
        by_cases c46 : t334 = true
        ·subst c46
         have H1 : (laws_FnExactShiftRig.j1 kj12 l0 t314 t317 t323 (t326 != t317) a1_0 a1_1) = some r := by rw [if_pos rfl] at H; exact H
         clear H
         have H := H1
         clear H1
         have H' := Aside0.mk H
         clear H
         obtain ⟨Ao47, co47, eo47⟩ := Kd.R_slice HO_9.out
         subst eo47
         obtain ⟨Ao48, co48, eo48⟩ := Kd.R_slice HO_6.out
         subst eo48
         go_wp2_with (first | (go_at_call 23; (with_reducible refine (laws_eqDeviceS.calls kj12 _ _ t323 _ _ t314 true _ ?side1 ?side2 ?side3 ?side4 A45.out).mono ?_); (case side1 => exact y13_5); (case side2 => exact (Kd.R_reads' HO_9.out).2.1); (case side3 => exact y13_8); (case side4 => exact (Kd.R_reads' HO_6.out).2.1); rintro e w49 ⟨rfl, hb⟩; have n0_ := Aside0.mk (Kd.R_below u13_4 hb); have n1_ := Aside0.mk (Kd.R_below u13_6 hb); have n2_ := Aside0.mk (Kd.R_below u13_3 hb); have n3_ := Aside0.mk (Kd.R_below u13_12 hb); have n4_ := Aside0.mk (blk_below (g := gb307) (o := .cells #[.int .i64 a1_0, .int .i64 a1_1] 23 (0, 0)) u13_1 hb); have n5_ := Aside0.mk (below_step u13_0 hb); clear HO_6; clear HO_8; clear HO_9; clear HO330; clear BK307; clear HB; have HO_6 := n0_; have HO_8 := n1_; have HO_9 := n2_; have HO330 := n3_; have BK307 := n4_; have HB := n5_; clear n0_ n1_ n2_ n3_ n4_ n5_; (try clear hb); (try clear hb2); (try clear hk); (try clear hi)))
         go_meet
         case rel => exact ⟨_, ((t326 != t317)), u13_13, H', ⟨by have := HJ12.out; first | omega | exact Nat.le_refl _⟩, ⟨by (with_reducible repeat (first | apply Kd.R_alloc | apply Kd.R_drewN | apply Kd.R_drew)); exact Kd.R_mono HO_6.out (fun _ hk => hk.2.1)⟩, ⟨by (with_reducible repeat (first | apply Kd.R_alloc | apply Kd.R_drewN | apply Kd.R_drew)); exact Kd.R_mono HO_9.out (fun _ hk => hk.1)⟩, ⟨by (with_reducible repeat (first | refine blk_drewN ?_ _ | refine blk_drew ?_ | refine blk_alloc ?_ _)); exact BK307.out⟩, ⟨by repeat (first | (with_reducible first | exact HB.out | apply below_alloc | apply pw_below_drewN | apply below_drew1 | refine below_set ?_ GE307.out) | exact HB.out)⟩⟩
        ·replace c46 := Bool.eq_false_iff.mpr c46
         subst c46
         have H1 : (laws_FnExactShiftRig.j1 kj12 l0 t314 t317 t323 true a1_0 a1_1) = some r := by rw [if_neg (show ¬ (false = true) by decide)] at H; exact H
         clear H
         have H := H1
         clear H1
         have H' := Aside0.mk H
         clear H
         obtain ⟨Ao50, co50, eo50⟩ := Kd.R_slice HO_9.out
         subst eo50
         obtain ⟨Ao51, co51, eo51⟩ := Kd.R_slice HO_6.out
         subst eo51
         go_wp2_with (first | (go_at_call 23; (with_reducible refine (laws_eqDeviceS.calls kj12 _ _ t323 _ _ t314 false _ ?side1 ?side2 ?side3 ?side4 A45.out).mono ?_); (case side1 => exact y13_5); (case side2 => exact (Kd.R_reads' HO_9.out).2.1); (case side3 => exact y13_8); (case side4 => exact (Kd.R_reads' HO_6.out).2.1); rintro e w52 ⟨rfl, hb⟩; have n0_ := Aside0.mk (Kd.R_below u13_4 hb); have n1_ := Aside0.mk (Kd.R_below u13_6 hb); have n2_ := Aside0.mk (Kd.R_below u13_3 hb); have n3_ := Aside0.mk (Kd.R_below u13_12 hb); have n4_ := Aside0.mk (blk_below (g := gb307) (o := .cells #[.int .i64 a1_0, .int .i64 a1_1] 23 (0, 0)) u13_1 hb); have n5_ := Aside0.mk (below_step u13_0 hb); clear HO_6; clear HO_8; clear HO_9; clear HO330; clear BK307; clear HB; have HO_6 := n0_; have HO_8 := n1_; have HO_9 := n2_; have HO330 := n3_; have BK307 := n4_; have HB := n5_; clear n0_ n1_ n2_ n3_ n4_ n5_; (try clear hb); (try clear hb2); (try clear hk); (try clear hi)))
         go_meet
         case rel => exact ⟨_, (true), u13_13, H', ⟨by have := HJ12.out; first | omega | exact Nat.le_refl _⟩, ⟨by (with_reducible repeat (first | apply Kd.R_alloc | apply Kd.R_drewN | apply Kd.R_drew)); exact Kd.R_mono HO_6.out (fun _ hk => hk.2.1)⟩, ⟨by (with_reducible repeat (first | apply Kd.R_alloc | apply Kd.R_drewN | apply Kd.R_drew)); exact Kd.R_mono HO_9.out (fun _ hk => hk.1)⟩, ⟨by (with_reducible repeat (first | refine blk_drewN ?_ _ | refine blk_drew ?_ | refine blk_alloc ?_ _)); exact BK307.out⟩, ⟨by repeat (first | (with_reducible first | exact HB.out | apply below_alloc | apply pw_below_drewN | apply below_drew1 | refine below_set ?_ GE307.out) | exact HB.out)⟩⟩
      case rest =>
       clear HC39
       try clear c1
       try clear c2
       try clear p2
       try clear c3
       try clear c4
       try clear c4b0
       try clear c12
       try clear c19
       try clear c21
       try clear c23
       try clear c27
       try clear c34
       try clear c36
       try clear c37
       try clear c44
       try clear c44b0
       try clear c45
       try clear c46
       try clear hcz22_0
       try clear hcz22_1
       try clear hfz22_0
       try clear hfz22_1
       try clear p2
       obtain ⟨kq, x67_38, rfl, HA, HJ38, HO_6, HO_9, BK307, HB⟩ := hcut
       cases kq with
       | zero => exact absurd HA.out (by simp [laws_FnExactShiftRig.j1])
       | succ kj38 =>
        have H := HA.out
        clear HA
        simp only [laws_FnExactShiftRig.j1] at H
        by_cases c53 : x67_38 = true
        ·subst c53
         have H1 : (some false) = some r := by rw [if_pos rfl] at H; exact H
         clear H
         have H := H1
         clear H1
         obtain rfl := Option.some.inj H
         go_wp2
         go_ret
         exact ⟨by first | rfl | (simp [*] <;> rfl), by repeat (first | (with_reducible first | exact HB.out | apply below_alloc | apply pw_below_drewN | apply below_drew1 | refine below_set ?_ GE307.out) | exact HB.out)⟩
        ·replace c53 := Bool.eq_false_iff.mpr c53
         subst c53
         have H1 : ((laws_markDeviceS.f kj38 t323 1).bind fun bt335 => ((laws_heldDeviceS.f kj38 bt335.2 1).bind fun t337 => (if t337 < 0 then (some false) else (if t337 = bt335.1 then ((laws_toDeviceS.f kj38 l0).bind fun t338 => ((laws_toPlace.f a1_0 a1_1).bind fun bt341 => ((impl_ShiftRig.f kj38 t338 bt341.1 bt341.2).bind fun bt343 => ((laws_eqDeviceS.f kj38 bt343.1 t314).bind fun t347 => (if t347 = true then (laws_FnExactShiftRig.j2 kj38 bt335.2 bt335.1 (bt343.2 != t317)) else (laws_FnExactShiftRig.j2 kj38 bt335.2 bt335.1 true)))))) else (some false))))) = some r := by rw [if_neg (show ¬ (false = true) by decide)] at H; exact H
         clear H
         have H := H1
         clear H1
         replace H := Option.bind_eq_some_iff.mp H
         obtain ⟨⟨t335, t336⟩, A540, H⟩ := H
         replace H : ((laws_heldDeviceS.f kj38 t336 1).bind fun t337 => (if t337 < 0 then (some false) else (if t337 = t335 then ((laws_toDeviceS.f kj38 l0).bind fun t338 => ((laws_toPlace.f a1_0 a1_1).bind fun bt341 => ((impl_ShiftRig.f kj38 t338 bt341.1 bt341.2).bind fun bt343 => ((laws_eqDeviceS.f kj38 bt343.1 t314).bind fun t347 => (if t347 = true then (laws_FnExactShiftRig.j2 kj38 t336 t335 (bt343.2 != t317)) else (laws_FnExactShiftRig.j2 kj38 t336 t335 true)))))) else (some false)))) = some r := H
         have A54 := Aside0.mk A540
         clear A540
         replace H := Option.bind_eq_some_iff.mp H
         obtain ⟨t337, A550, H⟩ := H
         replace H : (if t337 < 0 then (some false) else (if t337 = t335 then ((laws_toDeviceS.f kj38 l0).bind fun t338 => ((laws_toPlace.f a1_0 a1_1).bind fun bt341 => ((impl_ShiftRig.f kj38 t338 bt341.1 bt341.2).bind fun bt343 => ((laws_eqDeviceS.f kj38 bt343.1 t314).bind fun t347 => (if t347 = true then (laws_FnExactShiftRig.j2 kj38 t336 t335 (bt343.2 != t317)) else (laws_FnExactShiftRig.j2 kj38 t336 t335 true)))))) else (some false))) = some r := H
         have A55 := Aside0.mk A550
         clear A550
         by_cases c56 : t337 < 0
         ·rw [if_pos c56] at H
          have c56b0 : decide (t337 < 0) = true := decide_eq_true c56
          clear c56
          obtain rfl := Option.some.inj H
          obtain ⟨Ao57, co57, eo57⟩ := Kd.R_slice HO_9.out
          subst eo57
          go_wp2_with (first | ((with_reducible refine gate_callee (f := 36) rfl ?_); refine goesL_ (some 70) rfl rfl Try.func36 (by kernel_rfl) rfl #[.slice Ao57 t323.length co57, .int .i64 1] rfl u13_2 ?_; (with_reducible refine (laws_markDeviceS.calls kj38 (fun k_ => some k_ = (.slice Ao57 t323.length co57 : Value).ownBlock) (.slice Ao57 t323.length co57) t323 1 t335 t336 w _ ?side1 ?side2 A54.out).mono ?_); (case side1 => repeat (first | (with_reducible first | exact HB.out | apply below_alloc | apply pw_below_drewN | apply below_drew1 | refine below_set ?_ GE307.out) | exact HB.out)); (case side2 => exact Kd.R_tight rfl HO_9.out); rintro e w58 ⟨rfl, hy0, hb, hkp⟩; refine ⟨_, rfl, ?_⟩; have n0_ := Aside0.mk (Kd.R_mono (ok' := fun k_ => some k_ ≠ (.slice Ao57 t323.length co57 : Value).ownBlock) (Kd.R_keptB (HO_6.out) hkp (fun k_ hk_ hs_ => (hk_) hs_)) (fun k_ hk_ => hk_.1)); have n1_ := Aside0.mk (Kd.R_reok rfl hy0 (fun k_ e_ => HO_9.out.1 k_ e_)); have n2_ := Aside0.mk (blk_kept u13_1 hkp (fun hs_ => (fun e_ => (Kd.R_ne HO_9.out BK307.out (by decide)) e_) hs_)); have n3_ := Aside0.mk (hb); clear HO_6; clear HO_9; clear BK307; clear HB; have HO_6 := n0_; have HO_9 := n1_; have BK307 := n2_; have HB := n3_; clear n0_ n1_ n2_ n3_; (try clear hb); (try clear hkp); (try clear hy0)) | ((with_reducible refine gate_callee (f := 41) rfl ?_); refine goesL_ (some 73) rfl rfl Try.func41 (by kernel_rfl) rfl #[.slice Ao57 t336.length co57, .int .i64 1] rfl u13_9 ?_; (with_reducible refine (laws_heldDeviceS.calls kj38 _ _ t336 1 t337 _ ?side1 ?side2 A55.out).mono ?_); (case side1 => exact y13_5); (case side2 => rw [show t336.length = t323.length from (Kd.R_reads' HO_9.out).1.symm]; exact (Kd.R_reads' HO_9.out).2.1); rintro e w59 ⟨rfl, hb⟩; refine ⟨_, rfl, ?_⟩; have n0_ := Aside0.mk (Kd.R_below u13_4 hb); have n1_ := Aside0.mk (Kd.R_below u13_3 hb); have n2_ := Aside0.mk (blk_below (g := gb307) (o := .cells #[.int .i64 a1_0, .int .i64 a1_1] 23 (0, 0)) u13_1 hb); have n3_ := Aside0.mk (below_step u13_0 hb); clear HO_6; clear HO_9; clear BK307; clear HB; have HO_6 := n0_; have HO_9 := n1_; have BK307 := n2_; have HB := n3_; clear n0_ n1_ n2_ n3_; (try clear hb); (try clear hb2); (try clear hk); (try clear hi)))
          go_ret
          exact ⟨by first | rfl | (simp [*] <;> rfl), by repeat (first | (with_reducible first | exact HB.out | apply below_alloc | apply pw_below_drewN | apply below_drew1 | refine below_set ?_ GE307.out) | exact HB.out)⟩
         ·rw [if_neg c56] at H
          have c56b0 : decide (t337 < 0) = false := decide_eq_false c56
          clear c56
          by_cases c60 : t337 = t335
          ·rw [if_pos c60] at H
           have c60b0 : (t337 == t335) = true := beq_iff_eq.mpr c60
           have c60b1 : (t337 != t335) = false := bne_eq_false_iff_eq.mpr c60
           clear c60
           replace H := Option.bind_eq_some_iff.mp H
           obtain ⟨t338, A610, H⟩ := H
           replace H : ((laws_toPlace.f a1_0 a1_1).bind fun bt341 => ((impl_ShiftRig.f kj38 t338 bt341.1 bt341.2).bind fun bt343 => ((laws_eqDeviceS.f kj38 bt343.1 t314).bind fun t347 => (if t347 = true then (laws_FnExactShiftRig.j2 kj38 t336 t335 (bt343.2 != t317)) else (laws_FnExactShiftRig.j2 kj38 t336 t335 true))))) = some r := H
           have A61 := Aside0.mk A610
           clear A610
           replace H := Option.bind_eq_some_iff.mp H
           obtain ⟨⟨t341, t342⟩, A620, H⟩ := H
           replace H : ((impl_ShiftRig.f kj38 t338 t341 t342).bind fun bt343 => ((laws_eqDeviceS.f kj38 bt343.1 t314).bind fun t347 => (if t347 = true then (laws_FnExactShiftRig.j2 kj38 t336 t335 (bt343.2 != t317)) else (laws_FnExactShiftRig.j2 kj38 t336 t335 true)))) = some r := H
           have A62 := Aside0.mk A620
           clear A620
           replace H := Option.bind_eq_some_iff.mp H
           obtain ⟨⟨t343, t346⟩, A630, H⟩ := H
           replace H : ((laws_eqDeviceS.f kj38 t343 t314).bind fun t347 => (if t347 = true then (laws_FnExactShiftRig.j2 kj38 t336 t335 (t346 != t317)) else (laws_FnExactShiftRig.j2 kj38 t336 t335 true))) = some r := H
           have A63 := Aside0.mk A630
           clear A630
           have HC64 := Aside0.mk H
           clear H
           obtain ⟨Ao65, co65, eo65⟩ := Kd.R_slice HO_9.out
           subst eo65
           try go_wp2_with (first | ((with_reducible refine gate_callee (f := 36) rfl ?_); refine goesL_ (some 70) rfl rfl Try.func36 (by kernel_rfl) rfl #[.slice Ao65 t323.length co65, .int .i64 1] rfl u13_2 ?_; (with_reducible refine (laws_markDeviceS.calls kj38 (fun k_ => some k_ = (.slice Ao65 t323.length co65 : Value).ownBlock) (.slice Ao65 t323.length co65) t323 1 t335 t336 w _ ?side1 ?side2 A54.out).mono ?_); (case side1 => repeat (first | (with_reducible first | exact HB.out | apply below_alloc | apply pw_below_drewN | apply below_drew1 | refine below_set ?_ GE307.out) | exact HB.out)); (case side2 => exact Kd.R_tight rfl HO_9.out); rintro e w66 ⟨rfl, hy0, hb, hkp⟩; refine ⟨_, rfl, ?_⟩; have n0_ := Aside0.mk (Kd.R_mono (ok' := fun k_ => some k_ ≠ (.slice Ao65 t323.length co65 : Value).ownBlock) (Kd.R_keptB (HO_6.out) hkp (fun k_ hk_ hs_ => (hk_) hs_)) (fun k_ hk_ => hk_.1)); have n1_ := Aside0.mk (Kd.R_reok rfl hy0 (fun k_ e_ => HO_9.out.1 k_ e_)); have n2_ := Aside0.mk (blk_kept u13_1 hkp (fun hs_ => (fun e_ => (Kd.R_ne HO_9.out BK307.out (by decide)) e_) hs_)); have n3_ := Aside0.mk (hb); clear HO_6; clear HO_9; clear BK307; clear HB; have HO_6 := n0_; have HO_9 := n1_; have BK307 := n2_; have HB := n3_; clear n0_ n1_ n2_ n3_; (try clear hb); (try clear hkp); (try clear hy0)) | ((with_reducible refine gate_callee (f := 41) rfl ?_); refine goesL_ (some 73) rfl rfl Try.func41 (by kernel_rfl) rfl #[.slice Ao65 t336.length co65, .int .i64 1] rfl u13_9 ?_; (with_reducible refine (laws_heldDeviceS.calls kj38 _ _ t336 1 t337 _ ?side1 ?side2 A55.out).mono ?_); (case side1 => exact y13_5); (case side2 => rw [show t336.length = t323.length from (Kd.R_reads' HO_9.out).1.symm]; exact (Kd.R_reads' HO_9.out).2.1); rintro e w67 ⟨rfl, hb⟩; refine ⟨_, rfl, ?_⟩; have n0_ := Aside0.mk (Kd.R_below u13_4 hb); have n1_ := Aside0.mk (Kd.R_below u13_3 hb); have n2_ := Aside0.mk (blk_below (g := gb307) (o := .cells #[.int .i64 a1_0, .int .i64 a1_1] 23 (0, 0)) u13_1 hb); have n3_ := Aside0.mk (below_step u13_0 hb); clear HO_6; clear HO_9; clear BK307; clear HB; have HO_6 := n0_; have HO_9 := n1_; have BK307 := n2_; have HB := n3_; clear n0_ n1_ n2_ n3_; (try clear hb); (try clear hb2); (try clear hk); (try clear hi)))
           have n0_ := Aside0.mk (Kd.R_drew HO_6.out)
           have n1_ := Aside0.mk (Kd.R_drew HO_9.out)
           have n2_ := Aside0.mk (blk_drew BK307.out)
           have n3_ := Aside0.mk (below_drew1 HB.out)
           clear HO_6
           clear HO_9
           clear BK307
           clear HB
           have HO_6 := n0_
           have HO_9 := n1_
           have BK307 := n2_
           have HB := n3_
           clear n0_ n1_ n2_ n3_
           refine start_ (n := 10) (S := fun w' => w'.cell? ⟨gb307, 0, none⟩ = some (.int .i64 a1_0) ∧ w'.cell? ⟨gb307, 1, none⟩ = some (.int .i64 a1_1)) (ds := []) mk13_0 (by kernel_rfl) rfl rfl ⟨(blk_cell BK307.out 0).trans rfl, (blk_cell BK307.out 1).trans rfl⟩ (fun hHeld => ?_); refine with_tabW laws_FnExactShiftRig.tab24 laws_FnExactShiftRig.bits24 (fun HT_ HW_ => ?_)
           generalize w67.drew = w68 at HO_6 HO_9 BK307 HB hHeld ⊢
           refine pz 0 80 mk13_1 (any_of HT_.out (by kernel_rfl)) ?_
           refine take_ (i := 2) (N := some 82) (v := ?_) (a' := ?_) mk13_2 rfl rfl (take_ofW HT_.out HW_.out (by kernel_rfl)) (fun _ _ _ h => h) (Or.inl ⟨by rfl, ?_⟩) hHeld ?_ ?_
           rotate_left
           ·rintro w' ⟨s0, s1⟩
            exact gs
           rotate_left
           ·exact ap
           refine one_ (i := 1) (N := some 81) mk13_3 rfl rfl (one_of HT_.out (by kernel_rfl)) (by decide) (fun K hK => ?_)
           refine goes_ Try.func21 (by kernel_rfl) rfl #[.slice A0 l0.length c0] (by rfl) rfl rfl u13_2 ?_
           with_reducible refine (laws_toDeviceS.calls kj38 _ _ l0 t338 _ ?side1 ?side2 A61.out).mono ?_
           (case side1 => exact y13_0)
           (case side2 => exact HC0.out)
           rintro e w69 ⟨v339, rfl, ho0, hb⟩
           refine ⟨_, rfl, ?_⟩
           have n0_ := Aside0.mk (Kd.R_elder' u13_4 (Kd.R_base ho0) hb)
           have n1_ := Aside0.mk (Kd.R_elder' u13_3 (Kd.R_base ho0) hb)
           have n2_ := Aside0.mk (Kd.R_lower (Kd.R_new' (Kd.R_new' ho0 (Kd.R_lt u13_4)) (Kd.R_lt u13_3)) (below_size u13_0))
           have n3_ := Aside0.mk (blk_below (g := gb307) (o := .cells #[.int .i64 a1_0, .int .i64 a1_1] 23 (0, 0)) u13_1 hb)
           have n4_ := Aside0.mk (below_step u13_0 hb)
           clear HO_6
           clear HO_9
           clear BK307
           clear HB
           have HO_6 := n0_
           have HO_9 := n1_
           have HO340 := n2_
           have BK307 := n3_
           have HB := n4_
           clear n0_ n1_ n2_ n3_ n4_
           (try clear hb)
           (try clear hb2)
           (try clear hk)
           (try clear hi)
           (try clear ho0)
           refine hK.out _ _ ⟨(blk_cell BK307.out 0).trans rfl, (blk_cell BK307.out 1).trans rfl⟩ (fun hHeld => ?_)
           clear hK K
           refine norm_ (a' := ?_) ?_ ?_
           rotate_left
           ·show Act.put _ (some 81) _ = _
            simp only [Act.put, List.setIfInBounds_toArray, List.set_cons_zero, List.set_cons_succ, i64_w, i32_w]
            rfl
           refine one_ (i := 3) (N := some 83) mk13_4 rfl rfl (one_of HT_.out (by kernel_rfl)) (by decide) (fun K hK => ?_)
           refine goes_ Try.func45 (by kernel_rfl) rfl #[.agg #[.int .i64 a1_0, .int .i64 a1_1]] (by rfl) rfl rfl u13_2 ?_
           with_reducible refine (laws_toPlace.calls a1_0 a1_1 t341 t342 _ A62.out).mono ?_
           rintro e w70 ⟨rfl, hb⟩
           refine ⟨_, rfl, ?_⟩
           have n0_ := Aside0.mk (Kd.R_below u13_4 hb)
           have n1_ := Aside0.mk (Kd.R_below u13_3 hb)
           have n2_ := Aside0.mk (Kd.R_below u13_10 hb)
           have n3_ := Aside0.mk (blk_below (g := gb307) (o := .cells #[.int .i64 a1_0, .int .i64 a1_1] 23 (0, 0)) u13_1 hb)
           have n4_ := Aside0.mk (below_step u13_0 hb)
           clear HO_6
           clear HO_9
           clear HO340
           clear BK307
           clear HB
           have HO_6 := n0_
           have HO_9 := n1_
           have HO340 := n2_
           have BK307 := n3_
           have HB := n4_
           clear n0_ n1_ n2_ n3_ n4_
           (try clear hb)
           (try clear hb2)
           (try clear hk)
           (try clear hi)
           obtain ⟨Ao71, co71, eo71⟩ := Kd.R_slice HO340.out
           (first | subst eo71 | (injection eo71 with f1_ f2_ f3_; have f4_ := f1_.symm; have f5_ := f3_.symm; clear f1_ f2_ f3_; subst f4_; subst f5_))
           refine hK.out _ _ ⟨(blk_cell BK307.out 0).trans rfl, (blk_cell BK307.out 1).trans rfl⟩ (fun hHeld => ?_)
           clear hK K
           refine norm_ (a' := ?_) ?_ ?_
           rotate_left
           ·show Act.put _ (some 83) _ = _
            simp only [Act.put, List.setIfInBounds_toArray, List.set_cons_zero, List.set_cons_succ, i64_w, i32_w]
            rfl
           refine one_ (i := 4) (N := some 84) mk13_5 rfl rfl (one_of HT_.out (by kernel_rfl)) (by decide) (fun K hK => ?_)
           refine goes_ Try.func46 (by kernel_rfl) rfl #[.slice Ao71 t338.length co71, .agg #[.int .i64 t341, .int .i64 t342]] (by rfl) rfl rfl u13_2 ?_
           with_reducible refine (impl_ShiftRig.calls kj38 _ _ t338 t341 t342 t343 t346 _ ?side1 ?side2 A63.out).mono ?_
           (case side1 => repeat (first | exact (Kd.R_reads' HO340.out).2.2 | (with_reducible refine Kd.C_alloc ?_ _) | (with_reducible refine Kd.C_drewN ?_ _) | (with_reducible refine Kd.C_drew ?_)))
           (case side2 => exact (Kd.R_reads' HO340.out).2.1)
           rintro e w72 ⟨v344, rfl, ho0, hb⟩
           refine ⟨_, rfl, ?_⟩
           have n0_ := Aside0.mk (Kd.R_elder' u13_4 (Kd.R_base ho0) hb)
           have n1_ := Aside0.mk (Kd.R_elder' u13_3 (Kd.R_base ho0) hb)
           have n2_ := Aside0.mk (Kd.R_elder' u13_10 (Kd.R_base ho0) hb)
           have n3_ := Aside0.mk (Kd.R_lower (Kd.R_new' (Kd.R_new' (Kd.R_new' ho0 (Kd.R_lt u13_4)) (Kd.R_lt u13_3)) (Kd.R_lt u13_10)) (below_size u13_0))
           have n4_ := Aside0.mk (blk_below (g := gb307) (o := .cells #[.int .i64 a1_0, .int .i64 a1_1] 23 (0, 0)) u13_1 hb)
           have n5_ := Aside0.mk (below_step u13_0 hb)
           clear HO_6
           clear HO_9
           clear HO340
           clear BK307
           clear HB
           have HO_6 := n0_
           have HO_9 := n1_
           have HO340 := n2_
           have HO345 := n3_
           have BK307 := n4_
           have HB := n5_
           clear n0_ n1_ n2_ n3_ n4_ n5_
           (try clear hb)
           (try clear hb2)
           (try clear hk)
           (try clear hi)
           (try clear ho0)
           refine hK.out _ _ ⟨(blk_cell BK307.out 0).trans rfl, (blk_cell BK307.out 1).trans rfl⟩ (fun hHeld => ?_)
           clear hK K
           refine norm_ (a' := ?_) ?_ ?_
           rotate_left
           ·show Act.put _ (some 84) _ = _
            simp only [Act.put, List.setIfInBounds_toArray, List.set_cons_zero, List.set_cons_succ, i64_w, i32_w]
            rfl
           refine pz 5 79 mk13_6 (any_of HT_.out (by kernel_rfl)) ?_
           refine pz 6 85 mk13_7 (any_of HT_.out (by kernel_rfl)) ?_
           refine pz 7 86 mk13_8 (any_of HT_.out (by kernel_rfl)) ?_
           refine pz 8 14 mk13_9 (any_of HT_.out (by kernel_rfl)) ?_
           refine pz 9 15 mk13_10 (any_of HT_.out (by kernel_rfl)) ?_
           refine done_ (done_of HT_.out (by kernel_rfl)) ?_
           go_upto_region 25 with (fail)
           go_cut [95] (fun v95 wc => ∃ (kq : Nat) (x95_63 : Bool), v95 = .bool x95_63 ∧ Aside0 (laws_FnExactShiftRig.j2 kq t336 t335 x95_63 = some r) ∧ Aside0 (kq ≤ kj38) ∧ Aside0 (Kd.R k30 30 wc w.heap.size (fun _ => True) (.slice Ao65 t323.length co65) t336) ∧ Aside0 (wc.heap[gb307]? = some (.cells #[.int .i64 a1_0, .int .i64 a1_1] 23 (0, 0))) ∧ Aside0 (Below w.heap.size w wc))
           case first =>
            have H := HC64.out
            clear HC64
            replace H := Option.bind_eq_some_iff.mp H
            obtain ⟨t347, A730, H⟩ := H
            replace H : (if t347 = true then (laws_FnExactShiftRig.j2 kj38 t336 t335 (t346 != t317)) else (laws_FnExactShiftRig.j2 kj38 t336 t335 true)) = some r := H
            have A73 := Aside0.mk A730
            clear A730
            by_cases c74 : t347 = true
            ·subst c74
             have H1 : (laws_FnExactShiftRig.j2 kj38 t336 t335 (t346 != t317)) = some r := by rw [if_pos rfl] at H; exact H
             clear H
             have H := H1
             clear H1
             have H' := Aside0.mk H
             clear H
             obtain ⟨Ao75, co75, eo75⟩ := Kd.R_slice HO345.out
             subst eo75
             obtain ⟨Ao76, co76, eo76⟩ := Kd.R_slice HO_6.out
             subst eo76
             go_wp2_with (first | ((with_reducible refine gate_callee (f := 23) rfl ?_); refine goesL_ (some 89) rfl rfl Try.func23 (by kernel_rfl) rfl #[.slice Ao75 t343.length co75, .slice Ao76 t314.length co76] rfl u13_2 ?_; (with_reducible refine (laws_eqDeviceS.calls kj38 _ _ t343 _ _ t314 true _ ?side1 ?side2 ?side3 ?side4 A73.out).mono ?_); (case side1 => exact y13_3); (case side2 => exact (Kd.R_reads' HO345.out).2.1); (case side3 => exact y13_8); (case side4 => exact (Kd.R_reads' HO_6.out).2.1); rintro e w77 ⟨rfl, hb⟩; refine ⟨_, rfl, ?_⟩; have n0_ := Aside0.mk (Kd.R_below u13_4 hb); have n1_ := Aside0.mk (Kd.R_below u13_3 hb); have n2_ := Aside0.mk (Kd.R_below u13_10 hb); have n3_ := Aside0.mk (Kd.R_below (by (with_reducible repeat (first | apply Kd.R_alloc | apply Kd.R_drewN | apply Kd.R_drew)); exact HO345.out) hb); have n4_ := Aside0.mk (blk_below (g := gb307) (o := .cells #[.int .i64 a1_0, .int .i64 a1_1] 23 (0, 0)) u13_1 hb); have n5_ := Aside0.mk (below_step u13_0 hb); clear HO_6; clear HO_9; clear HO340; clear HO345; clear BK307; clear HB; have HO_6 := n0_; have HO_9 := n1_; have HO340 := n2_; have HO345 := n3_; have BK307 := n4_; have HB := n5_; clear n0_ n1_ n2_ n3_ n4_ n5_; (try clear hb); (try clear hb2); (try clear hk); (try clear hi)))
             go_meet
             case rel => exact ⟨_, ((t346 != t317)), u13_13, H', ⟨by have := HJ12.out; have := HJ38.out; first | omega | exact Nat.le_refl _⟩, ⟨by (with_reducible repeat (first | apply Kd.R_alloc | apply Kd.R_drewN | apply Kd.R_drew)); exact Kd.R_mono HO_9.out (fun _ hk => trivial)⟩, ⟨by (with_reducible repeat (first | refine blk_drewN ?_ _ | refine blk_drew ?_ | refine blk_alloc ?_ _)); exact BK307.out⟩, ⟨by repeat (first | (with_reducible first | exact HB.out | apply below_alloc | apply pw_below_drewN | apply below_drew1 | refine below_set ?_ GE307.out) | exact HB.out)⟩⟩
            ·replace c74 := Bool.eq_false_iff.mpr c74
             subst c74
             have H1 : (laws_FnExactShiftRig.j2 kj38 t336 t335 true) = some r := by rw [if_neg (show ¬ (false = true) by decide)] at H; exact H
             clear H
             have H := H1
             clear H1
             have H' := Aside0.mk H
             clear H
             obtain ⟨Ao78, co78, eo78⟩ := Kd.R_slice HO345.out
             subst eo78
             obtain ⟨Ao79, co79, eo79⟩ := Kd.R_slice HO_6.out
             subst eo79
             go_wp2_with (first | ((with_reducible refine gate_callee (f := 23) rfl ?_); refine goesL_ (some 89) rfl rfl Try.func23 (by kernel_rfl) rfl #[.slice Ao78 t343.length co78, .slice Ao79 t314.length co79] rfl u13_2 ?_; (with_reducible refine (laws_eqDeviceS.calls kj38 _ _ t343 _ _ t314 false _ ?side1 ?side2 ?side3 ?side4 A73.out).mono ?_); (case side1 => exact y13_3); (case side2 => exact (Kd.R_reads' HO345.out).2.1); (case side3 => exact y13_8); (case side4 => exact (Kd.R_reads' HO_6.out).2.1); rintro e w80 ⟨rfl, hb⟩; refine ⟨_, rfl, ?_⟩; have n0_ := Aside0.mk (Kd.R_below u13_4 hb); have n1_ := Aside0.mk (Kd.R_below u13_3 hb); have n2_ := Aside0.mk (Kd.R_below u13_10 hb); have n3_ := Aside0.mk (Kd.R_below (by (with_reducible repeat (first | apply Kd.R_alloc | apply Kd.R_drewN | apply Kd.R_drew)); exact HO345.out) hb); have n4_ := Aside0.mk (blk_below (g := gb307) (o := .cells #[.int .i64 a1_0, .int .i64 a1_1] 23 (0, 0)) u13_1 hb); have n5_ := Aside0.mk (below_step u13_0 hb); clear HO_6; clear HO_9; clear HO340; clear HO345; clear BK307; clear HB; have HO_6 := n0_; have HO_9 := n1_; have HO340 := n2_; have HO345 := n3_; have BK307 := n4_; have HB := n5_; clear n0_ n1_ n2_ n3_ n4_ n5_; (try clear hb); (try clear hb2); (try clear hk); (try clear hi)))
             go_meet
             case rel => exact ⟨_, (true), u13_13, H', ⟨by have := HJ12.out; have := HJ38.out; first | omega | exact Nat.le_refl _⟩, ⟨by (with_reducible repeat (first | apply Kd.R_alloc | apply Kd.R_drewN | apply Kd.R_drew)); exact Kd.R_mono HO_9.out (fun _ hk => trivial)⟩, ⟨by (with_reducible repeat (first | refine blk_drewN ?_ _ | refine blk_drew ?_ | refine blk_alloc ?_ _)); exact BK307.out⟩, ⟨by repeat (first | (with_reducible first | exact HB.out | apply below_alloc | apply pw_below_drewN | apply below_drew1 | refine below_set ?_ GE307.out) | exact HB.out)⟩⟩
           case rest =>
            clear HC64
            try clear c1
            try clear c2
            try clear p2
            try clear c3
            try clear c4
            try clear c4b0
            try clear c5
            try clear c6
            try clear c7
            try clear c12
            try clear c19
            try clear c21
            try clear c23
            try clear c27
            try clear c34
            try clear c36
            try clear c37
            try clear c41
            try clear c44
            try clear c44b0
            try clear c45
            try clear c46
            try clear c53
            try clear c56
            try clear c56b0
            try clear c60
            try clear c60b0
            try clear c60b1
            try clear c74
            try clear hcz22_0
            try clear hcz22_1
            try clear hfz22_0
            try clear hfz22_1
            try clear p2
            obtain ⟨kq, x95_63, rfl, HA, HJ63, HO_9, BK307, HB⟩ := hcut
            have hl9_63 := (Kd.R_reads' HO_9.out).1
            rw [hl9_63] at HO_9
            (try simp only [hl9_63])
            (try simp only [hl9_63] at BK307)
            cases kq with
            | zero => exact absurd HA.out (by simp [laws_FnExactShiftRig.j2])
            | succ kj63 =>
             have H := HA.out
             clear HA
             simp only [laws_FnExactShiftRig.j2] at H
             by_cases c81 : x95_63 = true
             ·subst c81
              have H1 : (some false) = some r := by rw [if_pos rfl] at H; exact H
              clear H
              have H := H1
              clear H1
              obtain rfl := Option.some.inj H
              go_wp2
              go_ret
              exact ⟨by first | rfl | (simp [*] <;> rfl), by repeat (first | (with_reducible first | exact HB.out | apply below_alloc | apply pw_below_drewN | apply below_drew1 | refine below_set ?_ GE307.out) | exact HB.out)⟩
             ·replace c81 := Bool.eq_false_iff.mpr c81
              subst c81
              have H1 : ((laws_heldDeviceS.f kj63 t336 1).bind fun t348 => (if t348 < 0 then (some false) else (if t348 = t335 then (some true) else (some false)))) = some r := by rw [if_neg (show ¬ (false = true) by decide)] at H; exact H
              clear H
              have H := H1
              clear H1
              replace H := Option.bind_eq_some_iff.mp H
              obtain ⟨t348, A820, H⟩ := H
              replace H : (if t348 < 0 then (some false) else (if t348 = t335 then (some true) else (some false))) = some r := H
              have A82 := Aside0.mk A820
              clear A820
              by_cases c83 : t348 < 0
              ·rw [if_pos c83] at H
               have c83b0 : decide (t348 < 0) = true := decide_eq_true c83
               clear c83
               obtain rfl := Option.some.inj H
               go_wp2_with (first | ((with_reducible refine gate_callee (f := 41) rfl ?_); refine goesL_ (some 98) rfl rfl Try.func41 (by kernel_rfl) rfl #[.slice Ao65 t336.length co65, .int .i64 1] rfl u13_2 ?_; (with_reducible refine (laws_heldDeviceS.calls kj63 _ _ t336 1 t348 _ ?side1 ?side2 A82.out).mono ?_); (case side1 => exact y13_5); (case side2 => exact (Kd.R_reads' HO_9.out).2.1); rintro e w84 ⟨rfl, hb⟩; refine ⟨_, rfl, ?_⟩; have n0_ := Aside0.mk (Kd.R_below u13_3 hb); have n1_ := Aside0.mk (blk_below (g := gb307) (o := .cells #[.int .i64 a1_0, .int .i64 a1_1] 23 (0, 0)) u13_1 hb); have n2_ := Aside0.mk (below_step u13_0 hb); clear HO_9; clear BK307; clear HB; have HO_9 := n0_; have BK307 := n1_; have HB := n2_; clear n0_ n1_ n2_; (try clear hb); (try clear hb2); (try clear hk); (try clear hi)))
               go_ret
               exact ⟨by first | rfl | (simp [*] <;> rfl), by repeat (first | (with_reducible first | exact HB.out | apply below_alloc | apply pw_below_drewN | apply below_drew1 | refine below_set ?_ GE307.out) | exact HB.out)⟩
              ·rw [if_neg c83] at H
               have c83b0 : decide (t348 < 0) = false := decide_eq_false c83
               (try simp only [hl9_63] at c83b0)
               clear c83
               by_cases c85 : t348 = t335
               ·rw [if_pos c85] at H
                have c85b0 : (t348 == t335) = true := beq_iff_eq.mpr c85
                have c85b1 : (t348 != t335) = false := bne_eq_false_iff_eq.mpr c85
                clear c85
                obtain rfl := Option.some.inj H
                go_wp2_with (first | ((with_reducible refine gate_callee (f := 41) rfl ?_); refine goesL_ (some 98) rfl rfl Try.func41 (by kernel_rfl) rfl #[.slice Ao65 t336.length co65, .int .i64 1] rfl u13_2 ?_; (with_reducible refine (laws_heldDeviceS.calls kj63 _ _ t336 1 t348 _ ?side1 ?side2 A82.out).mono ?_); (case side1 => exact y13_5); (case side2 => exact (Kd.R_reads' HO_9.out).2.1); rintro e w86 ⟨rfl, hb⟩; refine ⟨_, rfl, ?_⟩; have n0_ := Aside0.mk (Kd.R_below u13_3 hb); have n1_ := Aside0.mk (blk_below (g := gb307) (o := .cells #[.int .i64 a1_0, .int .i64 a1_1] 23 (0, 0)) u13_1 hb); have n2_ := Aside0.mk (below_step u13_0 hb); clear HO_9; clear BK307; clear HB; have HO_9 := n0_; have BK307 := n1_; have HB := n2_; clear n0_ n1_ n2_; (try clear hb); (try clear hb2); (try clear hk); (try clear hi)))
                go_ret
                exact ⟨by first | rfl | (simp [*] <;> rfl), by repeat (first | (with_reducible first | exact HB.out | apply below_alloc | apply pw_below_drewN | apply below_drew1 | refine below_set ?_ GE307.out) | exact HB.out)⟩
               ·rw [if_neg c85] at H
                have c85b0 : (t348 == t335) = false := beq_eq_false_iff_ne.mpr c85
                have c85b1 : (t348 != t335) = true := bne_iff_ne.mpr c85
                obtain rfl := Option.some.inj H
                go_wp2_with (first | ((with_reducible refine gate_callee (f := 41) rfl ?_); refine goesL_ (some 98) rfl rfl Try.func41 (by kernel_rfl) rfl #[.slice Ao65 t336.length co65, .int .i64 1] rfl u13_2 ?_; (with_reducible refine (laws_heldDeviceS.calls kj63 _ _ t336 1 t348 _ ?side1 ?side2 A82.out).mono ?_); (case side1 => exact y13_5); (case side2 => exact (Kd.R_reads' HO_9.out).2.1); rintro e w87 ⟨rfl, hb⟩; refine ⟨_, rfl, ?_⟩; have n0_ := Aside0.mk (Kd.R_below u13_3 hb); have n1_ := Aside0.mk (blk_below (g := gb307) (o := .cells #[.int .i64 a1_0, .int .i64 a1_1] 23 (0, 0)) u13_1 hb); have n2_ := Aside0.mk (below_step u13_0 hb); clear HO_9; clear BK307; clear HB; have HO_9 := n0_; have BK307 := n1_; have HB := n2_; clear n0_ n1_ n2_; (try clear hb); (try clear hb2); (try clear hk); (try clear hi)))
                go_ret
                exact ⟨by first | rfl | (simp [*] <;> rfl), by repeat (first | (with_reducible first | exact HB.out | apply below_alloc | apply pw_below_drewN | apply below_drew1 | refine below_set ?_ GE307.out) | exact HB.out)⟩
          ·rw [if_neg c60] at H
           have c60b0 : (t337 == t335) = false := beq_eq_false_iff_ne.mpr c60
           have c60b1 : (t337 != t335) = true := bne_iff_ne.mpr c60
           obtain rfl := Option.some.inj H
           obtain ⟨Ao88, co88, eo88⟩ := Kd.R_slice HO_9.out
           subst eo88
           go_wp2_with (first | ((with_reducible refine gate_callee (f := 36) rfl ?_); refine goesL_ (some 70) rfl rfl Try.func36 (by kernel_rfl) rfl #[.slice Ao88 t323.length co88, .int .i64 1] rfl u13_2 ?_; (with_reducible refine (laws_markDeviceS.calls kj38 (fun k_ => some k_ = (.slice Ao88 t323.length co88 : Value).ownBlock) (.slice Ao88 t323.length co88) t323 1 t335 t336 w _ ?side1 ?side2 A54.out).mono ?_); (case side1 => repeat (first | (with_reducible first | exact HB.out | apply below_alloc | apply pw_below_drewN | apply below_drew1 | refine below_set ?_ GE307.out) | exact HB.out)); (case side2 => exact Kd.R_tight rfl HO_9.out); rintro e w89 ⟨rfl, hy0, hb, hkp⟩; refine ⟨_, rfl, ?_⟩; have n0_ := Aside0.mk (Kd.R_mono (ok' := fun k_ => some k_ ≠ (.slice Ao88 t323.length co88 : Value).ownBlock) (Kd.R_keptB (HO_6.out) hkp (fun k_ hk_ hs_ => (hk_) hs_)) (fun k_ hk_ => hk_.1)); have n1_ := Aside0.mk (Kd.R_reok rfl hy0 (fun k_ e_ => HO_9.out.1 k_ e_)); have n2_ := Aside0.mk (blk_kept u13_1 hkp (fun hs_ => (fun e_ => (Kd.R_ne HO_9.out BK307.out (by decide)) e_) hs_)); have n3_ := Aside0.mk (hb); clear HO_6; clear HO_9; clear BK307; clear HB; have HO_6 := n0_; have HO_9 := n1_; have BK307 := n2_; have HB := n3_; clear n0_ n1_ n2_ n3_; (try clear hb); (try clear hkp); (try clear hy0)) | ((with_reducible refine gate_callee (f := 41) rfl ?_); refine goesL_ (some 73) rfl rfl Try.func41 (by kernel_rfl) rfl #[.slice Ao88 t336.length co88, .int .i64 1] rfl u13_9 ?_; (with_reducible refine (laws_heldDeviceS.calls kj38 _ _ t336 1 t337 _ ?side1 ?side2 A55.out).mono ?_); (case side1 => exact y13_5); (case side2 => rw [show t336.length = t323.length from (Kd.R_reads' HO_9.out).1.symm]; exact (Kd.R_reads' HO_9.out).2.1); rintro e w90 ⟨rfl, hb⟩; refine ⟨_, rfl, ?_⟩; have n0_ := Aside0.mk (Kd.R_below u13_4 hb); have n1_ := Aside0.mk (Kd.R_below u13_3 hb); have n2_ := Aside0.mk (blk_below (g := gb307) (o := .cells #[.int .i64 a1_0, .int .i64 a1_1] 23 (0, 0)) u13_1 hb); have n3_ := Aside0.mk (below_step u13_0 hb); clear HO_6; clear HO_9; clear BK307; clear HB; have HO_6 := n0_; have HO_9 := n1_; have BK307 := n2_; have HB := n3_; clear n0_ n1_ n2_ n3_; (try clear hb); (try clear hb2); (try clear hk); (try clear hi)))
           go_ret
           exact ⟨by first | rfl | (simp [*] <;> rfl), by repeat (first | (with_reducible first | exact HB.out | apply below_alloc | apply pw_below_drewN | apply below_drew1 | refine below_set ?_ GE307.out) | exact HB.out)⟩
     ·replace c37 := Bool.eq_false_iff.mpr c37
      subst c37
      have H1 : (some false) = some r := by rw [if_neg (show ¬ (false = true) by decide)] at H; exact H
      clear H
      have H := H1
      clear H1
      obtain rfl := Option.some.inj H
      go_wp2_with (first | ((with_reducible refine gate_callee (f := 21) rfl ?_); refine goesL_ (some 49) rfl rfl Try.func21 (by kernel_rfl) rfl #[.slice A0 l0.length c0] rfl u13_2 ?_; (with_reducible refine (laws_toDeviceS.calls kj12 _ _ l0 t328 _ ?side1 ?side2 A35.out).mono ?_); (case side1 => exact y13_0); (case side2 => exact HC0.out); rintro e w91 ⟨v329, rfl, ho0, hb⟩; refine ⟨_, rfl, ?_⟩; have n0_ := Aside0.mk (Kd.R_elder' u13_4 (Kd.R_base ho0) hb); have n1_ := Aside0.mk (Kd.R_elder' u13_6 (Kd.R_base ho0) hb); have n2_ := Aside0.mk (Kd.R_elder' u13_3 (Kd.R_base ho0) hb); have n3_ := Aside0.mk (Kd.R_lower (Kd.R_new' (Kd.R_new' (Kd.R_new' ho0 (Kd.R_lt u13_4)) (Kd.R_lt u13_6)) (Kd.R_lt u13_3)) (below_size u13_0)); have n4_ := Aside0.mk (blk_below (g := gb307) (o := .cells #[.int .i64 a1_0, .int .i64 a1_1] 23 (0, 0)) u13_1 hb); have n5_ := Aside0.mk (below_step u13_0 hb); clear HO_6; clear HO_8; clear HO_9; clear BK307; clear HB; have HO_6 := n0_; have HO_8 := n1_; have HO_9 := n2_; have HO330 := n3_; have BK307 := n4_; have HB := n5_; clear n0_ n1_ n2_ n3_ n4_ n5_; (try clear hb); (try clear hb2); (try clear hk); (try clear hi); (try clear ho0); obtain ⟨Ao92, co92, eo92⟩ := Kd.R_slice HO330.out; subst eo92) | ((with_reducible refine gate_callee (f := 23) rfl ?_); refine goesL_ (some 50) rfl rfl Try.func23 (by kernel_rfl) rfl #[.slice Ao24 t318.length co24, .slice Ao92 t328.length co92] rfl u13_2 ?_; (with_reducible refine (laws_eqDeviceS.calls kj12 _ _ t318 _ _ t328 false _ ?side1 ?side2 ?side3 ?side4 A36.out).mono ?_); (case side1 => exact y13_4); (case side2 => exact (Kd.R_reads' HO_8.out).2.1); (case side3 => exact y13_7); (case side4 => exact (Kd.R_reads' HO330.out).2.1); rintro e w93 ⟨rfl, hb⟩; refine ⟨_, rfl, ?_⟩; have n0_ := Aside0.mk (Kd.R_below u13_4 hb); have n1_ := Aside0.mk (Kd.R_below u13_6 hb); have n2_ := Aside0.mk (Kd.R_below u13_3 hb); have n3_ := Aside0.mk (Kd.R_below u13_12 hb); have n4_ := Aside0.mk (blk_below (g := gb307) (o := .cells #[.int .i64 a1_0, .int .i64 a1_1] 23 (0, 0)) u13_1 hb); have n5_ := Aside0.mk (below_step u13_0 hb); clear HO_6; clear HO_8; clear HO_9; clear HO330; clear BK307; clear HB; have HO_6 := n0_; have HO_8 := n1_; have HO_9 := n2_; have HO330 := n3_; have BK307 := n4_; have HB := n5_; clear n0_ n1_ n2_ n3_ n4_ n5_; (try clear hb); (try clear hb2); (try clear hk); (try clear hi)))
      go_ret
      exact ⟨by first | rfl | (simp [*] <;> rfl), by repeat (first | (with_reducible first | exact HB.out | apply below_alloc | apply pw_below_drewN | apply below_drew1 | refine below_set ?_ GE307.out) | exact HB.out)⟩

end Go.Proofs.Ytkedcokhcgklpaa.MFnExactShiftRig
