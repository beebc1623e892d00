-- Written by a program for this claim.
import Derived.Test.YtkedcokhcgklpaaMFnExactRemoveDevicex0
import Derived.Test.YtkedcokhcgklpaaMFnExactRemoveDevicex2
import Derived.Test.YtkedcokhcgklpaaMFnExactRemoveDevicex3
import Derived.Test.YtkedcokhcgklpaaMFnExactRemoveDevicex7
import Derived.Test.YtkedcokhcgklpaaMFnExactRemoveDevicex10
import Derived.Test.YtkedcokhcgklpaaMFnExactRemoveDevicex11
namespace Go.Proofs.Ytkedcokhcgklpaa.MFnExactRemoveDevice
open Go.RowKit Go.Proofs.YtkedcokhcgklpaaW.PrintWords Go.Proofs.YtkedcokhcgklpaaW.PrintLast Go.Proofs.YtkedcokhcgklpaaW.PrintMore
attribute [local go_sem] max2_int min2_int max_two min_two max_three min_three max_four min_four   -- for this text's walks alone
set_option linter.unusedVariables false
set_option linter.unusedSimpArgs false

theorem u12_0 {p : Prop} (h : p := by repeat (first | (with_reducible first | exact HB.out | apply below_alloc | apply pw_below_drewN | apply below_drew1) | exact HB.out)) : p := h
theorem u12_1 {p : Prop} (h : p := by (with_reducible repeat (first | apply Kd.R_alloc | apply Kd.R_drewN | apply Kd.R_drew)); exact HO_9.out) : p := h
theorem u12_2 {p : Prop} (h : p := by (try simp only [List.map_toArray, List.map_cons, List.map_nil]); first | done | rfl) : p := h
theorem u12_3 {p : Prop} (h : p := by (with_reducible repeat (first | apply Kd.R_alloc | apply Kd.R_drewN | apply Kd.R_drew)); exact HO_6.out) : p := h
theorem u12_4 {p : Prop} (h : p := by (with_reducible repeat (first | apply Kd.R_alloc | apply Kd.R_drewN | apply Kd.R_drew)); exact HO285.out) : p := h
theorem u12_5 {p : Prop} (h : p := by (with_reducible repeat (first | apply Kd.R_alloc | apply Kd.R_drewN | apply Kd.R_drew)); exact HO_8.out) : p := h
theorem u12_6 {p : Prop} (h : p := by (with_reducible repeat (first | apply Kd.R_alloc | apply Kd.R_drewN | apply Kd.R_drew)); exact HO289.out) : p := h
theorem u12_7 {p : Prop} (h : p := by (try simp only [List.map_toArray, List.map_cons, List.map_nil]); first | done | (rw [show t306.length = t293.length from (Kd.R_reads' HO_9.out).1.symm] <;> rfl) | rfl | (simp only [List.length_drop, List.length_take]; rfl)) : p := h
theorem u12_8 {p : Prop} (h : p := by (with_reducible repeat (first | apply Kd.R_alloc | apply Kd.R_drewN | apply Kd.R_drew)); exact HO310.out) : p := h
theorem u12_9 {p : Prop} (h : p := by (with_reducible repeat (first | apply Kd.R_alloc | apply Kd.R_drewN | apply Kd.R_drew)); exact HO300.out) : p := h
theorem u12_10 {p : Prop} (h : p := by (with_reducible repeat (first | apply Kd.R_alloc | apply Kd.R_drewN | apply Kd.R_drew)); exact HO292.out) : p := h
theorem u12_11 {p : Prop} (h : p := by first | rfl | (simp; done) | (simp [*]; done)) : p := h
/-! ### laws_FnExactRemoveDevice: function 10 -/
mutual
def laws_FnExactRemoveDevice.j0 : Nat → List (S25) → ByteArray → List (S30) → Bool → List (S30) → List (S30) → Bool → Bool → Option (Bool)
 | 0, _, _, _, _, _, _, _, _ => none
 | k + 1, x0, x1, x6, x7, x8, x9, x10, x47 => if x47 = true then (some false) else ((laws_toDeviceS.f k x0).bind fun t298 => ((laws_eqDeviceS.f k x8 t298).bind fun t301 => (if t301 = true then ((laws_markDeviceS.f k x8 1).bind fun bt302 => (if bt302.1 < 0 then (laws_FnExactRemoveDevice.j1 k x0 x1 x6 x7 x9 true) else ((laws_eqDeviceS.f k x9 x6).bind fun t304 => (if t304 = true then (laws_FnExactRemoveDevice.j1 k x0 x1 x6 x7 x9 (x10 != x7)) else (laws_FnExactRemoveDevice.j1 k x0 x1 x6 x7 x9 true))))) else (some false))))
def laws_FnExactRemoveDevice.j1 : Nat → List (S25) → ByteArray → List (S30) → Bool → List (S30) → Bool → Option (Bool)
 | 0, _, _, _, _, _, _ => none
 | k + 1, x0, x1, x6, x7, x9, x68 => if x68 = true then (some false) else ((laws_markDeviceS.f k x9 1).bind fun bt305 => ((laws_heldDeviceS.f k bt305.2 1).bind fun t307 => (if t307 < 0 then (some false) else (if t307 = bt305.1 then ((laws_toDeviceS.f k x0).bind fun t308 => ((impl_RemoveDevice.f k t308 x1).bind fun bt311 => ((laws_eqDeviceS.f k bt311.1 x6).bind fun t315 => (if t315 = true then (laws_FnExactRemoveDevice.j2 k bt305.2 bt305.1 (bt311.2 != x7)) else (laws_FnExactRemoveDevice.j2 k bt305.2 bt305.1 true))))) else (some false)))))
def laws_FnExactRemoveDevice.j2 : Nat → List (S30) → Int → Bool → Option (Bool)
 | 0, _, _, _ => none
 | k + 1, x9, x12, x95 => if x95 = true then (some false) else ((laws_heldDeviceS.f k x9 1).bind fun t316 => (if t316 < 0 then (some false) else (if t316 = x12 then (some true) else (some false))))
end
def laws_FnExactRemoveDevice.f (k : Nat) (l0 : List (S25)) (a1 : ByteArray) : Option (Bool) := if (a1.size : Int) > 1048576 then (some true) else ((laws_szDeviceS.f k l0 1048576).bind fun t282 => (if t282 < 0 then (some true) else ((laws_toDeviceS.f k l0).bind fun t283 => ((spec_RemoveDevice.f k t283 a1).bind fun bt286 => ((laws_toDeviceS.f k l0).bind fun t290 => ((impl_RemoveDevice.f k t290 a1).bind fun bt293 => ((laws_eqDeviceS.f k bt293.1 bt286.1).bind fun t297 => (if t297 = true then (laws_FnExactRemoveDevice.j0 k l0 a1 bt286.1 bt286.2 t290 bt293.1 bt293.2 (bt293.2 != bt286.2)) else (laws_FnExactRemoveDevice.j0 k l0 a1 bt286.1 bt286.2 t290 bt293.1 bt293.2 true)))))))))
theorem laws_FnExactRemoveDevice.mono_l : ∀ k, (∀ y0 y1 y2 y3 y4 y5 y6 y7, LeO (laws_FnExactRemoveDevice.j0 k y0 y1 y2 y3 y4 y5 y6 y7) (laws_FnExactRemoveDevice.j0 (k + 1) y0 y1 y2 y3 y4 y5 y6 y7)) ∧ (∀ y0 y1 y2 y3 y4 y5, LeO (laws_FnExactRemoveDevice.j1 k y0 y1 y2 y3 y4 y5) (laws_FnExactRemoveDevice.j1 (k + 1) y0 y1 y2 y3 y4 y5)) ∧ (∀ y0 y1 y2, LeO (laws_FnExactRemoveDevice.j2 k y0 y1 y2) (laws_FnExactRemoveDevice.j2 (k + 1) y0 y1 y2))
 | 0 => ⟨fun _ _ _ _ _ _ _ _ r h => by simp [laws_FnExactRemoveDevice.j0] at h, fun _ _ _ _ _ _ r h => by simp [laws_FnExactRemoveDevice.j1] at h, fun _ _ _ r h => by simp [laws_FnExactRemoveDevice.j2] at h⟩
 | k + 1 => by
  obtain ⟨ih0, ih1, ih2⟩ := laws_FnExactRemoveDevice.mono_l k
  refine ⟨?_, ?_, ?_⟩
  ·intro y0 y1 y2 y3 y4 y5 y6 y7
   unfold laws_FnExactRemoveDevice.j0
   repeat' first
   | (with_reducible exact ih0 _ _ _ _ _ _ _ _)
   | (with_reducible exact ih1 _ _ _ _ _ _)
   | (with_reducible exact ih2 _ _ _)
   | (with_reducible exact impl_RemoveDevice.mono _ _ _)
   | (with_reducible exact laws_eqDeviceS.mono _ _ _)
   | (with_reducible exact laws_heldDeviceS.mono _ _ _)
   | (with_reducible exact laws_markDeviceS.mono _ _ _)
   | (with_reducible exact laws_szDeviceS.mono _ _ _)
   | (with_reducible exact laws_toDeviceS.mono _ _)
   | (with_reducible exact spec_RemoveDevice.mono _ _ _)
   | (with_reducible exact LeO.refl _)
   | (with_reducible exact LeO.none _)
   | (with_reducible refine LeO.ite ?_ ?_)
   | (with_reducible refine LeO.bind ?_ (fun _ => ?_))
   | exact ih0 _ _ _ _ _ _ _ _
   | exact ih1 _ _ _ _ _ _
   | exact ih2 _ _ _
   | exact impl_RemoveDevice.mono _ _ _
   | exact laws_eqDeviceS.mono _ _ _
   | exact laws_heldDeviceS.mono _ _ _
   | exact laws_markDeviceS.mono _ _ _
   | exact laws_szDeviceS.mono _ _ _
   | exact laws_toDeviceS.mono _ _
   | exact spec_RemoveDevice.mono _ _ _
   | exact LeO.none _
   | refine LeO.ite ?_ ?_
   | refine LeO.bind ?_ (fun _ => ?_)
  ·intro y0 y1 y2 y3 y4 y5
   unfold laws_FnExactRemoveDevice.j1
   repeat' first
   | (with_reducible exact ih0 _ _ _ _ _ _ _ _)
   | (with_reducible exact ih1 _ _ _ _ _ _)
   | (with_reducible exact ih2 _ _ _)
   | (with_reducible exact impl_RemoveDevice.mono _ _ _)
   | (with_reducible exact laws_eqDeviceS.mono _ _ _)
   | (with_reducible exact laws_heldDeviceS.mono _ _ _)
   | (with_reducible exact laws_markDeviceS.mono _ _ _)
   | (with_reducible exact laws_szDeviceS.mono _ _ _)
   | (with_reducible exact laws_toDeviceS.mono _ _)
   | (with_reducible exact spec_RemoveDevice.mono _ _ _)
   | (with_reducible exact LeO.refl _)
   | (with_reducible exact LeO.none _)
   | (with_reducible refine LeO.ite ?_ ?_)
   | (with_reducible refine LeO.bind ?_ (fun _ => ?_))
   | exact ih0 _ _ _ _ _ _ _ _
   | exact ih1 _ _ _ _ _ _
   | exact ih2 _ _ _
   | exact impl_RemoveDevice.mono _ _ _
   | exact laws_eqDeviceS.mono _ _ _
   | exact laws_heldDeviceS.mono _ _ _
   | exact laws_markDeviceS.mono _ _ _
   | exact laws_szDeviceS.mono _ _ _
   | exact laws_toDeviceS.mono _ _
   | exact spec_RemoveDevice.mono _ _ _
   | exact LeO.none _
   | refine LeO.ite ?_ ?_
   | refine LeO.bind ?_ (fun _ => ?_)
  ·intro y0 y1 y2
   unfold laws_FnExactRemoveDevice.j2
   repeat' first
   | (with_reducible exact ih0 _ _ _ _ _ _ _ _)
   | (with_reducible exact ih1 _ _ _ _ _ _)
   | (with_reducible exact ih2 _ _ _)
   | (with_reducible exact impl_RemoveDevice.mono _ _ _)
   | (with_reducible exact laws_eqDeviceS.mono _ _ _)
   | (with_reducible exact laws_heldDeviceS.mono _ _ _)
   | (with_reducible exact laws_markDeviceS.mono _ _ _)
   | (with_reducible exact laws_szDeviceS.mono _ _ _)
   | (with_reducible exact laws_toDeviceS.mono _ _)
   | (with_reducible exact spec_RemoveDevice.mono _ _ _)
   | (with_reducible exact LeO.refl _)
   | (with_reducible exact LeO.none _)
   | (with_reducible refine LeO.ite ?_ ?_)
   | (with_reducible refine LeO.bind ?_ (fun _ => ?_))
   | exact ih0 _ _ _ _ _ _ _ _
   | exact ih1 _ _ _ _ _ _
   | exact ih2 _ _ _
   | exact impl_RemoveDevice.mono _ _ _
   | exact laws_eqDeviceS.mono _ _ _
   | exact laws_heldDeviceS.mono _ _ _
   | exact laws_markDeviceS.mono _ _ _
   | exact laws_szDeviceS.mono _ _ _
   | exact laws_toDeviceS.mono _ _
   | exact spec_RemoveDevice.mono _ _ _
   | exact LeO.none _
   | refine LeO.ite ?_ ?_
   | refine LeO.bind ?_ (fun _ => ?_)
theorem laws_FnExactRemoveDevice.mono : ∀ a0 a1 k, LeO (laws_FnExactRemoveDevice.f k a0 a1) (laws_FnExactRemoveDevice.f (k + 1) a0 a1) := by
 intro a0 a1 k
 obtain ⟨ih0, ih1, ih2⟩ := laws_FnExactRemoveDevice.mono_l k
 unfold laws_FnExactRemoveDevice.f
 repeat' first
   | (with_reducible exact ih0 _ _ _ _ _ _ _ _)
   | (with_reducible exact ih1 _ _ _ _ _ _)
   | (with_reducible exact ih2 _ _ _)
   | (with_reducible exact impl_RemoveDevice.mono _ _ _)
   | (with_reducible exact laws_eqDeviceS.mono _ _ _)
   | (with_reducible exact laws_heldDeviceS.mono _ _ _)
   | (with_reducible exact laws_markDeviceS.mono _ _ _)
   | (with_reducible exact laws_szDeviceS.mono _ _ _)
   | (with_reducible exact laws_toDeviceS.mono _ _)
   | (with_reducible exact spec_RemoveDevice.mono _ _ _)
   | (with_reducible exact LeO.refl _)
   | (with_reducible exact LeO.none _)
   | (with_reducible refine LeO.ite ?_ ?_)
   | (with_reducible refine LeO.bind ?_ (fun _ => ?_))
   | exact ih0 _ _ _ _ _ _ _ _
   | exact ih1 _ _ _ _ _ _
   | exact ih2 _ _ _
   | exact impl_RemoveDevice.mono _ _ _
   | exact laws_eqDeviceS.mono _ _ _
   | exact laws_heldDeviceS.mono _ _ _
   | exact laws_markDeviceS.mono _ _ _
   | exact laws_szDeviceS.mono _ _ _
   | exact laws_toDeviceS.mono _ _
   | exact spec_RemoveDevice.mono _ _ _
   | exact LeO.none _
   | refine LeO.ite ?_ ?_
   | refine LeO.bind ?_ (fun _ => ?_)
set_option maxHeartbeats 8000000 in
set_option maxRecDepth 100000 in
theorem laws_FnExactRemoveDevice.calls (k : Nat) (A0 : Option Addr) (c0 : Nat) (l0 : List (S25)) (a1 : ByteArray) (r : Bool) (w : World) (hr0 : Kd.C k25 w A0 l0.length l0) (hc0 : l0.length ≤ c0) (h : laws_FnExactRemoveDevice.f k l0 a1 = some r) :
  Calls Try.prog 10 #[.slice A0 l0.length c0, .string a1] w fun e w' => e = .returned (.bool r) ∧ Below w.heap.size w w' := by
 have HR0 := Aside0.mk hr0
 have HC0 := Aside0.mk hc0
 clear hr0 hc0
 have HB := Aside0.mk (Below.refl w.heap.size w)
 have H : (if (a1.size : Int) > 1048576 then (some true) else ((laws_szDeviceS.f k l0 1048576).bind fun t282 => (if t282 < 0 then (some true) else ((laws_toDeviceS.f k l0).bind fun t283 => ((spec_RemoveDevice.f k t283 a1).bind fun bt286 => ((laws_toDeviceS.f k l0).bind fun t290 => ((impl_RemoveDevice.f k t290 a1).bind fun bt293 => ((laws_eqDeviceS.f k bt293.1 bt286.1).bind fun t297 => (if t297 = true then (laws_FnExactRemoveDevice.j0 k l0 a1 bt286.1 bt286.2 t290 bt293.1 bt293.2 (bt293.2 != bt286.2)) else (laws_FnExactRemoveDevice.j0 k l0 a1 bt286.1 bt286.2 t290 bt293.1 bt293.2 true)))))))))) = some r := h
 clear h
 by_cases c3 : (a1.size : Int) > 1048576
 ·rw [if_pos c3] at H
  have c3b0 : decide (1048576 < (a1.size : Int)) = true := decide_eq_true c3
  have c3b1 : decide (1048576 < a1.size) = true := decide_eq_true (by omega)
  clear c3
  obtain rfl := Option.some.inj H
  go_enter Try.func10, Try.ntmps10
  go_wp2
  go_ret
  exact ⟨by first | rfl | (simp [*] <;> rfl), by repeat (first | (with_reducible first | exact HB.out | apply below_alloc | apply pw_below_drewN | apply below_drew1) | exact HB.out)⟩
 ·rw [if_neg c3] at H
  have c3b0 : decide (1048576 < (a1.size : Int)) = false := decide_eq_false c3
  have c3b1 : decide (1048576 < a1.size) = false := decide_eq_false (by omega)
  clear c3
  replace H := Option.bind_eq_some_iff.mp H
  obtain ⟨t282, A40, H⟩ := H
  replace H : (if t282 < 0 then (some true) else ((laws_toDeviceS.f k l0).bind fun t283 => ((spec_RemoveDevice.f k t283 a1).bind fun bt286 => ((laws_toDeviceS.f k l0).bind fun t290 => ((impl_RemoveDevice.f k t290 a1).bind fun bt293 => ((laws_eqDeviceS.f k bt293.1 bt286.1).bind fun t297 => (if t297 = true then (laws_FnExactRemoveDevice.j0 k l0 a1 bt286.1 bt286.2 t290 bt293.1 bt293.2 (bt293.2 != bt286.2)) else (laws_FnExactRemoveDevice.j0 k l0 a1 bt286.1 bt286.2 t290 bt293.1 bt293.2 true)))))))) = some r := H
  have A4 := Aside0.mk A40
  clear A40
  by_cases c5 : t282 < 0
  ·rw [if_pos c5] at H
   have c5b0 : decide (t282 < 0) = true := decide_eq_true c5
   clear c5
   obtain rfl := Option.some.inj H
   go_enter Try.func10, Try.ntmps10
   go_wp2_with (first | ((with_reducible refine gate_callee (f := 19) rfl ?_); refine goesL_ (some 21) rfl rfl Try.func19 (by kernel_rfl) rfl #[.slice A0 l0.length c0, .int .i64 1048576] rfl u12_2 ?_; (with_reducible refine (laws_szDeviceS.calls k _ _ l0 1048576 t282 _ ?side1 ?side2 A4.out).mono ?_); (case side1 => repeat (first | exact HR0.out | (with_reducible refine Kd.C_alloc ?_ _) | (with_reducible refine Kd.C_drewN ?_ _) | (with_reducible refine Kd.C_drew ?_))); (case side2 => exact HC0.out); rintro e w6 ⟨rfl, hb⟩; refine ⟨_, rfl, ?_⟩; have n0_ := Aside0.mk (below_step u12_0 hb); clear HB; have HB := n0_; clear n0_; (try clear hb); (try clear hb2); (try clear hk); (try clear hi)))
   go_ret
   exact ⟨by first | rfl | (simp [*] <;> rfl), by repeat (first | (with_reducible first | exact HB.out | apply below_alloc | apply pw_below_drewN | apply below_drew1) | exact HB.out)⟩
  ·rw [if_neg c5] at H
   have c5b0 : decide (t282 < 0) = false := decide_eq_false c5
   clear c5
   replace H := Option.bind_eq_some_iff.mp H
   obtain ⟨t283, A70, H⟩ := H
   replace H : ((spec_RemoveDevice.f k t283 a1).bind fun bt286 => ((laws_toDeviceS.f k l0).bind fun t290 => ((impl_RemoveDevice.f k t290 a1).bind fun bt293 => ((laws_eqDeviceS.f k bt293.1 bt286.1).bind fun t297 => (if t297 = true then (laws_FnExactRemoveDevice.j0 k l0 a1 bt286.1 bt286.2 t290 bt293.1 bt293.2 (bt293.2 != bt286.2)) else (laws_FnExactRemoveDevice.j0 k l0 a1 bt286.1 bt286.2 t290 bt293.1 bt293.2 true)))))) = some r := H
   have A7 := Aside0.mk A70
   clear A70
   replace H := Option.bind_eq_some_iff.mp H
   obtain ⟨⟨t286, t287⟩, A80, H⟩ := H
   replace H : ((laws_toDeviceS.f k l0).bind fun t290 => ((impl_RemoveDevice.f k t290 a1).bind fun bt293 => ((laws_eqDeviceS.f k bt293.1 t286).bind fun t297 => (if t297 = true then (laws_FnExactRemoveDevice.j0 k l0 a1 t286 t287 t290 bt293.1 bt293.2 (bt293.2 != t287)) else (laws_FnExactRemoveDevice.j0 k l0 a1 t286 t287 t290 bt293.1 bt293.2 true))))) = some r := H
   have A8 := Aside0.mk A80
   clear A80
   replace H := Option.bind_eq_some_iff.mp H
   obtain ⟨t290, A90, H⟩ := H
   replace H : ((impl_RemoveDevice.f k t290 a1).bind fun bt293 => ((laws_eqDeviceS.f k bt293.1 t286).bind fun t297 => (if t297 = true then (laws_FnExactRemoveDevice.j0 k l0 a1 t286 t287 t290 bt293.1 bt293.2 (bt293.2 != t287)) else (laws_FnExactRemoveDevice.j0 k l0 a1 t286 t287 t290 bt293.1 bt293.2 true)))) = some r := H
   have A9 := Aside0.mk A90
   clear A90
   replace H := Option.bind_eq_some_iff.mp H
   obtain ⟨⟨t293, t294⟩, A100, H⟩ := H
   replace H : ((laws_eqDeviceS.f k t293 t286).bind fun t297 => (if t297 = true then (laws_FnExactRemoveDevice.j0 k l0 a1 t286 t287 t290 t293 t294 (t294 != t287)) else (laws_FnExactRemoveDevice.j0 k l0 a1 t286 t287 t290 t293 t294 true))) = some r := H
   have A10 := Aside0.mk A100
   clear A100
   have HC11 := Aside0.mk H
   clear H
   go_enter Try.func10, Try.ntmps10
   go_upto_region 10 with (first | ((with_reducible refine gate_callee (f := 19) rfl ?_); refine goesL_ (some 21) rfl rfl Try.func19 (by kernel_rfl) rfl #[.slice A0 l0.length c0, .int .i64 1048576] rfl u12_2 ?_; (with_reducible refine (laws_szDeviceS.calls k _ _ l0 1048576 t282 _ ?side1 ?side2 A4.out).mono ?_); (case side1 => repeat (first | exact HR0.out | (with_reducible refine Kd.C_alloc ?_ _) | (with_reducible refine Kd.C_drewN ?_ _) | (with_reducible refine Kd.C_drew ?_))); (case side2 => exact HC0.out); rintro e w12 ⟨rfl, hb⟩; refine ⟨_, rfl, ?_⟩; have n0_ := Aside0.mk (below_step u12_0 hb); clear HB; have HB := n0_; clear n0_; (try clear hb); (try clear hb2); (try clear hk); (try clear hi)) | ((with_reducible refine gate_callee (f := 21) rfl ?_); refine goesL_ (some 26) rfl rfl Try.func21 (by kernel_rfl) rfl #[.slice A0 l0.length c0] rfl u12_2 ?_; (with_reducible refine (laws_toDeviceS.calls k _ _ l0 t283 _ ?side1 ?side2 A7.out).mono ?_); (case side1 => repeat (first | exact (Kd.C_below HR0.out HB.out) | (with_reducible refine Kd.C_alloc ?_ _) | (with_reducible refine Kd.C_drewN ?_ _) | (with_reducible refine Kd.C_drew ?_))); (case side2 => exact HC0.out); rintro e w13 ⟨v284, rfl, ho0, hb⟩; refine ⟨_, rfl, ?_⟩; have n0_ := Aside0.mk (Kd.R_lower ho0 (below_size u12_0)); have n1_ := Aside0.mk (below_step u12_0 hb); clear HB; have HO285 := n0_; have HB := n1_; clear n0_ n1_; (try clear hb); (try clear hb2); (try clear hk); (try clear hi); (try clear ho0); obtain ⟨Ao14, co14, eo14⟩ := Kd.R_slice HO285.out; subst eo14) | ((with_reducible refine gate_callee (f := 39) rfl ?_); refine goesL_ (some 28) rfl rfl Try.func39 (by kernel_rfl) rfl #[.slice Ao14 t283.length co14, .string a1] rfl u12_2 ?_; (with_reducible refine (spec_RemoveDevice.calls k _ _ t283 a1 t286 t287 _ ?side1 ?side2 A8.out).mono ?_); (case side1 => repeat (first | exact (Kd.R_reads' HO285.out).2.2 | (with_reducible refine Kd.C_alloc ?_ _) | (with_reducible refine Kd.C_drewN ?_ _) | (with_reducible refine Kd.C_drew ?_))); (case side2 => exact (Kd.R_reads' HO285.out).2.1); rintro e w15 ⟨v288, rfl, ho0, hb⟩; refine ⟨_, rfl, ?_⟩; have n0_ := Aside0.mk (Kd.R_elder' u12_4 (Kd.R_base ho0) hb); have n1_ := Aside0.mk (Kd.R_lower (Kd.R_new' ho0 (Kd.R_lt u12_4)) (below_size u12_0)); have n2_ := Aside0.mk (below_step u12_0 hb); clear HO285; clear HB; have HO285 := n0_; have HO289 := n1_; have HB := n2_; clear n0_ n1_ n2_; (try clear hb); (try clear hb2); (try clear hk); (try clear hi); (try clear ho0)) | ((with_reducible refine gate_callee (f := 21) rfl ?_); refine goesL_ (some 32) rfl rfl Try.func21 (by kernel_rfl) rfl #[.slice A0 l0.length c0] rfl u12_2 ?_; (with_reducible refine (laws_toDeviceS.calls k _ _ l0 t290 _ ?side1 ?side2 A9.out).mono ?_); (case side1 => repeat (first | exact (Kd.C_below HR0.out HB.out) | (with_reducible refine Kd.C_alloc ?_ _) | (with_reducible refine Kd.C_drewN ?_ _) | (with_reducible refine Kd.C_drew ?_))); (case side2 => exact HC0.out); rintro e w16 ⟨v291, rfl, ho0, hb⟩; refine ⟨_, rfl, ?_⟩; have n0_ := Aside0.mk (Kd.R_elder' u12_4 (Kd.R_base ho0) hb); have n1_ := Aside0.mk (Kd.R_elder' u12_6 (Kd.R_base ho0) hb); have n2_ := Aside0.mk (Kd.R_lower (Kd.R_new' (Kd.R_new' ho0 (Kd.R_lt u12_4)) (Kd.R_lt u12_6)) (below_size u12_0)); have n3_ := Aside0.mk (below_step u12_0 hb); clear HO285; clear HO289; clear HB; have HO285 := n0_; have HO289 := n1_; have HO292 := n2_; have HB := n3_; clear n0_ n1_ n2_ n3_; (try clear hb); (try clear hb2); (try clear hk); (try clear hi); (try clear ho0); obtain ⟨Ao17, co17, eo17⟩ := Kd.R_slice HO292.out; subst eo17) | ((with_reducible refine gate_callee (f := 40) rfl ?_); refine goesL_ (some 36) rfl rfl Try.func40 (by kernel_rfl) rfl #[.slice Ao17 t290.length co17, .string a1] rfl u12_2 ?_; (with_reducible refine (impl_RemoveDevice.calls k _ _ t290 a1 t293 t294 _ ?side1 ?side2 A10.out).mono ?_); (case side1 => repeat (first | exact (Kd.R_reads' HO292.out).2.2 | (with_reducible refine Kd.C_alloc ?_ _) | (with_reducible refine Kd.C_drewN ?_ _) | (with_reducible refine Kd.C_drew ?_))); (case side2 => exact (Kd.R_reads' HO292.out).2.1); rintro e w18 ⟨v295, rfl, ho0, hb⟩; refine ⟨_, rfl, ?_⟩; have n0_ := Aside0.mk (Kd.R_elder' u12_4 (Kd.R_base ho0) hb); have n1_ := Aside0.mk (Kd.R_elder' u12_6 (Kd.R_base ho0) hb); have n2_ := Aside0.mk (Kd.R_elder' u12_10 (Kd.R_base ho0) hb); have n3_ := Aside0.mk (Kd.R_lower (Kd.R_new' (Kd.R_new' (Kd.R_new' ho0 (Kd.R_lt u12_4)) (Kd.R_lt u12_6)) (Kd.R_lt u12_10)) (below_size u12_0)); have n4_ := Aside0.mk (below_step u12_0 hb); clear HO285; clear HO289; clear HO292; clear HB; have HO285 := n0_; have HO289 := n1_; have HO292 := n2_; have HO296 := n3_; have HB := n4_; clear n0_ n1_ n2_ n3_ n4_; (try clear hb); (try clear hb2); (try clear hk); (try clear hi); (try clear ho0)))
   (try simp only [Act.put, List.setIfInBounds_toArray, List.set_cons_zero, List.set_cons_succ])
   go_cut [47] (fun v47 wc => ∃ (kq : Nat) (x47_10 : Bool), v47 = .bool x47_10 ∧ Aside0 (laws_FnExactRemoveDevice.j0 kq l0 a1 t286 t287 t290 t293 t294 x47_10 = some r) ∧ Aside0 (kq ≤ k) ∧ Aside0 (Kd.R k30 30 wc w.heap.size (fun k_ => some k_ ≠ ((.slice Ao17 t290.length co17) : Value).ownBlock ∧ some k_ ≠ (v295 : Value).ownBlock) v288 t286) ∧ Aside0 (Kd.R k30 30 wc w.heap.size (fun k_ => some k_ ≠ (v288 : Value).ownBlock ∧ some k_ ≠ (v295 : Value).ownBlock) (.slice Ao17 t290.length co17) t290) ∧ Aside0 (Kd.R k30 30 wc w.heap.size (fun k_ => some k_ ≠ (v288 : Value).ownBlock ∧ some k_ ≠ ((.slice Ao17 t290.length co17) : Value).ownBlock) v295 t293) ∧ Aside0 (Below w.heap.size w wc))
   case first =>
    have H := HC11.out
    clear HC11
    replace H := Option.bind_eq_some_iff.mp H
    obtain ⟨t297, A190, H⟩ := H
    replace H : (if t297 = true then (laws_FnExactRemoveDevice.j0 k l0 a1 t286 t287 t290 t293 t294 (t294 != t287)) else (laws_FnExactRemoveDevice.j0 k l0 a1 t286 t287 t290 t293 t294 true)) = some r := H
    have A19 := Aside0.mk A190
    clear A190
    by_cases c20 : t297 = true
    ·subst c20
     have H1 : (laws_FnExactRemoveDevice.j0 k l0 a1 t286 t287 t290 t293 t294 (t294 != t287)) = some r := by rw [if_pos rfl] at H; exact H
     clear H
     have H := H1
     clear H1
     have H' := Aside0.mk H
     clear H
     obtain ⟨Ao21, co21, eo21⟩ := Kd.R_slice HO296.out
     subst eo21
     obtain ⟨Ao22, co22, eo22⟩ := Kd.R_slice HO289.out
     subst eo22
     go_wp2_with (first | ((with_reducible refine gate_callee (f := 23) rfl ?_); refine goesL_ (some 41) rfl rfl Try.func23 (by kernel_rfl) rfl #[.slice Ao21 t293.length co21, .slice Ao22 t286.length co22] rfl u12_2 ?_; (with_reducible refine (laws_eqDeviceS.calls k _ _ t293 _ _ t286 true _ ?side1 ?side2 ?side3 ?side4 A19.out).mono ?_); (case side1 => repeat (first | exact (Kd.R_reads' HO296.out).2.2 | (with_reducible refine Kd.C_alloc ?_ _) | (with_reducible refine Kd.C_drewN ?_ _) | (with_reducible refine Kd.C_drew ?_))); (case side2 => exact (Kd.R_reads' HO296.out).2.1); (case side3 => repeat (first | exact (Kd.R_reads' HO289.out).2.2 | (with_reducible refine Kd.C_alloc ?_ _) | (with_reducible refine Kd.C_drewN ?_ _) | (with_reducible refine Kd.C_drew ?_))); (case side4 => exact (Kd.R_reads' HO289.out).2.1); rintro e w23 ⟨rfl, hb⟩; refine ⟨_, rfl, ?_⟩; have n0_ := Aside0.mk (Kd.R_below u12_4 hb); have n1_ := Aside0.mk (Kd.R_below u12_6 hb); have n2_ := Aside0.mk (Kd.R_below u12_10 hb); have n3_ := Aside0.mk (Kd.R_below (by (with_reducible repeat (first | apply Kd.R_alloc | apply Kd.R_drewN | apply Kd.R_drew)); exact HO296.out) hb); have n4_ := Aside0.mk (below_step u12_0 hb); clear HO285; clear HO289; clear HO292; clear HO296; clear HB; have HO285 := n0_; have HO289 := n1_; have HO292 := n2_; have HO296 := n3_; have HB := n4_; clear n0_ n1_ n2_ n3_ n4_; (try clear hb); (try clear hb2); (try clear hk); (try clear hi)))
     go_meet
     case rel => exact ⟨_, ((t294 != t287)), u12_11, H', ⟨by first | omega | exact Nat.le_refl _⟩, ⟨by (with_reducible repeat (first | apply Kd.R_alloc | apply Kd.R_drewN | apply Kd.R_drew)); exact Kd.R_mono HO289.out (fun _ hk => ⟨hk.1.2, hk.2⟩)⟩, ⟨by (with_reducible repeat (first | apply Kd.R_alloc | apply Kd.R_drewN | apply Kd.R_drew)); exact Kd.R_mono HO292.out (fun _ hk => ⟨hk.1.2, hk.2⟩)⟩, ⟨by (with_reducible repeat (first | apply Kd.R_alloc | apply Kd.R_drewN | apply Kd.R_drew)); exact Kd.R_mono HO296.out (fun _ hk => ⟨hk.1.2, hk.2⟩)⟩, ⟨by repeat (first | (with_reducible first | exact HB.out | apply below_alloc | apply pw_below_drewN | apply below_drew1) | exact HB.out)⟩⟩
    ·replace c20 := Bool.eq_false_iff.mpr c20
     subst c20
     have H1 : (laws_FnExactRemoveDevice.j0 k l0 a1 t286 t287 t290 t293 t294 true) = some r := by rw [if_neg (show ¬ (false = true) by decide)] at H; exact H
     clear H
     have H := H1
     clear H1
     have H' := Aside0.mk H
     clear H
     obtain ⟨Ao24, co24, eo24⟩ := Kd.R_slice HO296.out
     subst eo24
     obtain ⟨Ao25, co25, eo25⟩ := Kd.R_slice HO289.out
     subst eo25
     go_wp2_with (first | ((with_reducible refine gate_callee (f := 23) rfl ?_); refine goesL_ (some 41) rfl rfl Try.func23 (by kernel_rfl) rfl #[.slice Ao24 t293.length co24, .slice Ao25 t286.length co25] rfl u12_2 ?_; (with_reducible refine (laws_eqDeviceS.calls k _ _ t293 _ _ t286 false _ ?side1 ?side2 ?side3 ?side4 A19.out).mono ?_); (case side1 => repeat (first | exact (Kd.R_reads' HO296.out).2.2 | (with_reducible refine Kd.C_alloc ?_ _) | (with_reducible refine Kd.C_drewN ?_ _) | (with_reducible refine Kd.C_drew ?_))); (case side2 => exact (Kd.R_reads' HO296.out).2.1); (case side3 => repeat (first | exact (Kd.R_reads' HO289.out).2.2 | (with_reducible refine Kd.C_alloc ?_ _) | (with_reducible refine Kd.C_drewN ?_ _) | (with_reducible refine Kd.C_drew ?_))); (case side4 => exact (Kd.R_reads' HO289.out).2.1); rintro e w26 ⟨rfl, hb⟩; refine ⟨_, rfl, ?_⟩; have n0_ := Aside0.mk (Kd.R_below u12_4 hb); have n1_ := Aside0.mk (Kd.R_below u12_6 hb); have n2_ := Aside0.mk (Kd.R_below u12_10 hb); have n3_ := Aside0.mk (Kd.R_below (by (with_reducible repeat (first | apply Kd.R_alloc | apply Kd.R_drewN | apply Kd.R_drew)); exact HO296.out) hb); have n4_ := Aside0.mk (below_step u12_0 hb); clear HO285; clear HO289; clear HO292; clear HO296; clear HB; have HO285 := n0_; have HO289 := n1_; have HO292 := n2_; have HO296 := n3_; have HB := n4_; clear n0_ n1_ n2_ n3_ n4_; (try clear hb); (try clear hb2); (try clear hk); (try clear hi)))
     go_meet
     case rel => exact ⟨_, (true), u12_11, H', ⟨by first | omega | exact Nat.le_refl _⟩, ⟨by (with_reducible repeat (first | apply Kd.R_alloc | apply Kd.R_drewN | apply Kd.R_drew)); exact Kd.R_mono HO289.out (fun _ hk => ⟨hk.1.2, hk.2⟩)⟩, ⟨by (with_reducible repeat (first | apply Kd.R_alloc | apply Kd.R_drewN | apply Kd.R_drew)); exact Kd.R_mono HO292.out (fun _ hk => ⟨hk.1.2, hk.2⟩)⟩, ⟨by (with_reducible repeat (first | apply Kd.R_alloc | apply Kd.R_drewN | apply Kd.R_drew)); exact Kd.R_mono HO296.out (fun _ hk => ⟨hk.1.2, hk.2⟩)⟩, ⟨by repeat (first | (with_reducible first | exact HB.out | apply below_alloc | apply pw_below_drewN | apply below_drew1) | exact HB.out)⟩⟩
   case rest =>
    clear HC11
    try clear c1
    try clear c2
    try clear p2
    try clear c3
    try clear c3b0
    try clear c3b1
    try clear c4
    try clear c5
    try clear c5b0
    try clear c10
    try clear c19
    try clear c20
    try clear c21
    try clear c23
    obtain ⟨kq, x47_10, rfl, HA, HJ10, HO_6, HO_8, HO_9, HB⟩ := hcut
    cases kq with
    | zero => exact absurd HA.out (by simp [laws_FnExactRemoveDevice.j0])
    | succ kj10 =>
     have H := HA.out
     clear HA
     simp only [laws_FnExactRemoveDevice.j0] at H
     by_cases c27 : x47_10 = true
     ·subst c27
      have H1 : (some false) = some r := by rw [if_pos rfl] at H; exact H
      clear H
      have H := H1
      clear H1
      obtain rfl := Option.some.inj H
      go_wp2
      go_ret
      exact ⟨by first | rfl | (simp [*] <;> rfl), by repeat (first | (with_reducible first | exact HB.out | apply below_alloc | apply pw_below_drewN | apply below_drew1) | exact HB.out)⟩
     ·replace c27 := Bool.eq_false_iff.mpr c27
      subst c27
      have H1 : ((laws_toDeviceS.f kj10 l0).bind fun t298 => ((laws_eqDeviceS.f kj10 t290 t298).bind fun t301 => (if t301 = true then ((laws_markDeviceS.f kj10 t290 1).bind fun bt302 => (if bt302.1 < 0 then (laws_FnExactRemoveDevice.j1 kj10 l0 a1 t286 t287 t293 true) else ((laws_eqDeviceS.f kj10 t293 t286).bind fun t304 => (if t304 = true then (laws_FnExactRemoveDevice.j1 kj10 l0 a1 t286 t287 t293 (t294 != t287)) else (laws_FnExactRemoveDevice.j1 kj10 l0 a1 t286 t287 t293 true))))) else (some false)))) = some r := by rw [if_neg (show ¬ (false = true) by decide)] at H; exact H
      clear H
      have H := H1
      clear H1
      replace H := Option.bind_eq_some_iff.mp H
      obtain ⟨t298, A280, H⟩ := H
      replace H : ((laws_eqDeviceS.f kj10 t290 t298).bind fun t301 => (if t301 = true then ((laws_markDeviceS.f kj10 t290 1).bind fun bt302 => (if bt302.1 < 0 then (laws_FnExactRemoveDevice.j1 kj10 l0 a1 t286 t287 t293 true) else ((laws_eqDeviceS.f kj10 t293 t286).bind fun t304 => (if t304 = true then (laws_FnExactRemoveDevice.j1 kj10 l0 a1 t286 t287 t293 (t294 != t287)) else (laws_FnExactRemoveDevice.j1 kj10 l0 a1 t286 t287 t293 true))))) else (some false))) = some r := H
      have A28 := Aside0.mk A280
      clear A280
      replace H := Option.bind_eq_some_iff.mp H
      obtain ⟨t301, A290, H⟩ := H
      replace H : (if t301 = true then ((laws_markDeviceS.f kj10 t290 1).bind fun bt302 => (if bt302.1 < 0 then (laws_FnExactRemoveDevice.j1 kj10 l0 a1 t286 t287 t293 true) else ((laws_eqDeviceS.f kj10 t293 t286).bind fun t304 => (if t304 = true then (laws_FnExactRemoveDevice.j1 kj10 l0 a1 t286 t287 t293 (t294 != t287)) else (laws_FnExactRemoveDevice.j1 kj10 l0 a1 t286 t287 t293 true))))) else (some false)) = some r := H
      have A29 := Aside0.mk A290
      clear A290
      by_cases c30 : t301 = true
      ·subst c30
       have H1 : ((laws_markDeviceS.f kj10 t290 1).bind fun bt302 => (if bt302.1 < 0 then (laws_FnExactRemoveDevice.j1 kj10 l0 a1 t286 t287 t293 true) else ((laws_eqDeviceS.f kj10 t293 t286).bind fun t304 => (if t304 = true then (laws_FnExactRemoveDevice.j1 kj10 l0 a1 t286 t287 t293 (t294 != t287)) else (laws_FnExactRemoveDevice.j1 kj10 l0 a1 t286 t287 t293 true))))) = some r := by rw [if_pos rfl] at H; exact H
       clear H
       have H := H1
       clear H1
       replace H := Option.bind_eq_some_iff.mp H
       obtain ⟨⟨t302, t303⟩, A310, H⟩ := H
       replace H : (if t302 < 0 then (laws_FnExactRemoveDevice.j1 kj10 l0 a1 t286 t287 t293 true) else ((laws_eqDeviceS.f kj10 t293 t286).bind fun t304 => (if t304 = true then (laws_FnExactRemoveDevice.j1 kj10 l0 a1 t286 t287 t293 (t294 != t287)) else (laws_FnExactRemoveDevice.j1 kj10 l0 a1 t286 t287 t293 true)))) = some r := H
       have A31 := Aside0.mk A310
       clear A310
       have HC32 := Aside0.mk H
       clear H
       go_upto_region 16 with (first | ((with_reducible refine gate_callee (f := 21) rfl ?_); refine goesL_ (some 50) rfl rfl Try.func21 (by kernel_rfl) rfl #[.slice A0 l0.length c0] rfl u12_2 ?_; (with_reducible refine (laws_toDeviceS.calls kj10 _ _ l0 t298 _ ?side1 ?side2 A28.out).mono ?_); (case side1 => repeat (first | exact (Kd.C_below HR0.out HB.out) | (with_reducible refine Kd.C_alloc ?_ _) | (with_reducible refine Kd.C_drewN ?_ _) | (with_reducible refine Kd.C_drew ?_))); (case side2 => exact HC0.out); rintro e w33 ⟨v299, rfl, ho0, hb⟩; refine ⟨_, rfl, ?_⟩; have n0_ := Aside0.mk (Kd.R_elder' u12_3 (Kd.R_base ho0) hb); have n1_ := Aside0.mk (Kd.R_elder' u12_5 (Kd.R_base ho0) hb); have n2_ := Aside0.mk (Kd.R_elder' u12_1 (Kd.R_base ho0) hb); have n3_ := Aside0.mk (Kd.R_lower (Kd.R_new' (Kd.R_new' (Kd.R_new' ho0 (Kd.R_lt u12_3)) (Kd.R_lt u12_5)) (Kd.R_lt u12_1)) (below_size u12_0)); have n4_ := Aside0.mk (below_step u12_0 hb); clear HO_6; clear HO_8; clear HO_9; clear HB; have HO_6 := n0_; have HO_8 := n1_; have HO_9 := n2_; have HO300 := n3_; have HB := n4_; clear n0_ n1_ n2_ n3_ n4_; (try clear hb); (try clear hb2); (try clear hk); (try clear hi); (try clear ho0); obtain ⟨Ao34, co34, eo34⟩ := Kd.R_slice HO300.out; subst eo34) | ((with_reducible refine gate_callee (f := 23) rfl ?_); refine goesL_ (some 51) rfl rfl Try.func23 (by kernel_rfl) rfl #[.slice Ao17 t290.length co17, .slice Ao34 t298.length co34] rfl u12_2 ?_; (with_reducible refine (laws_eqDeviceS.calls kj10 _ _ t290 _ _ t298 true _ ?side1 ?side2 ?side3 ?side4 A29.out).mono ?_); (case side1 => repeat (first | exact (Kd.R_reads' HO_8.out).2.2 | (with_reducible refine Kd.C_alloc ?_ _) | (with_reducible refine Kd.C_drewN ?_ _) | (with_reducible refine Kd.C_drew ?_))); (case side2 => exact (Kd.R_reads' HO_8.out).2.1); (case side3 => repeat (first | exact (Kd.R_reads' HO300.out).2.2 | (with_reducible refine Kd.C_alloc ?_ _) | (with_reducible refine Kd.C_drewN ?_ _) | (with_reducible refine Kd.C_drew ?_))); (case side4 => exact (Kd.R_reads' HO300.out).2.1); rintro e w35 ⟨rfl, hb⟩; refine ⟨_, rfl, ?_⟩; have n0_ := Aside0.mk (Kd.R_below u12_3 hb); have n1_ := Aside0.mk (Kd.R_below u12_5 hb); have n2_ := Aside0.mk (Kd.R_below u12_1 hb); have n3_ := Aside0.mk (Kd.R_below u12_9 hb); have n4_ := Aside0.mk (below_step u12_0 hb); clear HO_6; clear HO_8; clear HO_9; clear HO300; clear HB; have HO_6 := n0_; have HO_8 := n1_; have HO_9 := n2_; have HO300 := n3_; have HB := n4_; clear n0_ n1_ n2_ n3_ n4_; (try clear hb); (try clear hb2); (try clear hk); (try clear hi)) | ((with_reducible refine gate_callee (f := 36) rfl ?_); refine goesL_ (some 55) rfl rfl Try.func36 (by kernel_rfl) rfl #[.slice Ao17 t290.length co17, .int .i64 1] rfl u12_2 ?_; (with_reducible refine (laws_markDeviceS.calls kj10 (fun k_ => some k_ = (.slice Ao17 t290.length co17 : Value).ownBlock) (.slice Ao17 t290.length co17) t290 1 t302 t303 w _ ?side1 ?side2 A31.out).mono ?_); (case side1 => repeat (first | (with_reducible first | exact HB.out | apply below_alloc | apply pw_below_drewN | apply below_drew1) | exact HB.out)); (case side2 => exact Kd.R_tight rfl HO_8.out); rintro e w36 ⟨rfl, hy0, hb, hkp⟩; refine ⟨_, rfl, ?_⟩; have n0_ := Aside0.mk (Kd.R_mono (ok' := fun k_ => some k_ ≠ (.slice Ao17 t290.length co17 : Value).ownBlock ∧ some k_ ≠ (v295 : Value).ownBlock ∧ some k_ ≠ (.slice Ao34 t298.length co34 : Value).ownBlock) (Kd.R_keptB (HO_6.out) hkp (fun k_ hk_ hs_ => (hk_.1.1) hs_)) (fun k_ hk_ => ⟨hk_.1.1.1, hk_.1.1.2, hk_.1.2⟩)); have n1_ := Aside0.mk (Kd.R_reok rfl hy0 (fun k_ e_ => HO_8.out.1 k_ e_)); have n2_ := Aside0.mk (Kd.R_mono (ok' := fun k_ => some k_ ≠ (v288 : Value).ownBlock ∧ some k_ ≠ (.slice Ao17 t290.length co17 : Value).ownBlock ∧ some k_ ≠ (.slice Ao34 t298.length co34 : Value).ownBlock) (Kd.R_keptB (HO_9.out) hkp (fun k_ hk_ hs_ => (hk_.1.2) hs_)) (fun k_ hk_ => ⟨hk_.1.1.1, hk_.1.1.2, hk_.1.2⟩)); have n3_ := Aside0.mk (Kd.R_mono (ok' := fun k_ => some k_ ≠ (v288 : Value).ownBlock ∧ some k_ ≠ (.slice Ao17 t290.length co17 : Value).ownBlock ∧ some k_ ≠ (v295 : Value).ownBlock) (Kd.R_keptB (HO300.out) hkp (fun k_ hk_ hs_ => (hk_.1.2) hs_)) (fun k_ hk_ => ⟨hk_.1.1.1.2, hk_.1.1.2, hk_.1.2⟩)); have n4_ := Aside0.mk (hb); clear HO_6; clear HO_8; clear HO_9; clear HO300; clear HB; have HO_6 := n0_; have HO_8 := n1_; have HO_9 := n2_; have HO300 := n3_; have HB := n4_; clear n0_ n1_ n2_ n3_ n4_; (try clear hb); (try clear hkp); (try clear hy0)))
       (try simp only [Act.put, List.setIfInBounds_toArray, List.set_cons_zero, List.set_cons_succ])
       go_cut [68] (fun v68 wc => ∃ (kq : Nat) (x68_31 : Bool), v68 = .bool x68_31 ∧ Aside0 (laws_FnExactRemoveDevice.j1 kq l0 a1 t286 t287 t293 x68_31 = some r) ∧ Aside0 (kq ≤ kj10) ∧ Aside0 (Kd.R k30 30 wc w.heap.size (fun k_ => some k_ ≠ (v295 : Value).ownBlock) v288 t286) ∧ Aside0 (Kd.R k30 30 wc w.heap.size (fun k_ => some k_ ≠ (v288 : Value).ownBlock) v295 t293) ∧ Aside0 (Below w.heap.size w wc))
       case first =>
        have H := HC32.out
        clear HC32
        by_cases c37 : t302 < 0
        ·rw [if_pos c37] at H
         have c37b0 : decide (t302 < 0) = true := decide_eq_true c37
         clear c37
         (first | rw [c37b0] | (simp only [i64_w, i32_w]; rw [c37b0]) | skip)
         have H' := Aside0.mk H
         clear H
         go_wp2
         go_meet
         case rel => exact ⟨_, (true), u12_11, H', ⟨by have := HJ10.out; first | omega | exact Nat.le_refl _⟩, ⟨by (with_reducible repeat (first | apply Kd.R_alloc | apply Kd.R_drewN | apply Kd.R_drew)); exact Kd.R_mono HO_6.out (fun _ hk => hk.2.1)⟩, ⟨by (with_reducible repeat (first | apply Kd.R_alloc | apply Kd.R_drewN | apply Kd.R_drew)); exact Kd.R_mono HO_9.out (fun _ hk => hk.1)⟩, ⟨by repeat (first | (with_reducible first | exact HB.out | apply below_alloc | apply pw_below_drewN | apply below_drew1) | exact HB.out)⟩⟩
        ·rw [if_neg c37] at H
         have c37b0 : decide (t302 < 0) = false := decide_eq_false c37
         clear c37
         (first | rw [c37b0] | (simp only [i64_w, i32_w]; rw [c37b0]) | skip)
         replace H := Option.bind_eq_some_iff.mp H
         obtain ⟨t304, A380, H⟩ := H
         replace H : (if t304 = true then (laws_FnExactRemoveDevice.j1 kj10 l0 a1 t286 t287 t293 (t294 != t287)) else (laws_FnExactRemoveDevice.j1 kj10 l0 a1 t286 t287 t293 true)) = some r := H
         have A38 := Aside0.mk A380
         clear A380
         by_cases c39 : t304 = true
         ·subst c39
          have H1 : (laws_FnExactRemoveDevice.j1 kj10 l0 a1 t286 t287 t293 (t294 != t287)) = some r := by rw [if_pos rfl] at H; exact H
          clear H
          have H := H1
          clear H1
          have H' := Aside0.mk H
          clear H
          obtain ⟨Ao40, co40, eo40⟩ := Kd.R_slice HO_9.out
          subst eo40
          obtain ⟨Ao41, co41, eo41⟩ := Kd.R_slice HO_6.out
          subst eo41
          go_wp2_with (first | (go_at_call 23; (with_reducible refine (laws_eqDeviceS.calls kj10 _ _ t293 _ _ t286 true _ ?side1 ?side2 ?side3 ?side4 A38.out).mono ?_); (case side1 => repeat (first | exact (Kd.R_reads' HO_9.out).2.2 | (with_reducible refine Kd.C_alloc ?_ _) | (with_reducible refine Kd.C_drewN ?_ _) | (with_reducible refine Kd.C_drew ?_))); (case side2 => exact (Kd.R_reads' HO_9.out).2.1); (case side3 => repeat (first | exact (Kd.R_reads' HO_6.out).2.2 | (with_reducible refine Kd.C_alloc ?_ _) | (with_reducible refine Kd.C_drewN ?_ _) | (with_reducible refine Kd.C_drew ?_))); (case side4 => exact (Kd.R_reads' HO_6.out).2.1); rintro e w42 ⟨rfl, hb⟩; have n0_ := Aside0.mk (Kd.R_below u12_3 hb); have n1_ := Aside0.mk (Kd.R_below u12_5 hb); have n2_ := Aside0.mk (Kd.R_below u12_1 hb); have n3_ := Aside0.mk (Kd.R_below u12_9 hb); have n4_ := Aside0.mk (below_step u12_0 hb); clear HO_6; clear HO_8; clear HO_9; clear HO300; clear HB; have HO_6 := n0_; have HO_8 := n1_; have HO_9 := n2_; have HO300 := n3_; have HB := n4_; clear n0_ n1_ n2_ n3_ n4_; (try clear hb); (try clear hb2); (try clear hk); (try clear hi)))
          go_meet
          case rel => exact ⟨_, ((t294 != t287)), u12_11, H', ⟨by have := HJ10.out; first | omega | exact Nat.le_refl _⟩, ⟨by (with_reducible repeat (first | apply Kd.R_alloc | apply Kd.R_drewN | apply Kd.R_drew)); exact Kd.R_mono HO_6.out (fun _ hk => hk.2.1)⟩, ⟨by (with_reducible repeat (first | apply Kd.R_alloc | apply Kd.R_drewN | apply Kd.R_drew)); exact Kd.R_mono HO_9.out (fun _ hk => hk.1)⟩, ⟨by repeat (first | (with_reducible first | exact HB.out | apply below_alloc | apply pw_below_drewN | apply below_drew1) | exact HB.out)⟩⟩
         ·replace c39 := Bool.eq_false_iff.mpr c39
          subst c39
          have H1 : (laws_FnExactRemoveDevice.j1 kj10 l0 a1 t286 t287 t293 true) = some r := by rw [if_neg (show ¬ (false = true) by decide)] at H; exact H
          clear H
          have H := H1
          clear H1
          have H' := Aside0.mk H
          clear H
          obtain ⟨Ao43, co43, eo43⟩ := Kd.R_slice HO_9.out
          subst eo43
          obtain ⟨Ao44, co44, eo44⟩ := Kd.R_slice HO_6.out
          subst eo44
          go_wp2_with (first | (go_at_call 23; (with_reducible refine (laws_eqDeviceS.calls kj10 _ _ t293 _ _ t286 false _ ?side1 ?side2 ?side3 ?side4 A38.out).mono ?_); (case side1 => repeat (first | exact (Kd.R_reads' HO_9.out).2.2 | (with_reducible refine Kd.C_alloc ?_ _) | (with_reducible refine Kd.C_drewN ?_ _) | (with_reducible refine Kd.C_drew ?_))); (case side2 => exact (Kd.R_reads' HO_9.out).2.1); (case side3 => repeat (first | exact (Kd.R_reads' HO_6.out).2.2 | (with_reducible refine Kd.C_alloc ?_ _) | (with_reducible refine Kd.C_drewN ?_ _) | (with_reducible refine Kd.C_drew ?_))); (case side4 => exact (Kd.R_reads' HO_6.out).2.1); rintro e w45 ⟨rfl, hb⟩; have n0_ := Aside0.mk (Kd.R_below u12_3 hb); have n1_ := Aside0.mk (Kd.R_below u12_5 hb); have n2_ := Aside0.mk (Kd.R_below u12_1 hb); have n3_ := Aside0.mk (Kd.R_below u12_9 hb); have n4_ := Aside0.mk (below_step u12_0 hb); clear HO_6; clear HO_8; clear HO_9; clear HO300; clear HB; have HO_6 := n0_; have HO_8 := n1_; have HO_9 := n2_; have HO300 := n3_; have HB := n4_; clear n0_ n1_ n2_ n3_ n4_; (try clear hb); (try clear hb2); (try clear hk); (try clear hi)))
          go_meet
          case rel => exact ⟨_, (true), u12_11, H', ⟨by have := HJ10.out; first | omega | exact Nat.le_refl _⟩, ⟨by (with_reducible repeat (first | apply Kd.R_alloc | apply Kd.R_drewN | apply Kd.R_drew)); exact Kd.R_mono HO_6.out (fun _ hk => hk.2.1)⟩, ⟨by (with_reducible repeat (first | apply Kd.R_alloc | apply Kd.R_drewN | apply Kd.R_drew)); exact Kd.R_mono HO_9.out (fun _ hk => hk.1)⟩, ⟨by repeat (first | (with_reducible first | exact HB.out | apply below_alloc | apply pw_below_drewN | apply below_drew1) | exact HB.out)⟩⟩
       case rest =>
        clear HC32
        try clear c1
        try clear c2
        try clear p2
        try clear c3
        try clear c3b0
        try clear c3b1
        try clear c4
        try clear c5
        try clear c5b0
        try clear c10
        try clear c19
        try clear c20
        try clear c21
        try clear c23
        try clear c27
        try clear c30
        try clear c36
        try clear c37
        try clear c37b0
        try clear c39
        try clear c40
        try clear p2
        obtain ⟨kq, x68_31, rfl, HA, HJ31, HO_6, HO_9, HB⟩ := hcut
        cases kq with
        | zero => exact absurd HA.out (by simp [laws_FnExactRemoveDevice.j1])
        | succ kj31 =>
         have H := HA.out
         clear HA
         simp only [laws_FnExactRemoveDevice.j1] at H
         by_cases c46 : x68_31 = true
         ·subst c46
          have H1 : (some false) = some r := by rw [if_pos rfl] at H; exact H
          clear H
          have H := H1
          clear H1
          obtain rfl := Option.some.inj H
          go_wp2
          go_ret
          exact ⟨by first | rfl | (simp [*] <;> rfl), by repeat (first | (with_reducible first | exact HB.out | apply below_alloc | apply pw_below_drewN | apply below_drew1) | exact HB.out)⟩
         ·replace c46 := Bool.eq_false_iff.mpr c46
          subst c46
          have H1 : ((laws_markDeviceS.f kj31 t293 1).bind fun bt305 => ((laws_heldDeviceS.f kj31 bt305.2 1).bind fun t307 => (if t307 < 0 then (some false) else (if t307 = bt305.1 then ((laws_toDeviceS.f kj31 l0).bind fun t308 => ((impl_RemoveDevice.f kj31 t308 a1).bind fun bt311 => ((laws_eqDeviceS.f kj31 bt311.1 t286).bind fun t315 => (if t315 = true then (laws_FnExactRemoveDevice.j2 kj31 bt305.2 bt305.1 (bt311.2 != t287)) else (laws_FnExactRemoveDevice.j2 kj31 bt305.2 bt305.1 true))))) else (some false))))) = some r := by rw [if_neg (show ¬ (false = true) by decide)] at H; exact H
          clear H
          have H := H1
          clear H1
          replace H := Option.bind_eq_some_iff.mp H
          obtain ⟨⟨t305, t306⟩, A470, H⟩ := H
          replace H : ((laws_heldDeviceS.f kj31 t306 1).bind fun t307 => (if t307 < 0 then (some false) else (if t307 = t305 then ((laws_toDeviceS.f kj31 l0).bind fun t308 => ((impl_RemoveDevice.f kj31 t308 a1).bind fun bt311 => ((laws_eqDeviceS.f kj31 bt311.1 t286).bind fun t315 => (if t315 = true then (laws_FnExactRemoveDevice.j2 kj31 t306 t305 (bt311.2 != t287)) else (laws_FnExactRemoveDevice.j2 kj31 t306 t305 true))))) else (some false)))) = some r := H
          have A47 := Aside0.mk A470
          clear A470
          replace H := Option.bind_eq_some_iff.mp H
          obtain ⟨t307, A480, H⟩ := H
          replace H : (if t307 < 0 then (some false) else (if t307 = t305 then ((laws_toDeviceS.f kj31 l0).bind fun t308 => ((impl_RemoveDevice.f kj31 t308 a1).bind fun bt311 => ((laws_eqDeviceS.f kj31 bt311.1 t286).bind fun t315 => (if t315 = true then (laws_FnExactRemoveDevice.j2 kj31 t306 t305 (bt311.2 != t287)) else (laws_FnExactRemoveDevice.j2 kj31 t306 t305 true))))) else (some false))) = some r := H
          have A48 := Aside0.mk A480
          clear A480
          by_cases c49 : t307 < 0
          ·rw [if_pos c49] at H
           have c49b0 : decide (t307 < 0) = true := decide_eq_true c49
           clear c49
           obtain rfl := Option.some.inj H
           obtain ⟨Ao50, co50, eo50⟩ := Kd.R_slice HO_9.out
           subst eo50
           go_wp2_with (first | ((with_reducible refine gate_callee (f := 36) rfl ?_); refine goesL_ (some 71) rfl rfl Try.func36 (by kernel_rfl) rfl #[.slice Ao50 t293.length co50, .int .i64 1] rfl u12_2 ?_; (with_reducible refine (laws_markDeviceS.calls kj31 (fun k_ => some k_ = (.slice Ao50 t293.length co50 : Value).ownBlock) (.slice Ao50 t293.length co50) t293 1 t305 t306 w _ ?side1 ?side2 A47.out).mono ?_); (case side1 => repeat (first | (with_reducible first | exact HB.out | apply below_alloc | apply pw_below_drewN | apply below_drew1) | exact HB.out)); (case side2 => exact Kd.R_tight rfl HO_9.out); rintro e w51 ⟨rfl, hy0, hb, hkp⟩; refine ⟨_, rfl, ?_⟩; have n0_ := Aside0.mk (Kd.R_mono (ok' := fun k_ => some k_ ≠ (.slice Ao50 t293.length co50 : Value).ownBlock) (Kd.R_keptB (HO_6.out) hkp (fun k_ hk_ hs_ => (hk_) hs_)) (fun k_ hk_ => hk_.1)); have n1_ := Aside0.mk (Kd.R_reok rfl hy0 (fun k_ e_ => HO_9.out.1 k_ e_)); have n2_ := Aside0.mk (hb); clear HO_6; clear HO_9; clear HB; have HO_6 := n0_; have HO_9 := n1_; have HB := n2_; clear n0_ n1_ n2_; (try clear hb); (try clear hkp); (try clear hy0)) | ((with_reducible refine gate_callee (f := 41) rfl ?_); refine goesL_ (some 74) rfl rfl Try.func41 (by kernel_rfl) rfl #[.slice Ao50 t306.length co50, .int .i64 1] rfl u12_7 ?_; (with_reducible refine (laws_heldDeviceS.calls kj31 _ _ t306 1 t307 _ ?side1 ?side2 A48.out).mono ?_); (case side1 => repeat (first | exact (Kd.R_reads' HO_9.out).2.2 | (with_reducible refine Kd.C_alloc ?_ _) | (with_reducible refine Kd.C_drewN ?_ _) | (with_reducible refine Kd.C_drew ?_))); (case side2 => rw [show t306.length = t293.length from (Kd.R_reads' HO_9.out).1.symm]; exact (Kd.R_reads' HO_9.out).2.1); rintro e w52 ⟨rfl, hb⟩; refine ⟨_, rfl, ?_⟩; have n0_ := Aside0.mk (Kd.R_below u12_3 hb); have n1_ := Aside0.mk (Kd.R_below u12_1 hb); have n2_ := Aside0.mk (below_step u12_0 hb); clear HO_6; clear HO_9; clear HB; have HO_6 := n0_; have HO_9 := n1_; have HB := n2_; clear n0_ n1_ n2_; (try clear hb); (try clear hb2); (try clear hk); (try clear hi)))
           go_ret
           exact ⟨by first | rfl | (simp [*] <;> rfl), by repeat (first | (with_reducible first | exact HB.out | apply below_alloc | apply pw_below_drewN | apply below_drew1) | exact HB.out)⟩
          ·rw [if_neg c49] at H
           have c49b0 : decide (t307 < 0) = false := decide_eq_false c49
           clear c49
           by_cases c53 : t307 = t305
           ·rw [if_pos c53] at H
            have c53b0 : (t307 == t305) = true := beq_iff_eq.mpr c53
            have c53b1 : (t307 != t305) = false := bne_eq_false_iff_eq.mpr c53
            clear c53
            replace H := Option.bind_eq_some_iff.mp H
            obtain ⟨t308, A540, H⟩ := H
            replace H : ((impl_RemoveDevice.f kj31 t308 a1).bind fun bt311 => ((laws_eqDeviceS.f kj31 bt311.1 t286).bind fun t315 => (if t315 = true then (laws_FnExactRemoveDevice.j2 kj31 t306 t305 (bt311.2 != t287)) else (laws_FnExactRemoveDevice.j2 kj31 t306 t305 true)))) = some r := H
            have A54 := Aside0.mk A540
            clear A540
            replace H := Option.bind_eq_some_iff.mp H
            obtain ⟨⟨t311, t312⟩, A550, H⟩ := H
            replace H : ((laws_eqDeviceS.f kj31 t311 t286).bind fun t315 => (if t315 = true then (laws_FnExactRemoveDevice.j2 kj31 t306 t305 (t312 != t287)) else (laws_FnExactRemoveDevice.j2 kj31 t306 t305 true))) = some r := H
            have A55 := Aside0.mk A550
            clear A550
            have HC56 := Aside0.mk H
            clear H
            obtain ⟨Ao57, co57, eo57⟩ := Kd.R_slice HO_9.out
            subst eo57
            go_upto_region 27 with (first | ((with_reducible refine gate_callee (f := 36) rfl ?_); refine goesL_ (some 71) rfl rfl Try.func36 (by kernel_rfl) rfl #[.slice Ao57 t293.length co57, .int .i64 1] rfl u12_2 ?_; (with_reducible refine (laws_markDeviceS.calls kj31 (fun k_ => some k_ = (.slice Ao57 t293.length co57 : Value).ownBlock) (.slice Ao57 t293.length co57) t293 1 t305 t306 w _ ?side1 ?side2 A47.out).mono ?_); (case side1 => repeat (first | (with_reducible first | exact HB.out | apply below_alloc | apply pw_below_drewN | apply below_drew1) | exact HB.out)); (case side2 => exact Kd.R_tight rfl HO_9.out); rintro e w58 ⟨rfl, hy0, hb, hkp⟩; refine ⟨_, rfl, ?_⟩; have n0_ := Aside0.mk (Kd.R_mono (ok' := fun k_ => some k_ ≠ (.slice Ao57 t293.length co57 : Value).ownBlock) (Kd.R_keptB (HO_6.out) hkp (fun k_ hk_ hs_ => (hk_) hs_)) (fun k_ hk_ => hk_.1)); have n1_ := Aside0.mk (Kd.R_reok rfl hy0 (fun k_ e_ => HO_9.out.1 k_ e_)); have n2_ := Aside0.mk (hb); clear HO_6; clear HO_9; clear HB; have HO_6 := n0_; have HO_9 := n1_; have HB := n2_; clear n0_ n1_ n2_; (try clear hb); (try clear hkp); (try clear hy0)) | ((with_reducible refine gate_callee (f := 41) rfl ?_); refine goesL_ (some 74) rfl rfl Try.func41 (by kernel_rfl) rfl #[.slice Ao57 t306.length co57, .int .i64 1] rfl u12_7 ?_; (with_reducible refine (laws_heldDeviceS.calls kj31 _ _ t306 1 t307 _ ?side1 ?side2 A48.out).mono ?_); (case side1 => repeat (first | exact (Kd.R_reads' HO_9.out).2.2 | (with_reducible refine Kd.C_alloc ?_ _) | (with_reducible refine Kd.C_drewN ?_ _) | (with_reducible refine Kd.C_drew ?_))); (case side2 => rw [show t306.length = t293.length from (Kd.R_reads' HO_9.out).1.symm]; exact (Kd.R_reads' HO_9.out).2.1); rintro e w59 ⟨rfl, hb⟩; refine ⟨_, rfl, ?_⟩; have n0_ := Aside0.mk (Kd.R_below u12_3 hb); have n1_ := Aside0.mk (Kd.R_below u12_1 hb); have n2_ := Aside0.mk (below_step u12_0 hb); clear HO_6; clear HO_9; clear HB; have HO_6 := n0_; have HO_9 := n1_; have HB := n2_; clear n0_ n1_ n2_; (try clear hb); (try clear hb2); (try clear hk); (try clear hi)) | ((with_reducible refine gate_callee (f := 21) rfl ?_); refine goesL_ (some 82) rfl rfl Try.func21 (by kernel_rfl) rfl #[.slice A0 l0.length c0] rfl u12_2 ?_; (with_reducible refine (laws_toDeviceS.calls kj31 _ _ l0 t308 _ ?side1 ?side2 A54.out).mono ?_); (case side1 => repeat (first | exact (Kd.C_below HR0.out HB.out) | (with_reducible refine Kd.C_alloc ?_ _) | (with_reducible refine Kd.C_drewN ?_ _) | (with_reducible refine Kd.C_drew ?_))); (case side2 => exact HC0.out); rintro e w60 ⟨v309, rfl, ho0, hb⟩; refine ⟨_, rfl, ?_⟩; have n0_ := Aside0.mk (Kd.R_elder' u12_3 (Kd.R_base ho0) hb); have n1_ := Aside0.mk (Kd.R_elder' u12_1 (Kd.R_base ho0) hb); have n2_ := Aside0.mk (Kd.R_lower (Kd.R_new' (Kd.R_new' ho0 (Kd.R_lt u12_3)) (Kd.R_lt u12_1)) (below_size u12_0)); have n3_ := Aside0.mk (below_step u12_0 hb); clear HO_6; clear HO_9; clear HB; have HO_6 := n0_; have HO_9 := n1_; have HO310 := n2_; have HB := n3_; clear n0_ n1_ n2_ n3_; (try clear hb); (try clear hb2); (try clear hk); (try clear hi); (try clear ho0); obtain ⟨Ao61, co61, eo61⟩ := Kd.R_slice HO310.out; subst eo61) | ((with_reducible refine gate_callee (f := 40) rfl ?_); refine goesL_ (some 84) rfl rfl Try.func40 (by kernel_rfl) rfl #[.slice Ao61 t308.length co61, .string a1] rfl u12_2 ?_; (with_reducible refine (impl_RemoveDevice.calls kj31 _ _ t308 a1 t311 t312 _ ?side1 ?side2 A55.out).mono ?_); (case side1 => repeat (first | exact (Kd.R_reads' HO310.out).2.2 | (with_reducible refine Kd.C_alloc ?_ _) | (with_reducible refine Kd.C_drewN ?_ _) | (with_reducible refine Kd.C_drew ?_))); (case side2 => exact (Kd.R_reads' HO310.out).2.1); rintro e w62 ⟨v313, rfl, ho0, hb⟩; refine ⟨_, rfl, ?_⟩; have n0_ := Aside0.mk (Kd.R_elder' u12_3 (Kd.R_base ho0) hb); have n1_ := Aside0.mk (Kd.R_elder' u12_1 (Kd.R_base ho0) hb); have n2_ := Aside0.mk (Kd.R_elder' u12_8 (Kd.R_base ho0) hb); have n3_ := Aside0.mk (Kd.R_lower (Kd.R_new' (Kd.R_new' (Kd.R_new' ho0 (Kd.R_lt u12_3)) (Kd.R_lt u12_1)) (Kd.R_lt u12_8)) (below_size u12_0)); have n4_ := Aside0.mk (below_step u12_0 hb); clear HO_6; clear HO_9; clear HO310; clear HB; have HO_6 := n0_; have HO_9 := n1_; have HO310 := n2_; have HO314 := n3_; have HB := n4_; clear n0_ n1_ n2_ n3_ n4_; (try clear hb); (try clear hb2); (try clear hk); (try clear hi); (try clear ho0)))
            (try simp only [Act.put, List.setIfInBounds_toArray, List.set_cons_zero, List.set_cons_succ])
            go_cut [95] (fun v95 wc => ∃ (kq : Nat) (x95_55 : Bool), v95 = .bool x95_55 ∧ Aside0 (laws_FnExactRemoveDevice.j2 kq t306 t305 x95_55 = some r) ∧ Aside0 (kq ≤ kj31) ∧ Aside0 (Kd.R k30 30 wc w.heap.size (fun _ => True) (.slice Ao57 t293.length co57) t306) ∧ Aside0 (Below w.heap.size w wc))
            case first =>
             have H := HC56.out
             clear HC56
             replace H := Option.bind_eq_some_iff.mp H
             obtain ⟨t315, A630, H⟩ := H
             replace H : (if t315 = true then (laws_FnExactRemoveDevice.j2 kj31 t306 t305 (t312 != t287)) else (laws_FnExactRemoveDevice.j2 kj31 t306 t305 true)) = some r := H
             have A63 := Aside0.mk A630
             clear A630
             by_cases c64 : t315 = true
             ·subst c64
              have H1 : (laws_FnExactRemoveDevice.j2 kj31 t306 t305 (t312 != t287)) = some r := by rw [if_pos rfl] at H; exact H
              clear H
              have H := H1
              clear H1
              have H' := Aside0.mk H
              clear H
              obtain ⟨Ao65, co65, eo65⟩ := Kd.R_slice HO314.out
              subst eo65
              obtain ⟨Ao66, co66, eo66⟩ := Kd.R_slice HO_6.out
              subst eo66
              go_wp2_with (first | ((with_reducible refine gate_callee (f := 23) rfl ?_); refine goesL_ (some 89) rfl rfl Try.func23 (by kernel_rfl) rfl #[.slice Ao65 t311.length co65, .slice Ao66 t286.length co66] rfl u12_2 ?_; (with_reducible refine (laws_eqDeviceS.calls kj31 _ _ t311 _ _ t286 true _ ?side1 ?side2 ?side3 ?side4 A63.out).mono ?_); (case side1 => repeat (first | exact (Kd.R_reads' HO314.out).2.2 | (with_reducible refine Kd.C_alloc ?_ _) | (with_reducible refine Kd.C_drewN ?_ _) | (with_reducible refine Kd.C_drew ?_))); (case side2 => exact (Kd.R_reads' HO314.out).2.1); (case side3 => repeat (first | exact (Kd.R_reads' HO_6.out).2.2 | (with_reducible refine Kd.C_alloc ?_ _) | (with_reducible refine Kd.C_drewN ?_ _) | (with_reducible refine Kd.C_drew ?_))); (case side4 => exact (Kd.R_reads' HO_6.out).2.1); rintro e w67 ⟨rfl, hb⟩; refine ⟨_, rfl, ?_⟩; have n0_ := Aside0.mk (Kd.R_below u12_3 hb); have n1_ := Aside0.mk (Kd.R_below u12_1 hb); have n2_ := Aside0.mk (Kd.R_below u12_8 hb); have n3_ := Aside0.mk (Kd.R_below (by (with_reducible repeat (first | apply Kd.R_alloc | apply Kd.R_drewN | apply Kd.R_drew)); exact HO314.out) hb); have n4_ := Aside0.mk (below_step u12_0 hb); clear HO_6; clear HO_9; clear HO310; clear HO314; clear HB; have HO_6 := n0_; have HO_9 := n1_; have HO310 := n2_; have HO314 := n3_; have HB := n4_; clear n0_ n1_ n2_ n3_ n4_; (try clear hb); (try clear hb2); (try clear hk); (try clear hi)))
              go_meet
              case rel => exact ⟨_, ((t312 != t287)), u12_11, H', ⟨by have := HJ10.out; have := HJ31.out; first | omega | exact Nat.le_refl _⟩, ⟨by (with_reducible repeat (first | apply Kd.R_alloc | apply Kd.R_drewN | apply Kd.R_drew)); exact Kd.R_mono HO_9.out (fun _ hk => trivial)⟩, ⟨by repeat (first | (with_reducible first | exact HB.out | apply below_alloc | apply pw_below_drewN | apply below_drew1) | exact HB.out)⟩⟩
             ·replace c64 := Bool.eq_false_iff.mpr c64
              subst c64
              have H1 : (laws_FnExactRemoveDevice.j2 kj31 t306 t305 true) = some r := by rw [if_neg (show ¬ (false = true) by decide)] at H; exact H
              clear H
              have H := H1
              clear H1
              have H' := Aside0.mk H
              clear H
              obtain ⟨Ao68, co68, eo68⟩ := Kd.R_slice HO314.out
              subst eo68
              obtain ⟨Ao69, co69, eo69⟩ := Kd.R_slice HO_6.out
              subst eo69
              go_wp2_with (first | ((with_reducible refine gate_callee (f := 23) rfl ?_); refine goesL_ (some 89) rfl rfl Try.func23 (by kernel_rfl) rfl #[.slice Ao68 t311.length co68, .slice Ao69 t286.length co69] rfl u12_2 ?_; (with_reducible refine (laws_eqDeviceS.calls kj31 _ _ t311 _ _ t286 false _ ?side1 ?side2 ?side3 ?side4 A63.out).mono ?_); (case side1 => repeat (first | exact (Kd.R_reads' HO314.out).2.2 | (with_reducible refine Kd.C_alloc ?_ _) | (with_reducible refine Kd.C_drewN ?_ _) | (with_reducible refine Kd.C_drew ?_))); (case side2 => exact (Kd.R_reads' HO314.out).2.1); (case side3 => repeat (first | exact (Kd.R_reads' HO_6.out).2.2 | (with_reducible refine Kd.C_alloc ?_ _) | (with_reducible refine Kd.C_drewN ?_ _) | (with_reducible refine Kd.C_drew ?_))); (case side4 => exact (Kd.R_reads' HO_6.out).2.1); rintro e w70 ⟨rfl, hb⟩; refine ⟨_, rfl, ?_⟩; have n0_ := Aside0.mk (Kd.R_below u12_3 hb); have n1_ := Aside0.mk (Kd.R_below u12_1 hb); have n2_ := Aside0.mk (Kd.R_below u12_8 hb); have n3_ := Aside0.mk (Kd.R_below (by (with_reducible repeat (first | apply Kd.R_alloc | apply Kd.R_drewN | apply Kd.R_drew)); exact HO314.out) hb); have n4_ := Aside0.mk (below_step u12_0 hb); clear HO_6; clear HO_9; clear HO310; clear HO314; clear HB; have HO_6 := n0_; have HO_9 := n1_; have HO310 := n2_; have HO314 := n3_; have HB := n4_; clear n0_ n1_ n2_ n3_ n4_; (try clear hb); (try clear hb2); (try clear hk); (try clear hi)))
              go_meet
              case rel => exact ⟨_, (true), u12_11, H', ⟨by have := HJ10.out; have := HJ31.out; first | omega | exact Nat.le_refl _⟩, ⟨by (with_reducible repeat (first | apply Kd.R_alloc | apply Kd.R_drewN | apply Kd.R_drew)); exact Kd.R_mono HO_9.out (fun _ hk => trivial)⟩, ⟨by repeat (first | (with_reducible first | exact HB.out | apply below_alloc | apply pw_below_drewN | apply below_drew1) | exact HB.out)⟩⟩
            case rest =>
             clear HC56
             try clear c1
             try clear c2
             try clear p2
             try clear c3
             try clear c3b0
             try clear c3b1
             try clear c4
             try clear c5
             try clear c5b0
             try clear c6
             try clear c10
             try clear c19
             try clear c20
             try clear c21
             try clear c23
             try clear c27
             try clear c30
             try clear c36
             try clear c37
             try clear c37b0
             try clear c39
             try clear c40
             try clear c41
             try clear c46
             try clear c49
             try clear c49b0
             try clear c53
             try clear c53b0
             try clear c53b1
             try clear c64
             try clear p2
             obtain ⟨kq, x95_55, rfl, HA, HJ55, HO_9, HB⟩ := hcut
             have hl9_55 := (Kd.R_reads' HO_9.out).1
             rw [hl9_55] at HO_9
             (try simp only [hl9_55])
             cases kq with
             | zero => exact absurd HA.out (by simp [laws_FnExactRemoveDevice.j2])
             | succ kj55 =>
              have H := HA.out
              clear HA
              simp only [laws_FnExactRemoveDevice.j2] at H
              by_cases c71 : x95_55 = true
              ·subst c71
               have H1 : (some false) = some r := by rw [if_pos rfl] at H; exact H
               clear H
               have H := H1
               clear H1
               obtain rfl := Option.some.inj H
               go_wp2
               go_ret
               exact ⟨by first | rfl | (simp [*] <;> rfl), by repeat (first | (with_reducible first | exact HB.out | apply below_alloc | apply pw_below_drewN | apply below_drew1) | exact HB.out)⟩
              ·replace c71 := Bool.eq_false_iff.mpr c71
               subst c71
               have H1 : ((laws_heldDeviceS.f kj55 t306 1).bind fun t316 => (if t316 < 0 then (some false) else (if t316 = t305 then (some true) else (some false)))) = some r := by rw [if_neg (show ¬ (false = true) by decide)] at H; exact H
               clear H
               have H := H1
               clear H1
               replace H := Option.bind_eq_some_iff.mp H
               obtain ⟨t316, A720, H⟩ := H
               replace H : (if t316 < 0 then (some false) else (if t316 = t305 then (some true) else (some false))) = some r := H
               have A72 := Aside0.mk A720
               clear A720
               by_cases c73 : t316 < 0
               ·rw [if_pos c73] at H
                have c73b0 : decide (t316 < 0) = true := decide_eq_true c73
                clear c73
                obtain rfl := Option.some.inj H
                go_wp2_with (first | ((with_reducible refine gate_callee (f := 41) rfl ?_); refine goesL_ (some 98) rfl rfl Try.func41 (by kernel_rfl) rfl #[.slice Ao57 t306.length co57, .int .i64 1] rfl u12_2 ?_; (with_reducible refine (laws_heldDeviceS.calls kj55 _ _ t306 1 t316 _ ?side1 ?side2 A72.out).mono ?_); (case side1 => repeat (first | exact (Kd.R_reads' HO_9.out).2.2 | (with_reducible refine Kd.C_alloc ?_ _) | (with_reducible refine Kd.C_drewN ?_ _) | (with_reducible refine Kd.C_drew ?_))); (case side2 => exact (Kd.R_reads' HO_9.out).2.1); rintro e w74 ⟨rfl, hb⟩; refine ⟨_, rfl, ?_⟩; have n0_ := Aside0.mk (Kd.R_below u12_1 hb); have n1_ := Aside0.mk (below_step u12_0 hb); clear HO_9; clear HB; have HO_9 := n0_; have HB := n1_; clear n0_ n1_; (try clear hb); (try clear hb2); (try clear hk); (try clear hi)))
                go_ret
                exact ⟨by first | rfl | (simp [*] <;> rfl), by repeat (first | (with_reducible first | exact HB.out | apply below_alloc | apply pw_below_drewN | apply below_drew1) | exact HB.out)⟩
               ·rw [if_neg c73] at H
                have c73b0 : decide (t316 < 0) = false := decide_eq_false c73
                (try simp only [hl9_55] at c73b0)
                clear c73
                by_cases c75 : t316 = t305
                ·rw [if_pos c75] at H
                 have c75b0 : (t316 == t305) = true := beq_iff_eq.mpr c75
                 have c75b1 : (t316 != t305) = false := bne_eq_false_iff_eq.mpr c75
                 clear c75
                 obtain rfl := Option.some.inj H
                 go_wp2_with (first | ((with_reducible refine gate_callee (f := 41) rfl ?_); refine goesL_ (some 98) rfl rfl Try.func41 (by kernel_rfl) rfl #[.slice Ao57 t306.length co57, .int .i64 1] rfl u12_2 ?_; (with_reducible refine (laws_heldDeviceS.calls kj55 _ _ t306 1 t316 _ ?side1 ?side2 A72.out).mono ?_); (case side1 => repeat (first | exact (Kd.R_reads' HO_9.out).2.2 | (with_reducible refine Kd.C_alloc ?_ _) | (with_reducible refine Kd.C_drewN ?_ _) | (with_reducible refine Kd.C_drew ?_))); (case side2 => exact (Kd.R_reads' HO_9.out).2.1); rintro e w76 ⟨rfl, hb⟩; refine ⟨_, rfl, ?_⟩; have n0_ := Aside0.mk (Kd.R_below u12_1 hb); have n1_ := Aside0.mk (below_step u12_0 hb); clear HO_9; clear HB; have HO_9 := n0_; have HB := n1_; clear n0_ n1_; (try clear hb); (try clear hb2); (try clear hk); (try clear hi)))
                 go_ret
                 exact ⟨by first | rfl | (simp [*] <;> rfl), by repeat (first | (with_reducible first | exact HB.out | apply below_alloc | apply pw_below_drewN | apply below_drew1) | exact HB.out)⟩
                ·rw [if_neg c75] at H
                 have c75b0 : (t316 == t305) = false := beq_eq_false_iff_ne.mpr c75
                 have c75b1 : (t316 != t305) = true := bne_iff_ne.mpr c75
                 obtain rfl := Option.some.inj H
                 go_wp2_with (first | ((with_reducible refine gate_callee (f := 41) rfl ?_); refine goesL_ (some 98) rfl rfl Try.func41 (by kernel_rfl) rfl #[.slice Ao57 t306.length co57, .int .i64 1] rfl u12_2 ?_; (with_reducible refine (laws_heldDeviceS.calls kj55 _ _ t306 1 t316 _ ?side1 ?side2 A72.out).mono ?_); (case side1 => repeat (first | exact (Kd.R_reads' HO_9.out).2.2 | (with_reducible refine Kd.C_alloc ?_ _) | (with_reducible refine Kd.C_drewN ?_ _) | (with_reducible refine Kd.C_drew ?_))); (case side2 => exact (Kd.R_reads' HO_9.out).2.1); rintro e w77 ⟨rfl, hb⟩; refine ⟨_, rfl, ?_⟩; have n0_ := Aside0.mk (Kd.R_below u12_1 hb); have n1_ := Aside0.mk (below_step u12_0 hb); clear HO_9; clear HB; have HO_9 := n0_; have HB := n1_; clear n0_ n1_; (try clear hb); (try clear hb2); (try clear hk); (try clear hi)))
                 go_ret
                 exact ⟨by first | rfl | (simp [*] <;> rfl), by repeat (first | (with_reducible first | exact HB.out | apply below_alloc | apply pw_below_drewN | apply below_drew1) | exact HB.out)⟩
           ·rw [if_neg c53] at H
            have c53b0 : (t307 == t305) = false := beq_eq_false_iff_ne.mpr c53
            have c53b1 : (t307 != t305) = true := bne_iff_ne.mpr c53
            obtain rfl := Option.some.inj H
            obtain ⟨Ao78, co78, eo78⟩ := Kd.R_slice HO_9.out
            subst eo78
            go_wp2_with (first | ((with_reducible refine gate_callee (f := 36) rfl ?_); refine goesL_ (some 71) rfl rfl Try.func36 (by kernel_rfl) rfl #[.slice Ao78 t293.length co78, .int .i64 1] rfl u12_2 ?_; (with_reducible refine (laws_markDeviceS.calls kj31 (fun k_ => some k_ = (.slice Ao78 t293.length co78 : Value).ownBlock) (.slice Ao78 t293.length co78) t293 1 t305 t306 w _ ?side1 ?side2 A47.out).mono ?_); (case side1 => repeat (first | (with_reducible first | exact HB.out | apply below_alloc | apply pw_below_drewN | apply below_drew1) | exact HB.out)); (case side2 => exact Kd.R_tight rfl HO_9.out); rintro e w79 ⟨rfl, hy0, hb, hkp⟩; refine ⟨_, rfl, ?_⟩; have n0_ := Aside0.mk (Kd.R_mono (ok' := fun k_ => some k_ ≠ (.slice Ao78 t293.length co78 : Value).ownBlock) (Kd.R_keptB (HO_6.out) hkp (fun k_ hk_ hs_ => (hk_) hs_)) (fun k_ hk_ => hk_.1)); have n1_ := Aside0.mk (Kd.R_reok rfl hy0 (fun k_ e_ => HO_9.out.1 k_ e_)); have n2_ := Aside0.mk (hb); clear HO_6; clear HO_9; clear HB; have HO_6 := n0_; have HO_9 := n1_; have HB := n2_; clear n0_ n1_ n2_; (try clear hb); (try clear hkp); (try clear hy0)) | ((with_reducible refine gate_callee (f := 41) rfl ?_); refine goesL_ (some 74) rfl rfl Try.func41 (by kernel_rfl) rfl #[.slice Ao78 t306.length co78, .int .i64 1] rfl u12_7 ?_; (with_reducible refine (laws_heldDeviceS.calls kj31 _ _ t306 1 t307 _ ?side1 ?side2 A48.out).mono ?_); (case side1 => repeat (first | exact (Kd.R_reads' HO_9.out).2.2 | (with_reducible refine Kd.C_alloc ?_ _) | (with_reducible refine Kd.C_drewN ?_ _) | (with_reducible refine Kd.C_drew ?_))); (case side2 => rw [show t306.length = t293.length from (Kd.R_reads' HO_9.out).1.symm]; exact (Kd.R_reads' HO_9.out).2.1); rintro e w80 ⟨rfl, hb⟩; refine ⟨_, rfl, ?_⟩; have n0_ := Aside0.mk (Kd.R_below u12_3 hb); have n1_ := Aside0.mk (Kd.R_below u12_1 hb); have n2_ := Aside0.mk (below_step u12_0 hb); clear HO_6; clear HO_9; clear HB; have HO_6 := n0_; have HO_9 := n1_; have HB := n2_; clear n0_ n1_ n2_; (try clear hb); (try clear hb2); (try clear hk); (try clear hi)))
            go_ret
            exact ⟨by first | rfl | (simp [*] <;> rfl), by repeat (first | (with_reducible first | exact HB.out | apply below_alloc | apply pw_below_drewN | apply below_drew1) | exact HB.out)⟩
      ·replace c30 := Bool.eq_false_iff.mpr c30
       subst c30
       have H1 : (some false) = some r := by rw [if_neg (show ¬ (false = true) by decide)] at H; exact H
       clear H
       have H := H1
       clear H1
       obtain rfl := Option.some.inj H
       go_wp2_with (first | ((with_reducible refine gate_callee (f := 21) rfl ?_); refine goesL_ (some 50) rfl rfl Try.func21 (by kernel_rfl) rfl #[.slice A0 l0.length c0] rfl u12_2 ?_; (with_reducible refine (laws_toDeviceS.calls kj10 _ _ l0 t298 _ ?side1 ?side2 A28.out).mono ?_); (case side1 => repeat (first | exact (Kd.C_below HR0.out HB.out) | (with_reducible refine Kd.C_alloc ?_ _) | (with_reducible refine Kd.C_drewN ?_ _) | (with_reducible refine Kd.C_drew ?_))); (case side2 => exact HC0.out); rintro e w81 ⟨v299, rfl, ho0, hb⟩; refine ⟨_, rfl, ?_⟩; have n0_ := Aside0.mk (Kd.R_elder' u12_3 (Kd.R_base ho0) hb); have n1_ := Aside0.mk (Kd.R_elder' u12_5 (Kd.R_base ho0) hb); have n2_ := Aside0.mk (Kd.R_elder' u12_1 (Kd.R_base ho0) hb); have n3_ := Aside0.mk (Kd.R_lower (Kd.R_new' (Kd.R_new' (Kd.R_new' ho0 (Kd.R_lt u12_3)) (Kd.R_lt u12_5)) (Kd.R_lt u12_1)) (below_size u12_0)); have n4_ := Aside0.mk (below_step u12_0 hb); clear HO_6; clear HO_8; clear HO_9; clear HB; have HO_6 := n0_; have HO_8 := n1_; have HO_9 := n2_; have HO300 := n3_; have HB := n4_; clear n0_ n1_ n2_ n3_ n4_; (try clear hb); (try clear hb2); (try clear hk); (try clear hi); (try clear ho0); obtain ⟨Ao82, co82, eo82⟩ := Kd.R_slice HO300.out; subst eo82) | ((with_reducible refine gate_callee (f := 23) rfl ?_); refine goesL_ (some 51) rfl rfl Try.func23 (by kernel_rfl) rfl #[.slice Ao17 t290.length co17, .slice Ao82 t298.length co82] rfl u12_2 ?_; (with_reducible refine (laws_eqDeviceS.calls kj10 _ _ t290 _ _ t298 false _ ?side1 ?side2 ?side3 ?side4 A29.out).mono ?_); (case side1 => repeat (first | exact (Kd.R_reads' HO_8.out).2.2 | (with_reducible refine Kd.C_alloc ?_ _) | (with_reducible refine Kd.C_drewN ?_ _) | (with_reducible refine Kd.C_drew ?_))); (case side2 => exact (Kd.R_reads' HO_8.out).2.1); (case side3 => repeat (first | exact (Kd.R_reads' HO300.out).2.2 | (with_reducible refine Kd.C_alloc ?_ _) | (with_reducible refine Kd.C_drewN ?_ _) | (with_reducible refine Kd.C_drew ?_))); (case side4 => exact (Kd.R_reads' HO300.out).2.1); rintro e w83 ⟨rfl, hb⟩; refine ⟨_, rfl, ?_⟩; have n0_ := Aside0.mk (Kd.R_below u12_3 hb); have n1_ := Aside0.mk (Kd.R_below u12_5 hb); have n2_ := Aside0.mk (Kd.R_below u12_1 hb); have n3_ := Aside0.mk (Kd.R_below u12_9 hb); have n4_ := Aside0.mk (below_step u12_0 hb); clear HO_6; clear HO_8; clear HO_9; clear HO300; clear HB; have HO_6 := n0_; have HO_8 := n1_; have HO_9 := n2_; have HO300 := n3_; have HB := n4_; clear n0_ n1_ n2_ n3_ n4_; (try clear hb); (try clear hb2); (try clear hk); (try clear hi)))
       go_ret
       exact ⟨by first | rfl | (simp [*] <;> rfl), by repeat (first | (with_reducible first | exact HB.out | apply below_alloc | apply pw_below_drewN | apply below_drew1) | exact HB.out)⟩

end Go.Proofs.Ytkedcokhcgklpaa.MFnExactRemoveDevice
