-- Written by a program for this claim.
import Derived.Test.YtkedcokhcgklpaaMFnExactAddDevicex0
import Derived.Test.YtkedcokhcgklpaaMFnExactAddDevicex2
import Derived.Test.YtkedcokhcgklpaaMFnExactAddDevicex3
import Derived.Test.YtkedcokhcgklpaaMFnExactAddDevicex4
import Derived.Test.YtkedcokhcgklpaaMFnExactAddDevicex8
import Derived.Test.YtkedcokhcgklpaaMFnExactAddDevicex12
namespace Go.Proofs.Ytkedcokhcgklpaa.MFnExactAddDevice
open Go.RowKit Go.Proofs.YtkedcokhcgklpaaW.PrintWords Go.Proofs.YtkedcokhcgklpaaW.PrintLast Go.Proofs.YtkedcokhcgklpaaW.PrintMore
attribute [local go_sem] max2_int min2_int max_two min_two max_three min_three max_four min_four   -- for this text's walks alone
set_option linter.unusedVariables false
set_option linter.unusedSimpArgs false

theorem y13_0 {p : Prop} (h : p := by repeat (first | exact (Kd.C_below HR0.out HB.out) | (with_reducible refine Kd.C_alloc ?_ _) | (with_reducible refine Kd.C_drewN ?_ _) | (with_reducible refine Kd.C_drew ?_))) : p := h
theorem y13_2 {p : Prop} (h : p := by repeat (first | exact (Kd.R_reads' HO311.out).2.2 | (with_reducible refine Kd.C_alloc ?_ _) | (with_reducible refine Kd.C_drewN ?_ _) | (with_reducible refine Kd.C_drew ?_))) : p := h
theorem y13_3 {p : Prop} (h : p := by repeat (first | exact (Kd.R_reads' HO337.out).2.2 | (with_reducible refine Kd.C_alloc ?_ _) | (with_reducible refine Kd.C_drewN ?_ _) | (with_reducible refine Kd.C_drew ?_))) : p := h
theorem y13_4 {p : Prop} (h : p := by repeat (first | exact (Kd.R_reads' HO_8.out).2.2 | (with_reducible refine Kd.C_alloc ?_ _) | (with_reducible refine Kd.C_drewN ?_ _) | (with_reducible refine Kd.C_drew ?_))) : p := h
theorem y13_5 {p : Prop} (h : p := by repeat (first | exact (Kd.R_reads' HO_9.out).2.2 | (with_reducible refine Kd.C_alloc ?_ _) | (with_reducible refine Kd.C_drewN ?_ _) | (with_reducible refine Kd.C_drew ?_))) : p := h
theorem y13_6 {p : Prop} (h : p := by repeat (first | exact (Kd.R_reads' HO296.out).2.2 | (with_reducible refine Kd.C_alloc ?_ _) | (with_reducible refine Kd.C_drewN ?_ _) | (with_reducible refine Kd.C_drew ?_))) : p := h
theorem y13_7 {p : Prop} (h : p := by repeat (first | exact (Kd.R_reads' HO316.out).2.2 | (with_reducible refine Kd.C_alloc ?_ _) | (with_reducible refine Kd.C_drewN ?_ _) | (with_reducible refine Kd.C_drew ?_))) : p := h
theorem y13_8 {p : Prop} (h : p := by repeat (first | exact (Kd.R_reads' HO_6.out).2.2 | (with_reducible refine Kd.C_alloc ?_ _) | (with_reducible refine Kd.C_drewN ?_ _) | (with_reducible refine Kd.C_drew ?_))) : p := h
abbrev mk13_0 : Array Bool := #[false, false, false, false, false, false, false, false, false, false]
abbrev mk13_1 : Array Bool := #[true, false, false, false, false, false, false, false, false, false]
abbrev mk13_2 : Array Bool := #[true, false, true, false, false, false, false, false, false, false]
abbrev mk13_3 : Array Bool := #[true, true, true, false, false, false, false, false, false, false]
abbrev mk13_4 : Array Bool := #[true, true, true, true, false, false, false, false, false, false]
abbrev mk13_5 : Array Bool := #[true, true, true, true, true, false, false, false, false, false]
abbrev mk13_6 : Array Bool := #[true, true, true, true, true, true, false, false, false, false]
abbrev mk13_7 : Array Bool := #[true, true, true, true, true, true, true, false, false, false]
abbrev mk13_8 : Array Bool := #[true, true, true, true, true, true, true, true, false, false]
abbrev mk13_9 : Array Bool := #[true, true, true, true, true, true, true, true, true, false]
abbrev mk13_10 : Array Bool := #[true, true, true, true, true, true, true, true, true, true]
theorem u13_0 {p : Prop} (h : p := by repeat (first | (with_reducible first | exact HB.out | apply below_alloc | apply pw_below_drewN | apply below_drew1 | refine below_set ?_ GE280.out) | exact HB.out)) : p := h
theorem u13_1 {p : Prop} (h : p := by (with_reducible repeat (first | refine blk_drewN ?_ _ | refine blk_drew ?_ | refine blk_alloc ?_ _)); exact BK280.out) : p := h
theorem u13_2 {p : Prop} (h : p := by (try simp only [List.map_toArray, List.map_cons, List.map_nil]); first | done | rfl) : p := h
theorem u13_3 {p : Prop} (h : p := by (with_reducible repeat (first | apply Kd.R_alloc | apply Kd.R_drewN | apply Kd.R_drew)); exact HO_9.out) : p := h
theorem u13_4 {p : Prop} (h : p := by (with_reducible repeat (first | apply Kd.R_alloc | apply Kd.R_drewN | apply Kd.R_drew)); exact HO_6.out) : p := h
theorem u13_5 {p : Prop} (h : p := by repeat (first | (with_reducible first | exact HB.out | apply below_alloc | apply pw_below_drewN | apply below_drew1) | exact HB.out)) : p := h
theorem u13_6 {p : Prop} (h : p := by (with_reducible repeat (first | apply Kd.R_alloc | apply Kd.R_drewN | apply Kd.R_drew)); exact HO285.out) : p := h
theorem u13_7 {p : Prop} (h : p := by (with_reducible repeat (first | apply Kd.R_alloc | apply Kd.R_drewN | apply Kd.R_drew)); exact HO_8.out) : p := h
theorem u13_8 {p : Prop} (h : p := by (with_reducible repeat (first | apply Kd.R_alloc | apply Kd.R_drewN | apply Kd.R_drew)); exact HO296.out) : p := h
theorem u13_9 {p : Prop} (h : p := by (try simp only [List.map_toArray, List.map_cons, List.map_nil]); first | done | (rw [show t322.length = t309.length from (Kd.R_reads' HO_9.out).1.symm] <;> rfl) | rfl | (simp only [List.length_drop, List.length_take]; rfl)) : p := h
theorem u13_10 {p : Prop} (h : p := by (with_reducible repeat (first | apply Kd.R_alloc | apply Kd.R_drewN | apply Kd.R_drew)); exact HO326.out) : p := h
theorem u13_11 {p : Prop} (h : p := by (with_reducible repeat (first | apply Kd.R_alloc | apply Kd.R_drewN | apply Kd.R_drew)); exact HO300.out) : p := h
theorem u13_12 {p : Prop} (h : p := by (with_reducible repeat (first | apply Kd.R_alloc | apply Kd.R_drewN | apply Kd.R_drew)); exact HO316.out) : p := h
theorem u13_13 {p : Prop} (h : p := by first | rfl | (simp; done) | (simp [*]; done)) : p := h
mutual
def laws_FnExactAddDevice.j0 : Nat → List (S25) → List (S30) → Bool → List (S30) → List (S30) → Bool → Bool → ByteArray → Int → ByteArray → Int → Int → Int → Int → Int → Option (Bool)
 | 0, _, _, _, _, _, _, _, _, _, _, _, _, _, _, _ => none
 | k + 1, x0, x6, x7, x8, x9, x10, x51, x281000, x281001, x281002, x281003, x281004, x281005, x281006, x281007 => if x51 = true then (some false) else ((laws_toDeviceS.f k x0).bind fun t314 => ((laws_eqDeviceS.f k x8 t314).bind fun t317 => (if t317 = true then ((laws_markDeviceS.f k x8 1).bind fun bt318 => (if bt318.1 < 0 then (laws_FnExactAddDevice.j1 k x0 x6 x7 x9 true x281000 x281001 x281002 x281003 x281004 x281005 x281006 x281007) else ((laws_eqDeviceS.f k x9 x6).bind fun t320 => (if t320 = true then (laws_FnExactAddDevice.j1 k x0 x6 x7 x9 (x10 != x7) x281000 x281001 x281002 x281003 x281004 x281005 x281006 x281007) else (laws_FnExactAddDevice.j1 k x0 x6 x7 x9 true x281000 x281001 x281002 x281003 x281004 x281005 x281006 x281007))))) else (some false))))
def laws_FnExactAddDevice.j1 : Nat → List (S25) → List (S30) → Bool → List (S30) → Bool → ByteArray → Int → ByteArray → Int → Int → Int → Int → Int → Option (Bool)
 | 0, _, _, _, _, _, _, _, _, _, _, _, _, _ => none
 | k + 1, x0, x6, x7, x9, x72, x281000, x281001, x281002, x281003, x281004, x281005, x281006, x281007 => if x72 = true then (some false) else ((laws_markDeviceS.f k x9 1).bind fun bt321 => ((laws_heldDeviceS.f k bt321.2 1).bind fun t323 => (if t323 < 0 then (some false) else (if t323 = bt321.1 then ((laws_toDeviceS.f k x0).bind fun t324 => ((laws_toDevice.f x281000 x281001 x281002 x281003 x281004 x281005 x281006 x281007).bind fun bt327 => ((impl_AddDevice.f k t324 bt327.1 bt327.2.1 bt327.2.2.1 bt327.2.2.2.1 bt327.2.2.2.2.1 bt327.2.2.2.2.2.1 bt327.2.2.2.2.2.2.1 bt327.2.2.2.2.2.2.2).bind fun bt335 => ((laws_eqDeviceS.f k bt335.1 x6).bind fun t339 => (if t339 = true then (laws_FnExactAddDevice.j2 k bt321.2 bt321.1 (bt335.2 != x7)) else (laws_FnExactAddDevice.j2 k bt321.2 bt321.1 true)))))) else (some false)))))
def laws_FnExactAddDevice.j2 : Nat → List (S30) → Int → Bool → Option (Bool)
 | 0, _, _, _ => none
 | k + 1, x9, x12, x100 => if x100 = true then (some false) else ((laws_heldDeviceS.f k x9 1).bind fun t340 => (if t340 < 0 then (some false) else (if t340 = x12 then (some true) else (some false))))
end
def laws_FnExactAddDevice.f (k : Nat) (l0 : List (S25)) (a1_0 : ByteArray) (a1_1 : Int) (a1_2 : ByteArray) (a1_3 : Int) (a1_4 : Int) (a1_5 : Int) (a1_6 : Int) (a1_7 : Int) : Option (Bool) := (laws_szDeviceS.f k l0 1048576).bind fun t281 => (if t281 < 0 then (some true) else ((laws_szDevice.f a1_0 a1_1 a1_2 a1_3 a1_4 a1_5 a1_6 a1_7 t281).bind fun t282 => (if t282 < 0 then (some true) else ((laws_toDeviceS.f k l0).bind fun t283 => ((laws_toDevice.f a1_0 a1_1 a1_2 a1_3 a1_4 a1_5 a1_6 a1_7).bind fun bt286 => ((spec_AddDevice.f k t283 bt286.1 bt286.2.1 bt286.2.2.1 bt286.2.2.2.1 bt286.2.2.2.2.1 bt286.2.2.2.2.2.1 bt286.2.2.2.2.2.2.1 bt286.2.2.2.2.2.2.2).bind fun bt294 => ((laws_toDeviceS.f k l0).bind fun t298 => ((laws_toDevice.f a1_0 a1_1 a1_2 a1_3 a1_4 a1_5 a1_6 a1_7).bind fun bt301 => ((impl_AddDevice.f k t298 bt301.1 bt301.2.1 bt301.2.2.1 bt301.2.2.2.1 bt301.2.2.2.2.1 bt301.2.2.2.2.2.1 bt301.2.2.2.2.2.2.1 bt301.2.2.2.2.2.2.2).bind fun bt309 => ((laws_eqDeviceS.f k bt309.1 bt294.1).bind fun t313 => (if t313 = true then (laws_FnExactAddDevice.j0 k l0 bt294.1 bt294.2 t298 bt309.1 bt309.2 (bt309.2 != bt294.2) a1_0 a1_1 a1_2 a1_3 a1_4 a1_5 a1_6 a1_7) else (laws_FnExactAddDevice.j0 k l0 bt294.1 bt294.2 t298 bt309.1 bt309.2 true a1_0 a1_1 a1_2 a1_3 a1_4 a1_5 a1_6 a1_7))))))))))))
theorem laws_FnExactAddDevice.mono_l : ∀ k, (∀ y0 y1 y2 y3 y4 y5 y6 y7 y8 y9 y10 y11 y12 y13 y14, LeO (laws_FnExactAddDevice.j0 k y0 y1 y2 y3 y4 y5 y6 y7 y8 y9 y10 y11 y12 y13 y14) (laws_FnExactAddDevice.j0 (k + 1) y0 y1 y2 y3 y4 y5 y6 y7 y8 y9 y10 y11 y12 y13 y14)) ∧ (∀ y0 y1 y2 y3 y4 y5 y6 y7 y8 y9 y10 y11 y12, LeO (laws_FnExactAddDevice.j1 k y0 y1 y2 y3 y4 y5 y6 y7 y8 y9 y10 y11 y12) (laws_FnExactAddDevice.j1 (k + 1) y0 y1 y2 y3 y4 y5 y6 y7 y8 y9 y10 y11 y12)) ∧ (∀ y0 y1 y2, LeO (laws_FnExactAddDevice.j2 k y0 y1 y2) (laws_FnExactAddDevice.j2 (k + 1) y0 y1 y2))
 | 0 => ⟨fun _ _ _ _ _ _ _ _ _ _ _ _ _ _ _ r h => by simp [laws_FnExactAddDevice.j0] at h, fun _ _ _ _ _ _ _ _ _ _ _ _ _ r h => by simp [laws_FnExactAddDevice.j1] at h, fun _ _ _ r h => by simp [laws_FnExactAddDevice.j2] at h⟩
 | k + 1 => by
  obtain ⟨ih0, ih1, ih2⟩ := laws_FnExactAddDevice.mono_l k
  refine ⟨?_, ?_, ?_⟩
  ·intro y0 y1 y2 y3 y4 y5 y6 y7 y8 y9 y10 y11 y12 y13 y14
   unfold laws_FnExactAddDevice.j0
   repeat' first
   | (with_reducible exact ih0 _ _ _ _ _ _ _ _ _ _ _ _ _ _ _)
   | (with_reducible exact ih1 _ _ _ _ _ _ _ _ _ _ _ _ _)
   | (with_reducible exact ih2 _ _ _)
   | (with_reducible exact impl_AddDevice.mono _ _ _ _ _ _ _ _ _ _)
   | (with_reducible exact laws_eqDeviceS.mono _ _ _)
   | (with_reducible exact laws_heldDeviceS.mono _ _ _)
   | (with_reducible exact laws_markDeviceS.mono _ _ _)
   | (with_reducible exact laws_szDeviceS.mono _ _ _)
   | (with_reducible exact laws_toDeviceS.mono _ _)
   | (with_reducible exact spec_AddDevice.mono _ _ _ _ _ _ _ _ _ _)
   | (with_reducible exact LeO.refl _)
   | (with_reducible exact LeO.none _)
   | (with_reducible refine LeO.ite ?_ ?_)
   | (with_reducible refine LeO.bind ?_ (fun _ => ?_))
  ·intro y0 y1 y2 y3 y4 y5 y6 y7 y8 y9 y10 y11 y12
   unfold laws_FnExactAddDevice.j1
   repeat' first
   | (with_reducible exact ih0 _ _ _ _ _ _ _ _ _ _ _ _ _ _ _)
   | (with_reducible exact ih1 _ _ _ _ _ _ _ _ _ _ _ _ _)
   | (with_reducible exact ih2 _ _ _)
   | (with_reducible exact impl_AddDevice.mono _ _ _ _ _ _ _ _ _ _)
   | (with_reducible exact laws_eqDeviceS.mono _ _ _)
   | (with_reducible exact laws_heldDeviceS.mono _ _ _)
   | (with_reducible exact laws_markDeviceS.mono _ _ _)
   | (with_reducible exact laws_szDeviceS.mono _ _ _)
   | (with_reducible exact laws_toDeviceS.mono _ _)
   | (with_reducible exact spec_AddDevice.mono _ _ _ _ _ _ _ _ _ _)
   | (with_reducible exact LeO.refl _)
   | (with_reducible exact LeO.none _)
   | (with_reducible refine LeO.ite ?_ ?_)
   | (with_reducible refine LeO.bind ?_ (fun _ => ?_))
  ·intro y0 y1 y2
   unfold laws_FnExactAddDevice.j2
   repeat' first
   | (with_reducible exact ih0 _ _ _ _ _ _ _ _ _ _ _ _ _ _ _)
   | (with_reducible exact ih1 _ _ _ _ _ _ _ _ _ _ _ _ _)
   | (with_reducible exact ih2 _ _ _)
   | (with_reducible exact impl_AddDevice.mono _ _ _ _ _ _ _ _ _ _)
   | (with_reducible exact laws_eqDeviceS.mono _ _ _)
   | (with_reducible exact laws_heldDeviceS.mono _ _ _)
   | (with_reducible exact laws_markDeviceS.mono _ _ _)
   | (with_reducible exact laws_szDeviceS.mono _ _ _)
   | (with_reducible exact laws_toDeviceS.mono _ _)
   | (with_reducible exact spec_AddDevice.mono _ _ _ _ _ _ _ _ _ _)
   | (with_reducible exact LeO.refl _)
   | (with_reducible exact LeO.none _)
   | (with_reducible refine LeO.ite ?_ ?_)
   | (with_reducible refine LeO.bind ?_ (fun _ => ?_))
theorem laws_FnExactAddDevice.mono : ∀ a0 a1 a2 a3 a4 a5 a6 a7 a8 k, LeO (laws_FnExactAddDevice.f k a0 a1 a2 a3 a4 a5 a6 a7 a8) (laws_FnExactAddDevice.f (k + 1) a0 a1 a2 a3 a4 a5 a6 a7 a8) := by
 intro a0 a1 a2 a3 a4 a5 a6 a7 a8 k
 obtain ⟨ih0, ih1, ih2⟩ := laws_FnExactAddDevice.mono_l k
 unfold laws_FnExactAddDevice.f
 repeat' first
   | (with_reducible exact ih0 _ _ _ _ _ _ _ _ _ _ _ _ _ _ _)
   | (with_reducible exact ih1 _ _ _ _ _ _ _ _ _ _ _ _ _)
   | (with_reducible exact ih2 _ _ _)
   | (with_reducible exact impl_AddDevice.mono _ _ _ _ _ _ _ _ _ _)
   | (with_reducible exact laws_eqDeviceS.mono _ _ _)
   | (with_reducible exact laws_heldDeviceS.mono _ _ _)
   | (with_reducible exact laws_markDeviceS.mono _ _ _)
   | (with_reducible exact laws_szDeviceS.mono _ _ _)
   | (with_reducible exact laws_toDeviceS.mono _ _)
   | (with_reducible exact spec_AddDevice.mono _ _ _ _ _ _ _ _ _ _)
   | (with_reducible exact LeO.refl _)
   | (with_reducible exact LeO.none _)
   | (with_reducible refine LeO.ite ?_ ?_)
   | (with_reducible refine LeO.bind ?_ (fun _ => ?_))
def laws_FnExactAddDevice.T8 : Bool × List (List Nat × List Nat) := (true, [([], []), ([0], [0]), ([], []), ([2, 1], [2]), ([1, 3, 3], [1, 3]), ([4], [4]), ([5], [5]), ([5], [5]), ([6, 4, 0, 1, 2, 3, 4, 5, 6], [6]), ([7, 8, 0, 1, 2, 3, 4, 5, 6, 7, 8], [7])])
def laws_FnExactAddDevice.B8 : List Nat := [0, 1, 0, 7, 15, 31, 63, 63, 127, 511]
theorem laws_FnExactAddDevice.tab8 : rtab .any (opsOf Try.f13 8) = laws_FnExactAddDevice.T8 := by kernel_rfl
theorem laws_FnExactAddDevice.bits8 : waitsOk laws_FnExactAddDevice.T8.2 laws_FnExactAddDevice.B8 = true := by kernel_rfl
def laws_FnExactAddDevice.T27 : Bool × List (List Nat × List Nat) := (true, [([], []), ([0], [0]), ([], []), ([2, 1], [2]), ([1, 3, 3], [1, 3]), ([4], [4]), ([5], [5]), ([5], [5]), ([6, 4, 0, 1, 2, 3, 4, 5, 6], [6]), ([7, 8, 0, 1, 2, 3, 4, 5, 6, 7, 8], [7])])
def laws_FnExactAddDevice.B27 : List Nat := [0, 1, 0, 7, 15, 31, 63, 63, 127, 511]
theorem laws_FnExactAddDevice.tab27 : rtab .any (opsOf Try.f13 27) = laws_FnExactAddDevice.T27 := by kernel_rfl
theorem laws_FnExactAddDevice.bits27 : waitsOk laws_FnExactAddDevice.T27.2 laws_FnExactAddDevice.B27 = true := by kernel_rfl
set_option maxHeartbeats 8000000 in
set_option maxRecDepth 100000 in
theorem laws_FnExactAddDevice.calls (k : Nat) (A0 : Option Addr) (c0 : Nat) (l0 : List (S25)) (a1_0 : ByteArray) (a1_1 : Int) (a1_2 : ByteArray) (a1_3 : Int) (a1_4 : Int) (a1_5 : Int) (a1_6 : Int) (a1_7 : Int) (r : Bool) (w : World) (hr0 : Kd.C k25 w A0 l0.length l0) (hc0 : l0.length ≤ c0) (h : laws_FnExactAddDevice.f k l0 a1_0 a1_1 a1_2 a1_3 a1_4 a1_5 a1_6 a1_7 = some r) :
  Calls Try.prog 13 #[.slice A0 l0.length c0, .agg #[.string a1_0, .int .i64 a1_1, .string a1_2, .int .i64 a1_3, .int .i64 a1_4, .int .i64 a1_5, .int .i64 a1_6, .int .i64 a1_7]] w fun e w' => e = .returned (.bool r) ∧ Below w.heap.size w w' := by
 have hu25 := Try.underlying25
 have HR0 := Aside0.mk hr0
 have HC0 := Aside0.mk hc0
 clear hr0 hc0
 have HB := Aside0.mk (Below.refl w.heap.size w)
 have H : ((laws_szDeviceS.f k l0 1048576).bind fun t281 => (if t281 < 0 then (some true) else ((laws_szDevice.f a1_0 a1_1 a1_2 a1_3 a1_4 a1_5 a1_6 a1_7 t281).bind fun t282 => (if t282 < 0 then (some true) else ((laws_toDeviceS.f k l0).bind fun t283 => ((laws_toDevice.f a1_0 a1_1 a1_2 a1_3 a1_4 a1_5 a1_6 a1_7).bind fun bt286 => ((spec_AddDevice.f k t283 bt286.1 bt286.2.1 bt286.2.2.1 bt286.2.2.2.1 bt286.2.2.2.2.1 bt286.2.2.2.2.2.1 bt286.2.2.2.2.2.2.1 bt286.2.2.2.2.2.2.2).bind fun bt294 => ((laws_toDeviceS.f k l0).bind fun t298 => ((laws_toDevice.f a1_0 a1_1 a1_2 a1_3 a1_4 a1_5 a1_6 a1_7).bind fun bt301 => ((impl_AddDevice.f k t298 bt301.1 bt301.2.1 bt301.2.2.1 bt301.2.2.2.1 bt301.2.2.2.2.1 bt301.2.2.2.2.2.1 bt301.2.2.2.2.2.2.1 bt301.2.2.2.2.2.2.2).bind fun bt309 => ((laws_eqDeviceS.f k bt309.1 bt294.1).bind fun t313 => (if t313 = true then (laws_FnExactAddDevice.j0 k l0 bt294.1 bt294.2 t298 bt309.1 bt309.2 (bt309.2 != bt294.2) a1_0 a1_1 a1_2 a1_3 a1_4 a1_5 a1_6 a1_7) else (laws_FnExactAddDevice.j0 k l0 bt294.1 bt294.2 t298 bt309.1 bt309.2 true a1_0 a1_1 a1_2 a1_3 a1_4 a1_5 a1_6 a1_7))))))))))))) = some r := h
 clear h
 replace H := Option.bind_eq_some_iff.mp H
 obtain ⟨t281, A30, H⟩ := H
 replace H : (if t281 < 0 then (some true) else ((laws_szDevice.f a1_0 a1_1 a1_2 a1_3 a1_4 a1_5 a1_6 a1_7 t281).bind fun t282 => (if t282 < 0 then (some true) else ((laws_toDeviceS.f k l0).bind fun t283 => ((laws_toDevice.f a1_0 a1_1 a1_2 a1_3 a1_4 a1_5 a1_6 a1_7).bind fun bt286 => ((spec_AddDevice.f k t283 bt286.1 bt286.2.1 bt286.2.2.1 bt286.2.2.2.1 bt286.2.2.2.2.1 bt286.2.2.2.2.2.1 bt286.2.2.2.2.2.2.1 bt286.2.2.2.2.2.2.2).bind fun bt294 => ((laws_toDeviceS.f k l0).bind fun t298 => ((laws_toDevice.f a1_0 a1_1 a1_2 a1_3 a1_4 a1_5 a1_6 a1_7).bind fun bt301 => ((impl_AddDevice.f k t298 bt301.1 bt301.2.1 bt301.2.2.1 bt301.2.2.2.1 bt301.2.2.2.2.1 bt301.2.2.2.2.2.1 bt301.2.2.2.2.2.2.1 bt301.2.2.2.2.2.2.2).bind fun bt309 => ((laws_eqDeviceS.f k bt309.1 bt294.1).bind fun t313 => (if t313 = true then (laws_FnExactAddDevice.j0 k l0 bt294.1 bt294.2 t298 bt309.1 bt309.2 (bt309.2 != bt294.2) a1_0 a1_1 a1_2 a1_3 a1_4 a1_5 a1_6 a1_7) else (laws_FnExactAddDevice.j0 k l0 bt294.1 bt294.2 t298 bt309.1 bt309.2 true a1_0 a1_1 a1_2 a1_3 a1_4 a1_5 a1_6 a1_7)))))))))))) = some r := H
 have A3 := Aside0.mk A30
 clear A30
 by_cases c4 : t281 < 0
 ·rw [if_pos c4] at H
  have c4b0 : decide (t281 < 0) = true := decide_eq_true c4
  clear c4
  obtain rfl := Option.some.inj H
  go_enter Try.func13, Try.ntmps13
  go_wp2_with (first | ((with_reducible refine gate_dst (N := 3) rfl ?_); refine box_event ?hg (N := 3) ?hd (cs := #[.string a1_0, .int .i64 a1_1, .string a1_2, .int .i64 a1_3, .int .i64 a1_4, .int .i64 a1_5, .int .i64 a1_6, .int .i64 a1_7]) (t := 25) ?hr ?_; (case hd => rfl); (case hg => rfl); (case hr => first | (go_simp; done) | (go_simp; rfl)); intro gb280 hg w5 hbox hb; have n0_ := Aside0.mk (below_step u13_5 hb); have n1_ := Aside0.mk (hbox); have n2_ := Aside0.mk ((by rw [hg]; exact (below_size u13_5) : w.heap.size ≤ gb280)); have n3_ := Aside0.mk ((by rw [hg]; exact (below_size u13_5) : w.heap.size ≤ gb280)); clear HB; have HB := n0_; have BK280 := n1_; have GW280 := n2_; have GE280 := n3_; clear n0_ n1_ n2_ n3_; clear hb hbox hg) | ((with_reducible refine gate_callee (f := 19) rfl ?_); refine goesL_ (some 18) rfl rfl Try.func19 (by kernel_rfl) rfl #[.slice A0 l0.length c0, .int .i64 1048576] rfl u13_2 ?_; (with_reducible refine (laws_szDeviceS.calls k _ _ l0 1048576 t281 _ ?side1 ?side2 A3.out).mono ?_); (case side1 => exact y13_0); (case side2 => exact HC0.out); rintro e w6 ⟨rfl, hb⟩; refine ⟨_, rfl, ?_⟩; have n0_ := Aside0.mk (blk_below (g := gb280) (o := .cells #[.string a1_0, .int .i64 a1_1, .string a1_2, .int .i64 a1_3, .int .i64 a1_4, .int .i64 a1_5, .int .i64 a1_6, .int .i64 a1_7] 25 (0, 0)) u13_1 hb); have n1_ := Aside0.mk (below_step u13_0 hb); clear BK280; clear HB; have BK280 := n0_; have HB := n1_; clear n0_ n1_; (try clear hb); (try clear hb2); (try clear hk); (try clear hi)))
  go_ret
  exact ⟨by first | rfl | (simp [*] <;> rfl), by repeat (first | (with_reducible first | exact HB.out | apply below_alloc | apply pw_below_drewN | apply below_drew1 | refine below_set ?_ GE280.out) | exact HB.out)⟩
 ·rw [if_neg c4] at H
  have c4b0 : decide (t281 < 0) = false := decide_eq_false c4
  clear c4
  replace H := Option.bind_eq_some_iff.mp H
  obtain ⟨t282, A70, H⟩ := H
  replace H : (if t282 < 0 then (some true) else ((laws_toDeviceS.f k l0).bind fun t283 => ((laws_toDevice.f a1_0 a1_1 a1_2 a1_3 a1_4 a1_5 a1_6 a1_7).bind fun bt286 => ((spec_AddDevice.f k t283 bt286.1 bt286.2.1 bt286.2.2.1 bt286.2.2.2.1 bt286.2.2.2.2.1 bt286.2.2.2.2.2.1 bt286.2.2.2.2.2.2.1 bt286.2.2.2.2.2.2.2).bind fun bt294 => ((laws_toDeviceS.f k l0).bind fun t298 => ((laws_toDevice.f a1_0 a1_1 a1_2 a1_3 a1_4 a1_5 a1_6 a1_7).bind fun bt301 => ((impl_AddDevice.f k t298 bt301.1 bt301.2.1 bt301.2.2.1 bt301.2.2.2.1 bt301.2.2.2.2.1 bt301.2.2.2.2.2.1 bt301.2.2.2.2.2.2.1 bt301.2.2.2.2.2.2.2).bind fun bt309 => ((laws_eqDeviceS.f k bt309.1 bt294.1).bind fun t313 => (if t313 = true then (laws_FnExactAddDevice.j0 k l0 bt294.1 bt294.2 t298 bt309.1 bt309.2 (bt309.2 != bt294.2) a1_0 a1_1 a1_2 a1_3 a1_4 a1_5 a1_6 a1_7) else (laws_FnExactAddDevice.j0 k l0 bt294.1 bt294.2 t298 bt309.1 bt309.2 true a1_0 a1_1 a1_2 a1_3 a1_4 a1_5 a1_6 a1_7)))))))))) = some r := H
  have A7 := Aside0.mk A70
  clear A70
  by_cases c8 : t282 < 0
  ·rw [if_pos c8] at H
   have c8b0 : decide (t282 < 0) = true := decide_eq_true c8
   clear c8
   obtain rfl := Option.some.inj H
   go_enter Try.func13, Try.ntmps13
   go_wp2_with (first | ((with_reducible refine gate_dst (N := 3) rfl ?_); refine box_event ?hg (N := 3) ?hd (cs := #[.string a1_0, .int .i64 a1_1, .string a1_2, .int .i64 a1_3, .int .i64 a1_4, .int .i64 a1_5, .int .i64 a1_6, .int .i64 a1_7]) (t := 25) ?hr ?_; (case hd => rfl); (case hg => rfl); (case hr => first | (go_simp; done) | (go_simp; rfl)); intro gb280 hg w9 hbox hb; have n0_ := Aside0.mk (below_step u13_5 hb); have n1_ := Aside0.mk (hbox); have n2_ := Aside0.mk ((by rw [hg]; exact (below_size u13_5) : w.heap.size ≤ gb280)); have n3_ := Aside0.mk ((by rw [hg]; exact (below_size u13_5) : w.heap.size ≤ gb280)); clear HB; have HB := n0_; have BK280 := n1_; have GW280 := n2_; have GE280 := n3_; clear n0_ n1_ n2_ n3_; clear hb hbox hg) | ((with_reducible refine gate_callee (f := 19) rfl ?_); refine goesL_ (some 18) rfl rfl Try.func19 (by kernel_rfl) rfl #[.slice A0 l0.length c0, .int .i64 1048576] rfl u13_2 ?_; (with_reducible refine (laws_szDeviceS.calls k _ _ l0 1048576 t281 _ ?side1 ?side2 A3.out).mono ?_); (case side1 => exact y13_0); (case side2 => exact HC0.out); rintro e w10 ⟨rfl, hb⟩; refine ⟨_, rfl, ?_⟩; have n0_ := Aside0.mk (blk_below (g := gb280) (o := .cells #[.string a1_0, .int .i64 a1_1, .string a1_2, .int .i64 a1_3, .int .i64 a1_4, .int .i64 a1_5, .int .i64 a1_6, .int .i64 a1_7] 25 (0, 0)) u13_1 hb); have n1_ := Aside0.mk (below_step u13_0 hb); clear BK280; clear HB; have BK280 := n0_; have HB := n1_; clear n0_ n1_; (try clear hb); (try clear hb2); (try clear hk); (try clear hi); have hcz11_0 : w10.cell? ⟨gb280, 0, none⟩ = some (.string a1_0) := (blk_cell BK280.out 0).trans rfl; have hcz11_1 : w10.cell? ⟨gb280, 1, none⟩ = some (.int .i64 a1_1) := (blk_cell BK280.out 1).trans rfl; have hcz11_2 : w10.cell? ⟨gb280, 2, none⟩ = some (.string a1_2) := (blk_cell BK280.out 2).trans rfl; have hcz11_3 : w10.cell? ⟨gb280, 3, none⟩ = some (.int .i64 a1_3) := (blk_cell BK280.out 3).trans rfl; have hcz11_4 : w10.cell? ⟨gb280, 4, none⟩ = some (.int .i64 a1_4) := (blk_cell BK280.out 4).trans rfl; have hcz11_5 : w10.cell? ⟨gb280, 5, none⟩ = some (.int .i64 a1_5) := (blk_cell BK280.out 5).trans rfl; have hcz11_6 : w10.cell? ⟨gb280, 6, none⟩ = some (.int .i64 a1_6) := (blk_cell BK280.out 6).trans rfl; have hcz11_7 : w10.cell? ⟨gb280, 7, none⟩ = some (.int .i64 a1_7) := (blk_cell BK280.out 7).trans rfl; have hfz11_0 := blk_frozen BK280.out 0; have hfz11_1 := blk_frozen BK280.out 1; have hfz11_2 := blk_frozen BK280.out 2; have hfz11_3 := blk_frozen BK280.out 3; have hfz11_4 := blk_frozen BK280.out 4; have hfz11_5 := blk_frozen BK280.out 5; have hfz11_6 := blk_frozen BK280.out 6; have hfz11_7 := blk_frozen BK280.out 7) | ((with_reducible refine gate_callee (f := 15) rfl ?_); refine goesL_ (some 23) rfl rfl Try.func15 (by kernel_rfl) rfl #[.agg #[.string a1_0, .int .i64 a1_1, .string a1_2, .int .i64 a1_3, .int .i64 a1_4, .int .i64 a1_5, .int .i64 a1_6, .int .i64 a1_7], .int .i64 t281] rfl u13_2 ?_; (with_reducible refine (laws_szDevice.calls a1_0 a1_1 a1_2 a1_3 a1_4 a1_5 a1_6 a1_7 t281 t282 _ A7.out).mono ?_); rintro e w12 ⟨rfl, hb⟩; refine ⟨_, rfl, ?_⟩; have n0_ := Aside0.mk (blk_below (g := gb280) (o := .cells #[.string a1_0, .int .i64 a1_1, .string a1_2, .int .i64 a1_3, .int .i64 a1_4, .int .i64 a1_5, .int .i64 a1_6, .int .i64 a1_7] 25 (0, 0)) u13_1 hb); have n1_ := Aside0.mk (below_step u13_0 hb); clear BK280; clear HB; have BK280 := n0_; have HB := n1_; clear n0_ n1_; (try clear hb); (try clear hb2); (try clear hk); (try clear hi)))
   go_ret
   exact ⟨by first | rfl | (simp [*] <;> rfl), by repeat (first | (with_reducible first | exact HB.out | apply below_alloc | apply pw_below_drewN | apply below_drew1 | refine below_set ?_ GE280.out) | exact HB.out)⟩
  ·rw [if_neg c8] at H
   have c8b0 : decide (t282 < 0) = false := decide_eq_false c8
   clear c8
   replace H := Option.bind_eq_some_iff.mp H
   obtain ⟨t283, A130, H⟩ := H
   replace H : ((laws_toDevice.f a1_0 a1_1 a1_2 a1_3 a1_4 a1_5 a1_6 a1_7).bind fun bt286 => ((spec_AddDevice.f k t283 bt286.1 bt286.2.1 bt286.2.2.1 bt286.2.2.2.1 bt286.2.2.2.2.1 bt286.2.2.2.2.2.1 bt286.2.2.2.2.2.2.1 bt286.2.2.2.2.2.2.2).bind fun bt294 => ((laws_toDeviceS.f k l0).bind fun t298 => ((laws_toDevice.f a1_0 a1_1 a1_2 a1_3 a1_4 a1_5 a1_6 a1_7).bind fun bt301 => ((impl_AddDevice.f k t298 bt301.1 bt301.2.1 bt301.2.2.1 bt301.2.2.2.1 bt301.2.2.2.2.1 bt301.2.2.2.2.2.1 bt301.2.2.2.2.2.2.1 bt301.2.2.2.2.2.2.2).bind fun bt309 => ((laws_eqDeviceS.f k bt309.1 bt294.1).bind fun t313 => (if t313 = true then (laws_FnExactAddDevice.j0 k l0 bt294.1 bt294.2 t298 bt309.1 bt309.2 (bt309.2 != bt294.2) a1_0 a1_1 a1_2 a1_3 a1_4 a1_5 a1_6 a1_7) else (laws_FnExactAddDevice.j0 k l0 bt294.1 bt294.2 t298 bt309.1 bt309.2 true a1_0 a1_1 a1_2 a1_3 a1_4 a1_5 a1_6 a1_7)))))))) = some r := H
   have A13 := Aside0.mk A130
   clear A130
   replace H := Option.bind_eq_some_iff.mp H
   obtain ⟨⟨t286, t287, t288, t289, t290, t291, t292, t293⟩, A140, H⟩ := H
   replace H : ((spec_AddDevice.f k t283 t286 t287 t288 t289 t290 t291 t292 t293).bind fun bt294 => ((laws_toDeviceS.f k l0).bind fun t298 => ((laws_toDevice.f a1_0 a1_1 a1_2 a1_3 a1_4 a1_5 a1_6 a1_7).bind fun bt301 => ((impl_AddDevice.f k t298 bt301.1 bt301.2.1 bt301.2.2.1 bt301.2.2.2.1 bt301.2.2.2.2.1 bt301.2.2.2.2.2.1 bt301.2.2.2.2.2.2.1 bt301.2.2.2.2.2.2.2).bind fun bt309 => ((laws_eqDeviceS.f k bt309.1 bt294.1).bind fun t313 => (if t313 = true then (laws_FnExactAddDevice.j0 k l0 bt294.1 bt294.2 t298 bt309.1 bt309.2 (bt309.2 != bt294.2) a1_0 a1_1 a1_2 a1_3 a1_4 a1_5 a1_6 a1_7) else (laws_FnExactAddDevice.j0 k l0 bt294.1 bt294.2 t298 bt309.1 bt309.2 true a1_0 a1_1 a1_2 a1_3 a1_4 a1_5 a1_6 a1_7))))))) = some r := H
   have A14 := Aside0.mk A140
   clear A140
   replace H := Option.bind_eq_some_iff.mp H
   obtain ⟨⟨t294, t297⟩, A150, H⟩ := H
   replace H : ((laws_toDeviceS.f k l0).bind fun t298 => ((laws_toDevice.f a1_0 a1_1 a1_2 a1_3 a1_4 a1_5 a1_6 a1_7).bind fun bt301 => ((impl_AddDevice.f k t298 bt301.1 bt301.2.1 bt301.2.2.1 bt301.2.2.2.1 bt301.2.2.2.2.1 bt301.2.2.2.2.2.1 bt301.2.2.2.2.2.2.1 bt301.2.2.2.2.2.2.2).bind fun bt309 => ((laws_eqDeviceS.f k bt309.1 t294).bind fun t313 => (if t313 = true then (laws_FnExactAddDevice.j0 k l0 t294 t297 t298 bt309.1 bt309.2 (bt309.2 != t297) a1_0 a1_1 a1_2 a1_3 a1_4 a1_5 a1_6 a1_7) else (laws_FnExactAddDevice.j0 k l0 t294 t297 t298 bt309.1 bt309.2 true a1_0 a1_1 a1_2 a1_3 a1_4 a1_5 a1_6 a1_7)))))) = some r := H
   have A15 := Aside0.mk A150
   clear A150
   replace H := Option.bind_eq_some_iff.mp H
   obtain ⟨t298, A160, H⟩ := H
   replace H : ((laws_toDevice.f a1_0 a1_1 a1_2 a1_3 a1_4 a1_5 a1_6 a1_7).bind fun bt301 => ((impl_AddDevice.f k t298 bt301.1 bt301.2.1 bt301.2.2.1 bt301.2.2.2.1 bt301.2.2.2.2.1 bt301.2.2.2.2.2.1 bt301.2.2.2.2.2.2.1 bt301.2.2.2.2.2.2.2).bind fun bt309 => ((laws_eqDeviceS.f k bt309.1 t294).bind fun t313 => (if t313 = true then (laws_FnExactAddDevice.j0 k l0 t294 t297 t298 bt309.1 bt309.2 (bt309.2 != t297) a1_0 a1_1 a1_2 a1_3 a1_4 a1_5 a1_6 a1_7) else (laws_FnExactAddDevice.j0 k l0 t294 t297 t298 bt309.1 bt309.2 true a1_0 a1_1 a1_2 a1_3 a1_4 a1_5 a1_6 a1_7))))) = some r := H
   have A16 := Aside0.mk A160
   clear A160
   replace H := Option.bind_eq_some_iff.mp H
   obtain ⟨⟨t301, t302, t303, t304, t305, t306, t307, t308⟩, A170, H⟩ := H
   replace H : ((impl_AddDevice.f k t298 t301 t302 t303 t304 t305 t306 t307 t308).bind fun bt309 => ((laws_eqDeviceS.f k bt309.1 t294).bind fun t313 => (if t313 = true then (laws_FnExactAddDevice.j0 k l0 t294 t297 t298 bt309.1 bt309.2 (bt309.2 != t297) a1_0 a1_1 a1_2 a1_3 a1_4 a1_5 a1_6 a1_7) else (laws_FnExactAddDevice.j0 k l0 t294 t297 t298 bt309.1 bt309.2 true a1_0 a1_1 a1_2 a1_3 a1_4 a1_5 a1_6 a1_7)))) = some r := H
   have A17 := Aside0.mk A170
   clear A170
   replace H := Option.bind_eq_some_iff.mp H
   obtain ⟨⟨t309, t312⟩, A180, H⟩ := H
   replace H : ((laws_eqDeviceS.f k t309 t294).bind fun t313 => (if t313 = true then (laws_FnExactAddDevice.j0 k l0 t294 t297 t298 t309 t312 (t312 != t297) a1_0 a1_1 a1_2 a1_3 a1_4 a1_5 a1_6 a1_7) else (laws_FnExactAddDevice.j0 k l0 t294 t297 t298 t309 t312 true a1_0 a1_1 a1_2 a1_3 a1_4 a1_5 a1_6 a1_7))) = some r := H
   have A18 := Aside0.mk A180
   clear A180
   have HC19 := Aside0.mk H
   clear H
   go_enter Try.func13, Try.ntmps13
   try go_wp2_with (first | ((with_reducible refine gate_dst (N := 3) rfl ?_); refine box_event ?hg (N := 3) ?hd (cs := #[.string a1_0, .int .i64 a1_1, .string a1_2, .int .i64 a1_3, .int .i64 a1_4, .int .i64 a1_5, .int .i64 a1_6, .int .i64 a1_7]) (t := 25) ?hr ?_; (case hd => rfl); (case hg => rfl); (case hr => first | (go_simp; done) | (go_simp; rfl)); intro gb280 hg w20 hbox hb; have n0_ := Aside0.mk (below_step u13_5 hb); have n1_ := Aside0.mk (hbox); have n2_ := Aside0.mk ((by rw [hg]; exact (below_size u13_5) : w.heap.size ≤ gb280)); have n3_ := Aside0.mk ((by rw [hg]; exact (below_size u13_5) : w.heap.size ≤ gb280)); clear HB; have HB := n0_; have BK280 := n1_; have GW280 := n2_; have GE280 := n3_; clear n0_ n1_ n2_ n3_; clear hb hbox hg) | ((with_reducible refine gate_callee (f := 19) rfl ?_); refine goesL_ (some 18) rfl rfl Try.func19 (by kernel_rfl) rfl #[.slice A0 l0.length c0, .int .i64 1048576] rfl u13_2 ?_; (with_reducible refine (laws_szDeviceS.calls k _ _ l0 1048576 t281 _ ?side1 ?side2 A3.out).mono ?_); (case side1 => exact y13_0); (case side2 => exact HC0.out); rintro e w21 ⟨rfl, hb⟩; refine ⟨_, rfl, ?_⟩; have n0_ := Aside0.mk (blk_below (g := gb280) (o := .cells #[.string a1_0, .int .i64 a1_1, .string a1_2, .int .i64 a1_3, .int .i64 a1_4, .int .i64 a1_5, .int .i64 a1_6, .int .i64 a1_7] 25 (0, 0)) u13_1 hb); have n1_ := Aside0.mk (below_step u13_0 hb); clear BK280; clear HB; have BK280 := n0_; have HB := n1_; clear n0_ n1_; (try clear hb); (try clear hb2); (try clear hk); (try clear hi); have hcz22_0 : w21.cell? ⟨gb280, 0, none⟩ = some (.string a1_0) := (blk_cell BK280.out 0).trans rfl; have hcz22_1 : w21.cell? ⟨gb280, 1, none⟩ = some (.int .i64 a1_1) := (blk_cell BK280.out 1).trans rfl; have hcz22_2 : w21.cell? ⟨gb280, 2, none⟩ = some (.string a1_2) := (blk_cell BK280.out 2).trans rfl; have hcz22_3 : w21.cell? ⟨gb280, 3, none⟩ = some (.int .i64 a1_3) := (blk_cell BK280.out 3).trans rfl; have hcz22_4 : w21.cell? ⟨gb280, 4, none⟩ = some (.int .i64 a1_4) := (blk_cell BK280.out 4).trans rfl; have hcz22_5 : w21.cell? ⟨gb280, 5, none⟩ = some (.int .i64 a1_5) := (blk_cell BK280.out 5).trans rfl; have hcz22_6 : w21.cell? ⟨gb280, 6, none⟩ = some (.int .i64 a1_6) := (blk_cell BK280.out 6).trans rfl; have hcz22_7 : w21.cell? ⟨gb280, 7, none⟩ = some (.int .i64 a1_7) := (blk_cell BK280.out 7).trans rfl; have hfz22_0 := blk_frozen BK280.out 0; have hfz22_1 := blk_frozen BK280.out 1; have hfz22_2 := blk_frozen BK280.out 2; have hfz22_3 := blk_frozen BK280.out 3; have hfz22_4 := blk_frozen BK280.out 4; have hfz22_5 := blk_frozen BK280.out 5; have hfz22_6 := blk_frozen BK280.out 6; have hfz22_7 := blk_frozen BK280.out 7) | ((with_reducible refine gate_callee (f := 15) rfl ?_); refine goesL_ (some 23) rfl rfl Try.func15 (by kernel_rfl) rfl #[.agg #[.string a1_0, .int .i64 a1_1, .string a1_2, .int .i64 a1_3, .int .i64 a1_4, .int .i64 a1_5, .int .i64 a1_6, .int .i64 a1_7], .int .i64 t281] rfl u13_2 ?_; (with_reducible refine (laws_szDevice.calls a1_0 a1_1 a1_2 a1_3 a1_4 a1_5 a1_6 a1_7 t281 t282 _ A7.out).mono ?_); rintro e w23 ⟨rfl, hb⟩; refine ⟨_, rfl, ?_⟩; have n0_ := Aside0.mk (blk_below (g := gb280) (o := .cells #[.string a1_0, .int .i64 a1_1, .string a1_2, .int .i64 a1_3, .int .i64 a1_4, .int .i64 a1_5, .int .i64 a1_6, .int .i64 a1_7] 25 (0, 0)) u13_1 hb); have n1_ := Aside0.mk (below_step u13_0 hb); clear BK280; clear HB; have BK280 := n0_; have HB := n1_; clear n0_ n1_; (try clear hb); (try clear hb2); (try clear hk); (try clear hi)))
   have n0_ := Aside0.mk (blk_drew BK280.out)
   have n1_ := Aside0.mk (below_drew1 HB.out)
   clear BK280
   clear HB
   have BK280 := n0_
   have HB := n1_
   clear n0_ n1_
   refine start_ (n := 10) (S := fun w' => w'.cell? ⟨gb280, 0, none⟩ = some (.string a1_0) ∧ w'.cell? ⟨gb280, 1, none⟩ = some (.int .i64 a1_1) ∧ w'.cell? ⟨gb280, 2, none⟩ = some (.string a1_2) ∧ w'.cell? ⟨gb280, 3, none⟩ = some (.int .i64 a1_3) ∧ w'.cell? ⟨gb280, 4, none⟩ = some (.int .i64 a1_4) ∧ w'.cell? ⟨gb280, 5, none⟩ = some (.int .i64 a1_5) ∧ w'.cell? ⟨gb280, 6, none⟩ = some (.int .i64 a1_6) ∧ w'.cell? ⟨gb280, 7, none⟩ = some (.int .i64 a1_7)) (ds := []) mk13_0 (by kernel_rfl) rfl rfl ⟨(blk_cell BK280.out 0).trans rfl, (blk_cell BK280.out 1).trans rfl, (blk_cell BK280.out 2).trans rfl, (blk_cell BK280.out 3).trans rfl, (blk_cell BK280.out 4).trans rfl, (blk_cell BK280.out 5).trans rfl, (blk_cell BK280.out 6).trans rfl, (blk_cell BK280.out 7).trans rfl⟩ (fun hHeld => ?_); refine with_tabW laws_FnExactAddDevice.tab8 laws_FnExactAddDevice.bits8 (fun HT_ HW_ => ?_)
   generalize w23.drew = w24 at BK280 HB hHeld ⊢
   refine pz 0 27 mk13_1 (any_of HT_.out (by kernel_rfl)) ?_
   refine take_ (i := 2) (N := some 29) (v := ?_) (a' := ?_) mk13_2 rfl rfl (take_ofW HT_.out HW_.out (by kernel_rfl)) (fun _ _ _ h => h) (Or.inl ⟨by rfl, ?_⟩) hHeld ?_ ?_
   rotate_left
   ·rintro w' ⟨s0, s1, s2, s3, s4, s5, s6, s7⟩
    exact gs
   rotate_left
   ·exact ap
   refine one_ (i := 1) (N := some 28) mk13_3 rfl rfl (one_of HT_.out (by kernel_rfl)) (by decide) (fun K hK => ?_)
   refine goes_ Try.func21 (by kernel_rfl) rfl #[.slice A0 l0.length c0] (by rfl) rfl rfl u13_2 ?_
   with_reducible refine (laws_toDeviceS.calls k _ _ l0 t283 _ ?side1 ?side2 A13.out).mono ?_
   (case side1 => exact y13_0)
   (case side2 => exact HC0.out)
   rintro e w25 ⟨v284, rfl, ho0, hb⟩
   refine ⟨_, rfl, ?_⟩
   have n0_ := Aside0.mk (Kd.R_lower ho0 (below_size u13_0))
   have n1_ := Aside0.mk (blk_below (g := gb280) (o := .cells #[.string a1_0, .int .i64 a1_1, .string a1_2, .int .i64 a1_3, .int .i64 a1_4, .int .i64 a1_5, .int .i64 a1_6, .int .i64 a1_7] 25 (0, 0)) u13_1 hb)
   have n2_ := Aside0.mk (below_step u13_0 hb)
   clear BK280
   clear HB
   have HO285 := n0_
   have BK280 := n1_
   have HB := n2_
   clear n0_ n1_ n2_
   (try clear hb)
   (try clear hb2)
   (try clear hk)
   (try clear hi)
   (try clear ho0)
   refine hK.out _ _ ⟨(blk_cell BK280.out 0).trans rfl, (blk_cell BK280.out 1).trans rfl, (blk_cell BK280.out 2).trans rfl, (blk_cell BK280.out 3).trans rfl, (blk_cell BK280.out 4).trans rfl, (blk_cell BK280.out 5).trans rfl, (blk_cell BK280.out 6).trans rfl, (blk_cell BK280.out 7).trans rfl⟩ (fun hHeld => ?_)
   clear hK K
   refine norm_ (a' := ?_) ?_ ?_
   rotate_left
   ·show Act.put _ (some 28) _ = _
    simp only [Act.put, List.setIfInBounds_toArray, List.set_cons_zero, List.set_cons_succ, i64_w, i32_w]
    rfl
   refine one_ (i := 3) (N := some 30) mk13_4 rfl rfl (one_of HT_.out (by kernel_rfl)) (by decide) (fun K hK => ?_)
   refine goes_ Try.func17 (by kernel_rfl) rfl #[.agg #[.string a1_0, .int .i64 a1_1, .string a1_2, .int .i64 a1_3, .int .i64 a1_4, .int .i64 a1_5, .int .i64 a1_6, .int .i64 a1_7]] (by rfl) rfl rfl u13_2 ?_
   with_reducible refine (laws_toDevice.calls a1_0 a1_1 a1_2 a1_3 a1_4 a1_5 a1_6 a1_7 t286 t287 t288 t289 t290 t291 t292 t293 _ A14.out).mono ?_
   rintro e w26 ⟨rfl, hb⟩
   refine ⟨_, rfl, ?_⟩
   have n0_ := Aside0.mk (Kd.R_below u13_6 hb)
   have n1_ := Aside0.mk (blk_below (g := gb280) (o := .cells #[.string a1_0, .int .i64 a1_1, .string a1_2, .int .i64 a1_3, .int .i64 a1_4, .int .i64 a1_5, .int .i64 a1_6, .int .i64 a1_7] 25 (0, 0)) u13_1 hb)
   have n2_ := Aside0.mk (below_step u13_0 hb)
   clear HO285
   clear BK280
   clear HB
   have HO285 := n0_
   have BK280 := n1_
   have HB := n2_
   clear n0_ n1_ n2_
   (try clear hb)
   (try clear hb2)
   (try clear hk)
   (try clear hi)
   obtain ⟨Ao27, co27, eo27⟩ := Kd.R_slice HO285.out
   (first | subst eo27 | (injection eo27 with f1_ f2_ f3_; have f4_ := f1_.symm; have f5_ := f3_.symm; clear f1_ f2_ f3_; subst f4_; subst f5_))
   refine hK.out _ _ ⟨(blk_cell BK280.out 0).trans rfl, (blk_cell BK280.out 1).trans rfl, (blk_cell BK280.out 2).trans rfl, (blk_cell BK280.out 3).trans rfl, (blk_cell BK280.out 4).trans rfl, (blk_cell BK280.out 5).trans rfl, (blk_cell BK280.out 6).trans rfl, (blk_cell BK280.out 7).trans rfl⟩ (fun hHeld => ?_)
   clear hK K
   refine norm_ (a' := ?_) ?_ ?_
   rotate_left
   ·show Act.put _ (some 30) _ = _
    simp only [Act.put, List.setIfInBounds_toArray, List.set_cons_zero, List.set_cons_succ, i64_w, i32_w]
    rfl
   refine one_ (i := 4) (N := some 31) mk13_5 rfl rfl (one_of HT_.out (by kernel_rfl)) (by decide) (fun K hK => ?_)
   refine goes_ Try.func47 (by kernel_rfl) rfl #[.slice Ao27 t283.length co27, .agg #[.string t286, .int .i64 t287, .string t288, .int .i64 t289, .int .i64 t290, .int .i64 t291, .int .i64 t292, .int .i64 t293]] (by rfl) rfl rfl u13_2 ?_
   with_reducible refine (spec_AddDevice.calls k _ _ t283 t286 t287 t288 t289 t290 t291 t292 t293 t294 t297 _ ?side1 ?side2 A15.out).mono ?_
   (case side1 => repeat (first | exact (Kd.R_reads' HO285.out).2.2 | (with_reducible refine Kd.C_alloc ?_ _) | (with_reducible refine Kd.C_drewN ?_ _) | (with_reducible refine Kd.C_drew ?_)))
   (case side2 => exact (Kd.R_reads' HO285.out).2.1)
   rintro e w28 ⟨v295, rfl, ho0, hb⟩
   refine ⟨_, rfl, ?_⟩
   have n0_ := Aside0.mk (Kd.R_elder' u13_6 (Kd.R_base ho0) hb)
   have n1_ := Aside0.mk (Kd.R_lower (Kd.R_new' ho0 (Kd.R_lt u13_6)) (below_size u13_0))
   have n2_ := Aside0.mk (blk_below (g := gb280) (o := .cells #[.string a1_0, .int .i64 a1_1, .string a1_2, .int .i64 a1_3, .int .i64 a1_4, .int .i64 a1_5, .int .i64 a1_6, .int .i64 a1_7] 25 (0, 0)) u13_1 hb)
   have n3_ := Aside0.mk (below_step u13_0 hb)
   clear HO285
   clear BK280
   clear HB
   have HO285 := n0_
   have HO296 := n1_
   have BK280 := n2_
   have HB := n3_
   clear n0_ n1_ n2_ n3_
   (try clear hb)
   (try clear hb2)
   (try clear hk)
   (try clear hi)
   (try clear ho0)
   refine hK.out _ _ ⟨(blk_cell BK280.out 0).trans rfl, (blk_cell BK280.out 1).trans rfl, (blk_cell BK280.out 2).trans rfl, (blk_cell BK280.out 3).trans rfl, (blk_cell BK280.out 4).trans rfl, (blk_cell BK280.out 5).trans rfl, (blk_cell BK280.out 6).trans rfl, (blk_cell BK280.out 7).trans rfl⟩ (fun hHeld => ?_)
   clear hK K
   refine norm_ (a' := ?_) ?_ ?_
   rotate_left
   ·show Act.put _ (some 31) _ = _
    simp only [Act.put, List.setIfInBounds_toArray, List.set_cons_zero, List.set_cons_succ, i64_w, i32_w]
    rfl
   refine pz 5 26 mk13_6 (any_of HT_.out (by kernel_rfl)) ?_
   refine pz 6 32 mk13_7 (any_of HT_.out (by kernel_rfl)) ?_
   refine pz 7 33 mk13_8 (any_of HT_.out (by kernel_rfl)) ?_
   refine pz 8 6 mk13_9 (any_of HT_.out (by kernel_rfl)) ?_
   refine pz 9 7 mk13_10 (any_of HT_.out (by kernel_rfl)) ?_
   refine done_ (done_of HT_.out (by kernel_rfl)) ?_
   go_upto_region 11 with (first | ((with_reducible refine gate_callee (f := 21) rfl ?_); refine goesL_ (some 35) rfl rfl Try.func21 (by kernel_rfl) rfl #[.slice A0 l0.length c0] rfl u13_2 ?_; (with_reducible refine (laws_toDeviceS.calls k _ _ l0 t298 _ ?side1 ?side2 A16.out).mono ?_); (case side1 => exact y13_0); (case side2 => exact HC0.out); rintro e w29 ⟨v299, rfl, ho0, hb⟩; refine ⟨_, rfl, ?_⟩; have n0_ := Aside0.mk (Kd.R_elder' u13_6 (Kd.R_base ho0) hb); have n1_ := Aside0.mk (Kd.R_elder' u13_8 (Kd.R_base ho0) hb); have n2_ := Aside0.mk (Kd.R_lower (Kd.R_new' (Kd.R_new' ho0 (Kd.R_lt u13_6)) (Kd.R_lt u13_8)) (below_size u13_0)); have n3_ := Aside0.mk (blk_below (g := gb280) (o := .cells #[.string a1_0, .int .i64 a1_1, .string a1_2, .int .i64 a1_3, .int .i64 a1_4, .int .i64 a1_5, .int .i64 a1_6, .int .i64 a1_7] 25 (0, 0)) u13_1 hb); have n4_ := Aside0.mk (below_step u13_0 hb); clear HO285; clear HO296; clear BK280; clear HB; have HO285 := n0_; have HO296 := n1_; have HO300 := n2_; have BK280 := n3_; have HB := n4_; clear n0_ n1_ n2_ n3_ n4_; (try clear hb); (try clear hb2); (try clear hk); (try clear hi); (try clear ho0); have hcz30_0 : w29.cell? ⟨gb280, 0, none⟩ = some (.string a1_0) := (blk_cell BK280.out 0).trans rfl; have hcz30_1 : w29.cell? ⟨gb280, 1, none⟩ = some (.int .i64 a1_1) := (blk_cell BK280.out 1).trans rfl; have hcz30_2 : w29.cell? ⟨gb280, 2, none⟩ = some (.string a1_2) := (blk_cell BK280.out 2).trans rfl; have hcz30_3 : w29.cell? ⟨gb280, 3, none⟩ = some (.int .i64 a1_3) := (blk_cell BK280.out 3).trans rfl; have hcz30_4 : w29.cell? ⟨gb280, 4, none⟩ = some (.int .i64 a1_4) := (blk_cell BK280.out 4).trans rfl; have hcz30_5 : w29.cell? ⟨gb280, 5, none⟩ = some (.int .i64 a1_5) := (blk_cell BK280.out 5).trans rfl; have hcz30_6 : w29.cell? ⟨gb280, 6, none⟩ = some (.int .i64 a1_6) := (blk_cell BK280.out 6).trans rfl; have hcz30_7 : w29.cell? ⟨gb280, 7, none⟩ = some (.int .i64 a1_7) := (blk_cell BK280.out 7).trans rfl; have hfz30_0 := blk_frozen BK280.out 0; have hfz30_1 := blk_frozen BK280.out 1; have hfz30_2 := blk_frozen BK280.out 2; have hfz30_3 := blk_frozen BK280.out 3; have hfz30_4 := blk_frozen BK280.out 4; have hfz30_5 := blk_frozen BK280.out 5; have hfz30_6 := blk_frozen BK280.out 6; have hfz30_7 := blk_frozen BK280.out 7) | ((with_reducible refine gate_callee (f := 17) rfl ?_); refine goesL_ (some 39) rfl rfl Try.func17 (by kernel_rfl) rfl #[.agg #[.string a1_0, .int .i64 a1_1, .string a1_2, .int .i64 a1_3, .int .i64 a1_4, .int .i64 a1_5, .int .i64 a1_6, .int .i64 a1_7]] rfl u13_2 ?_; (with_reducible refine (laws_toDevice.calls a1_0 a1_1 a1_2 a1_3 a1_4 a1_5 a1_6 a1_7 t301 t302 t303 t304 t305 t306 t307 t308 _ A17.out).mono ?_); rintro e w31 ⟨rfl, hb⟩; refine ⟨_, rfl, ?_⟩; have n0_ := Aside0.mk (Kd.R_below u13_6 hb); have n1_ := Aside0.mk (Kd.R_below u13_8 hb); have n2_ := Aside0.mk (Kd.R_below u13_11 hb); have n3_ := Aside0.mk (blk_below (g := gb280) (o := .cells #[.string a1_0, .int .i64 a1_1, .string a1_2, .int .i64 a1_3, .int .i64 a1_4, .int .i64 a1_5, .int .i64 a1_6, .int .i64 a1_7] 25 (0, 0)) u13_1 hb); have n4_ := Aside0.mk (below_step u13_0 hb); clear HO285; clear HO296; clear HO300; clear BK280; clear HB; have HO285 := n0_; have HO296 := n1_; have HO300 := n2_; have BK280 := n3_; have HB := n4_; clear n0_ n1_ n2_ n3_ n4_; (try clear hb); (try clear hb2); (try clear hk); (try clear hi); obtain ⟨Ao32, co32, eo32⟩ := Kd.R_slice HO300.out; subst eo32) | ((with_reducible refine gate_callee (f := 48) rfl ?_); refine goesL_ (some 40) rfl rfl Try.func48 (by kernel_rfl) rfl #[.slice Ao32 t298.length co32, .agg #[.string t301, .int .i64 t302, .string t303, .int .i64 t304, .int .i64 t305, .int .i64 t306, .int .i64 t307, .int .i64 t308]] rfl u13_2 ?_; (with_reducible refine (impl_AddDevice.calls k _ _ t298 t301 t302 t303 t304 t305 t306 t307 t308 t309 t312 _ ?side1 ?side2 A18.out).mono ?_); (case side1 => repeat (first | exact (Kd.R_reads' HO300.out).2.2 | (with_reducible refine Kd.C_alloc ?_ _) | (with_reducible refine Kd.C_drewN ?_ _) | (with_reducible refine Kd.C_drew ?_))); (case side2 => exact (Kd.R_reads' HO300.out).2.1); rintro e w33 ⟨v310, rfl, ho0, hb⟩; refine ⟨_, rfl, ?_⟩; have n0_ := Aside0.mk (Kd.R_elder' u13_6 (Kd.R_base ho0) hb); have n1_ := Aside0.mk (Kd.R_elder' u13_8 (Kd.R_base ho0) hb); have n2_ := Aside0.mk (Kd.R_elder' u13_11 (Kd.R_base ho0) hb); have n3_ := Aside0.mk (Kd.R_lower (Kd.R_new' (Kd.R_new' (Kd.R_new' ho0 (Kd.R_lt u13_6)) (Kd.R_lt u13_8)) (Kd.R_lt u13_11)) (below_size u13_0)); have n4_ := Aside0.mk (blk_below (g := gb280) (o := .cells #[.string a1_0, .int .i64 a1_1, .string a1_2, .int .i64 a1_3, .int .i64 a1_4, .int .i64 a1_5, .int .i64 a1_6, .int .i64 a1_7] 25 (0, 0)) u13_1 hb); have n5_ := Aside0.mk (below_step u13_0 hb); clear HO285; clear HO296; clear HO300; clear BK280; clear HB; have HO285 := n0_; have HO296 := n1_; have HO300 := n2_; have HO311 := n3_; have BK280 := n4_; have HB := n5_; clear n0_ n1_ n2_ n3_ n4_ n5_; (try clear hb); (try clear hb2); (try clear hk); (try clear hi); (try clear ho0)))
   (try simp only [Act.put, List.setIfInBounds_toArray, List.set_cons_zero, List.set_cons_succ])
   go_cut [51] (fun v51 wc => ∃ (kq : Nat) (x51_18 : Bool), v51 = .bool x51_18 ∧ Aside0 (laws_FnExactAddDevice.j0 kq l0 t294 t297 t298 t309 t312 x51_18 a1_0 a1_1 a1_2 a1_3 a1_4 a1_5 a1_6 a1_7 = some r) ∧ Aside0 (kq ≤ k) ∧ Aside0 (Kd.R k30 30 wc w.heap.size (fun k_ => some k_ ≠ ((.slice Ao32 t298.length co32) : Value).ownBlock ∧ some k_ ≠ (v310 : Value).ownBlock) v295 t294) ∧ Aside0 (Kd.R k30 30 wc w.heap.size (fun k_ => some k_ ≠ (v295 : Value).ownBlock ∧ some k_ ≠ (v310 : Value).ownBlock) (.slice Ao32 t298.length co32) t298) ∧ Aside0 (Kd.R k30 30 wc w.heap.size (fun k_ => some k_ ≠ (v295 : Value).ownBlock ∧ some k_ ≠ ((.slice Ao32 t298.length co32) : Value).ownBlock) v310 t309) ∧ Aside0 (wc.heap[gb280]? = some (.cells #[.string a1_0, .int .i64 a1_1, .string a1_2, .int .i64 a1_3, .int .i64 a1_4, .int .i64 a1_5, .int .i64 a1_6, .int .i64 a1_7] 25 (0, 0))) ∧ Aside0 (Below w.heap.size w wc))
   case first =>
    have H := HC19.out
    clear HC19
    replace H := Option.bind_eq_some_iff.mp H
    obtain ⟨t313, A340, H⟩ := H
    replace H : (if t313 = true then (laws_FnExactAddDevice.j0 k l0 t294 t297 t298 t309 t312 (t312 != t297) a1_0 a1_1 a1_2 a1_3 a1_4 a1_5 a1_6 a1_7) else (laws_FnExactAddDevice.j0 k l0 t294 t297 t298 t309 t312 true a1_0 a1_1 a1_2 a1_3 a1_4 a1_5 a1_6 a1_7)) = some r := H
    have A34 := Aside0.mk A340
    clear A340
    by_cases c35 : t313 = true
    ·subst c35
     have H1 : (laws_FnExactAddDevice.j0 k l0 t294 t297 t298 t309 t312 (t312 != t297) a1_0 a1_1 a1_2 a1_3 a1_4 a1_5 a1_6 a1_7) = some r := by rw [if_pos rfl] at H; exact H
     clear H
     have H := H1
     clear H1
     have H' := Aside0.mk H
     clear H
     obtain ⟨Ao36, co36, eo36⟩ := Kd.R_slice HO311.out
     subst eo36
     obtain ⟨Ao37, co37, eo37⟩ := Kd.R_slice HO296.out
     subst eo37
     go_wp2_with (first | ((with_reducible refine gate_callee (f := 23) rfl ?_); refine goesL_ (some 45) rfl rfl Try.func23 (by kernel_rfl) rfl #[.slice Ao36 t309.length co36, .slice Ao37 t294.length co37] rfl u13_2 ?_; (with_reducible refine (laws_eqDeviceS.calls k _ _ t309 _ _ t294 true _ ?side1 ?side2 ?side3 ?side4 A34.out).mono ?_); (case side1 => exact y13_2); (case side2 => exact (Kd.R_reads' HO311.out).2.1); (case side3 => exact y13_6); (case side4 => exact (Kd.R_reads' HO296.out).2.1); rintro e w38 ⟨rfl, hb⟩; refine ⟨_, rfl, ?_⟩; have n0_ := Aside0.mk (Kd.R_below u13_6 hb); have n1_ := Aside0.mk (Kd.R_below u13_8 hb); have n2_ := Aside0.mk (Kd.R_below u13_11 hb); have n3_ := Aside0.mk (Kd.R_below (by (with_reducible repeat (first | apply Kd.R_alloc | apply Kd.R_drewN | apply Kd.R_drew)); exact HO311.out) hb); have n4_ := Aside0.mk (blk_below (g := gb280) (o := .cells #[.string a1_0, .int .i64 a1_1, .string a1_2, .int .i64 a1_3, .int .i64 a1_4, .int .i64 a1_5, .int .i64 a1_6, .int .i64 a1_7] 25 (0, 0)) u13_1 hb); have n5_ := Aside0.mk (below_step u13_0 hb); clear HO285; clear HO296; clear HO300; clear HO311; clear BK280; clear HB; have HO285 := n0_; have HO296 := n1_; have HO300 := n2_; have HO311 := n3_; have BK280 := n4_; have HB := n5_; clear n0_ n1_ n2_ n3_ n4_ n5_; (try clear hb); (try clear hb2); (try clear hk); (try clear hi)))
     go_meet
     case rel => exact ⟨_, ((t312 != t297)), u13_13, H', ⟨by first | omega | exact Nat.le_refl _⟩, ⟨by (with_reducible repeat (first | apply Kd.R_alloc | apply Kd.R_drewN | apply Kd.R_drew)); exact Kd.R_mono HO296.out (fun _ hk => ⟨hk.1.2, hk.2⟩)⟩, ⟨by (with_reducible repeat (first | apply Kd.R_alloc | apply Kd.R_drewN | apply Kd.R_drew)); exact Kd.R_mono HO300.out (fun _ hk => ⟨hk.1.2, hk.2⟩)⟩, ⟨by (with_reducible repeat (first | apply Kd.R_alloc | apply Kd.R_drewN | apply Kd.R_drew)); exact Kd.R_mono HO311.out (fun _ hk => ⟨hk.1.2, hk.2⟩)⟩, ⟨by (with_reducible repeat (first | refine blk_drewN ?_ _ | refine blk_drew ?_ | refine blk_alloc ?_ _)); exact BK280.out⟩, ⟨by repeat (first | (with_reducible first | exact HB.out | apply below_alloc | apply pw_below_drewN | apply below_drew1 | refine below_set ?_ GE280.out) | exact HB.out)⟩⟩
    ·replace c35 := Bool.eq_false_iff.mpr c35
     subst c35
     have H1 : (laws_FnExactAddDevice.j0 k l0 t294 t297 t298 t309 t312 true a1_0 a1_1 a1_2 a1_3 a1_4 a1_5 a1_6 a1_7) = some r := by rw [if_neg (show ¬ (false = true) by decide)] at H; exact H
     clear H
     have H := H1
     clear H1
     have H' := Aside0.mk H
     clear H
     obtain ⟨Ao39, co39, eo39⟩ := Kd.R_slice HO311.out
     subst eo39
     obtain ⟨Ao40, co40, eo40⟩ := Kd.R_slice HO296.out
     subst eo40
     go_wp2_with (first | ((with_reducible refine gate_callee (f := 23) rfl ?_); refine goesL_ (some 45) rfl rfl Try.func23 (by kernel_rfl) rfl #[.slice Ao39 t309.length co39, .slice Ao40 t294.length co40] rfl u13_2 ?_; (with_reducible refine (laws_eqDeviceS.calls k _ _ t309 _ _ t294 false _ ?side1 ?side2 ?side3 ?side4 A34.out).mono ?_); (case side1 => exact y13_2); (case side2 => exact (Kd.R_reads' HO311.out).2.1); (case side3 => exact y13_6); (case side4 => exact (Kd.R_reads' HO296.out).2.1); rintro e w41 ⟨rfl, hb⟩; refine ⟨_, rfl, ?_⟩; have n0_ := Aside0.mk (Kd.R_below u13_6 hb); have n1_ := Aside0.mk (Kd.R_below u13_8 hb); have n2_ := Aside0.mk (Kd.R_below u13_11 hb); have n3_ := Aside0.mk (Kd.R_below (by (with_reducible repeat (first | apply Kd.R_alloc | apply Kd.R_drewN | apply Kd.R_drew)); exact HO311.out) hb); have n4_ := Aside0.mk (blk_below (g := gb280) (o := .cells #[.string a1_0, .int .i64 a1_1, .string a1_2, .int .i64 a1_3, .int .i64 a1_4, .int .i64 a1_5, .int .i64 a1_6, .int .i64 a1_7] 25 (0, 0)) u13_1 hb); have n5_ := Aside0.mk (below_step u13_0 hb); clear HO285; clear HO296; clear HO300; clear HO311; clear BK280; clear HB; have HO285 := n0_; have HO296 := n1_; have HO300 := n2_; have HO311 := n3_; have BK280 := n4_; have HB := n5_; clear n0_ n1_ n2_ n3_ n4_ n5_; (try clear hb); (try clear hb2); (try clear hk); (try clear hi)))
     go_meet
     case rel => exact ⟨_, (true), u13_13, H', ⟨by first | omega | exact Nat.le_refl _⟩, ⟨by (with_reducible repeat (first | apply Kd.R_alloc | apply Kd.R_drewN | apply Kd.R_drew)); exact Kd.R_mono HO296.out (fun _ hk => ⟨hk.1.2, hk.2⟩)⟩, ⟨by (with_reducible repeat (first | apply Kd.R_alloc | apply Kd.R_drewN | apply Kd.R_drew)); exact Kd.R_mono HO300.out (fun _ hk => ⟨hk.1.2, hk.2⟩)⟩, ⟨by (with_reducible repeat (first | apply Kd.R_alloc | apply Kd.R_drewN | apply Kd.R_drew)); exact Kd.R_mono HO311.out (fun _ hk => ⟨hk.1.2, hk.2⟩)⟩, ⟨by (with_reducible repeat (first | refine blk_drewN ?_ _ | refine blk_drew ?_ | refine blk_alloc ?_ _)); exact BK280.out⟩, ⟨by repeat (first | (with_reducible first | exact HB.out | apply below_alloc | apply pw_below_drewN | apply below_drew1 | refine below_set ?_ GE280.out) | exact HB.out)⟩⟩
   case rest =>
    clear HC19
    try clear c1
    try clear c2
    try clear p2
    try clear c3
    try clear c4
    try clear c4b0
    try clear c8
    try clear c8b0
    try clear c13
    try clear c15
    try clear c17
    try clear c19
    try clear c21
    try clear c23
    try clear c35
    try clear hcz11_0
    try clear hcz11_1
    try clear hcz11_2
    try clear hcz11_3
    try clear hcz11_4
    try clear hcz11_5
    try clear hcz11_6
    try clear hcz11_7
    try clear hcz22_0
    try clear hcz22_1
    try clear hcz22_2
    try clear hcz22_3
    try clear hcz22_4
    try clear hcz22_5
    try clear hcz22_6
    try clear hcz22_7
    try clear hcz30_0
    try clear hcz30_1
    try clear hcz30_2
    try clear hcz30_3
    try clear hcz30_4
    try clear hcz30_5
    try clear hcz30_6
    try clear hcz30_7
    try clear hfz11_0
    try clear hfz11_1
    try clear hfz11_2
    try clear hfz11_3
    try clear hfz11_4
    try clear hfz11_5
    try clear hfz11_6
    try clear hfz11_7
    try clear hfz22_0
    try clear hfz22_1
    try clear hfz22_2
    try clear hfz22_3
    try clear hfz22_4
    try clear hfz22_5
    try clear hfz22_6
    try clear hfz22_7
    try clear hfz30_0
    try clear hfz30_1
    try clear hfz30_2
    try clear hfz30_3
    try clear hfz30_4
    try clear hfz30_5
    try clear hfz30_6
    try clear hfz30_7
    obtain ⟨kq, x51_18, rfl, HA, HJ18, HO_6, HO_8, HO_9, BK280, HB⟩ := hcut
    cases kq with
    | zero => exact absurd HA.out (by simp [laws_FnExactAddDevice.j0])
    | succ kj18 =>
     have H := HA.out
     clear HA
     simp only [laws_FnExactAddDevice.j0] at H
     by_cases c42 : x51_18 = true
     ·subst c42
      have H1 : (some false) = some r := by rw [if_pos rfl] at H; exact H
      clear H
      have H := H1
      clear H1
      obtain rfl := Option.some.inj H
      go_wp2
      go_ret
      exact ⟨by first | rfl | (simp [*] <;> rfl), by repeat (first | (with_reducible first | exact HB.out | apply below_alloc | apply pw_below_drewN | apply below_drew1 | refine below_set ?_ GE280.out) | exact HB.out)⟩
     ·replace c42 := Bool.eq_false_iff.mpr c42
      subst c42
      have H1 : ((laws_toDeviceS.f kj18 l0).bind fun t314 => ((laws_eqDeviceS.f kj18 t298 t314).bind fun t317 => (if t317 = true then ((laws_markDeviceS.f kj18 t298 1).bind fun bt318 => (if bt318.1 < 0 then (laws_FnExactAddDevice.j1 kj18 l0 t294 t297 t309 true a1_0 a1_1 a1_2 a1_3 a1_4 a1_5 a1_6 a1_7) else ((laws_eqDeviceS.f kj18 t309 t294).bind fun t320 => (if t320 = true then (laws_FnExactAddDevice.j1 kj18 l0 t294 t297 t309 (t312 != t297) a1_0 a1_1 a1_2 a1_3 a1_4 a1_5 a1_6 a1_7) else (laws_FnExactAddDevice.j1 kj18 l0 t294 t297 t309 true a1_0 a1_1 a1_2 a1_3 a1_4 a1_5 a1_6 a1_7))))) else (some false)))) = some r := by rw [if_neg (show ¬ (false = true) by decide)] at H; exact H
      clear H
      have H := H1
      clear H1
      replace H := Option.bind_eq_some_iff.mp H
      obtain ⟨t314, A430, H⟩ := H
      replace H : ((laws_eqDeviceS.f kj18 t298 t314).bind fun t317 => (if t317 = true then ((laws_markDeviceS.f kj18 t298 1).bind fun bt318 => (if bt318.1 < 0 then (laws_FnExactAddDevice.j1 kj18 l0 t294 t297 t309 true a1_0 a1_1 a1_2 a1_3 a1_4 a1_5 a1_6 a1_7) else ((laws_eqDeviceS.f kj18 t309 t294).bind fun t320 => (if t320 = true then (laws_FnExactAddDevice.j1 kj18 l0 t294 t297 t309 (t312 != t297) a1_0 a1_1 a1_2 a1_3 a1_4 a1_5 a1_6 a1_7) else (laws_FnExactAddDevice.j1 kj18 l0 t294 t297 t309 true a1_0 a1_1 a1_2 a1_3 a1_4 a1_5 a1_6 a1_7))))) else (some false))) = some r := H
      have A43 := Aside0.mk A430
      clear A430
      replace H := Option.bind_eq_some_iff.mp H
      obtain ⟨t317, A440, H⟩ := H
      replace H : (if t317 = true then ((laws_markDeviceS.f kj18 t298 1).bind fun bt318 => (if bt318.1 < 0 then (laws_FnExactAddDevice.j1 kj18 l0 t294 t297 t309 true a1_0 a1_1 a1_2 a1_3 a1_4 a1_5 a1_6 a1_7) else ((laws_eqDeviceS.f kj18 t309 t294).bind fun t320 => (if t320 = true then (laws_FnExactAddDevice.j1 kj18 l0 t294 t297 t309 (t312 != t297) a1_0 a1_1 a1_2 a1_3 a1_4 a1_5 a1_6 a1_7) else (laws_FnExactAddDevice.j1 kj18 l0 t294 t297 t309 true a1_0 a1_1 a1_2 a1_3 a1_4 a1_5 a1_6 a1_7))))) else (some false)) = some r := H
      have A44 := Aside0.mk A440
      clear A440
      by_cases c45 : t317 = true
      ·subst c45
       have H1 : ((laws_markDeviceS.f kj18 t298 1).bind fun bt318 => (if bt318.1 < 0 then (laws_FnExactAddDevice.j1 kj18 l0 t294 t297 t309 true a1_0 a1_1 a1_2 a1_3 a1_4 a1_5 a1_6 a1_7) else ((laws_eqDeviceS.f kj18 t309 t294).bind fun t320 => (if t320 = true then (laws_FnExactAddDevice.j1 kj18 l0 t294 t297 t309 (t312 != t297) a1_0 a1_1 a1_2 a1_3 a1_4 a1_5 a1_6 a1_7) else (laws_FnExactAddDevice.j1 kj18 l0 t294 t297 t309 true a1_0 a1_1 a1_2 a1_3 a1_4 a1_5 a1_6 a1_7))))) = some r := by rw [if_pos rfl] at H; exact H
       clear H
       have H := H1
       clear H1
       replace H := Option.bind_eq_some_iff.mp H
       obtain ⟨⟨t318, t319⟩, A460, H⟩ := H
       replace H : (if t318 < 0 then (laws_FnExactAddDevice.j1 kj18 l0 t294 t297 t309 true a1_0 a1_1 a1_2 a1_3 a1_4 a1_5 a1_6 a1_7) else ((laws_eqDeviceS.f kj18 t309 t294).bind fun t320 => (if t320 = true then (laws_FnExactAddDevice.j1 kj18 l0 t294 t297 t309 (t312 != t297) a1_0 a1_1 a1_2 a1_3 a1_4 a1_5 a1_6 a1_7) else (laws_FnExactAddDevice.j1 kj18 l0 t294 t297 t309 true a1_0 a1_1 a1_2 a1_3 a1_4 a1_5 a1_6 a1_7)))) = some r := H
       have A46 := Aside0.mk A460
       clear A460
       have HC47 := Aside0.mk H
       clear H
       go_upto_region 17 with (first | ((with_reducible refine gate_callee (f := 21) rfl ?_); refine goesL_ (some 54) rfl rfl Try.func21 (by kernel_rfl) rfl #[.slice A0 l0.length c0] rfl u13_2 ?_; (with_reducible refine (laws_toDeviceS.calls kj18 _ _ l0 t314 _ ?side1 ?side2 A43.out).mono ?_); (case side1 => exact y13_0); (case side2 => exact HC0.out); rintro e w48 ⟨v315, rfl, ho0, hb⟩; refine ⟨_, rfl, ?_⟩; have n0_ := Aside0.mk (Kd.R_elder' u13_4 (Kd.R_base ho0) hb); have n1_ := Aside0.mk (Kd.R_elder' u13_7 (Kd.R_base ho0) hb); have n2_ := Aside0.mk (Kd.R_elder' u13_3 (Kd.R_base ho0) hb); have n3_ := Aside0.mk (Kd.R_lower (Kd.R_new' (Kd.R_new' (Kd.R_new' ho0 (Kd.R_lt u13_4)) (Kd.R_lt u13_7)) (Kd.R_lt u13_3)) (below_size u13_0)); have n4_ := Aside0.mk (blk_below (g := gb280) (o := .cells #[.string a1_0, .int .i64 a1_1, .string a1_2, .int .i64 a1_3, .int .i64 a1_4, .int .i64 a1_5, .int .i64 a1_6, .int .i64 a1_7] 25 (0, 0)) u13_1 hb); have n5_ := Aside0.mk (below_step u13_0 hb); clear HO_6; clear HO_8; clear HO_9; clear BK280; clear HB; have HO_6 := n0_; have HO_8 := n1_; have HO_9 := n2_; have HO316 := n3_; have BK280 := n4_; have HB := n5_; clear n0_ n1_ n2_ n3_ n4_ n5_; (try clear hb); (try clear hb2); (try clear hk); (try clear hi); (try clear ho0); obtain ⟨Ao49, co49, eo49⟩ := Kd.R_slice HO316.out; subst eo49) | ((with_reducible refine gate_callee (f := 23) rfl ?_); refine goesL_ (some 55) rfl rfl Try.func23 (by kernel_rfl) rfl #[.slice Ao32 t298.length co32, .slice Ao49 t314.length co49] rfl u13_2 ?_; (with_reducible refine (laws_eqDeviceS.calls kj18 _ _ t298 _ _ t314 true _ ?side1 ?side2 ?side3 ?side4 A44.out).mono ?_); (case side1 => exact y13_4); (case side2 => exact (Kd.R_reads' HO_8.out).2.1); (case side3 => exact y13_7); (case side4 => exact (Kd.R_reads' HO316.out).2.1); rintro e w50 ⟨rfl, hb⟩; refine ⟨_, rfl, ?_⟩; have n0_ := Aside0.mk (Kd.R_below u13_4 hb); have n1_ := Aside0.mk (Kd.R_below u13_7 hb); have n2_ := Aside0.mk (Kd.R_below u13_3 hb); have n3_ := Aside0.mk (Kd.R_below u13_12 hb); have n4_ := Aside0.mk (blk_below (g := gb280) (o := .cells #[.string a1_0, .int .i64 a1_1, .string a1_2, .int .i64 a1_3, .int .i64 a1_4, .int .i64 a1_5, .int .i64 a1_6, .int .i64 a1_7] 25 (0, 0)) u13_1 hb); have n5_ := Aside0.mk (below_step u13_0 hb); clear HO_6; clear HO_8; clear HO_9; clear HO316; clear BK280; clear HB; have HO_6 := n0_; have HO_8 := n1_; have HO_9 := n2_; have HO316 := n3_; have BK280 := n4_; have HB := n5_; clear n0_ n1_ n2_ n3_ n4_ n5_; (try clear hb); (try clear hb2); (try clear hk); (try clear hi)) | ((with_reducible refine gate_callee (f := 36) rfl ?_); refine goesL_ (some 59) rfl rfl Try.func36 (by kernel_rfl) rfl #[.slice Ao32 t298.length co32, .int .i64 1] rfl u13_2 ?_; (with_reducible refine (laws_markDeviceS.calls kj18 (fun k_ => some k_ = (.slice Ao32 t298.length co32 : Value).ownBlock) (.slice Ao32 t298.length co32) t298 1 t318 t319 w _ ?side1 ?side2 A46.out).mono ?_); (case side1 => repeat (first | (with_reducible first | exact HB.out | apply below_alloc | apply pw_below_drewN | apply below_drew1 | refine below_set ?_ GE280.out) | exact HB.out)); (case side2 => exact Kd.R_tight rfl HO_8.out); rintro e w51 ⟨rfl, hy0, hb, hkp⟩; refine ⟨_, rfl, ?_⟩; have n0_ := Aside0.mk (Kd.R_mono (ok' := fun k_ => some k_ ≠ (.slice Ao32 t298.length co32 : Value).ownBlock ∧ some k_ ≠ (v310 : Value).ownBlock ∧ some k_ ≠ (.slice Ao49 t314.length co49 : Value).ownBlock) (Kd.R_keptB (HO_6.out) hkp (fun k_ hk_ hs_ => (hk_.1.1) hs_)) (fun k_ hk_ => ⟨hk_.1.1.1, hk_.1.1.2, hk_.1.2⟩)); have n1_ := Aside0.mk (Kd.R_reok rfl hy0 (fun k_ e_ => HO_8.out.1 k_ e_)); have n2_ := Aside0.mk (Kd.R_mono (ok' := fun k_ => some k_ ≠ (v295 : Value).ownBlock ∧ some k_ ≠ (.slice Ao32 t298.length co32 : Value).ownBlock ∧ some k_ ≠ (.slice Ao49 t314.length co49 : Value).ownBlock) (Kd.R_keptB (HO_9.out) hkp (fun k_ hk_ hs_ => (hk_.1.2) hs_)) (fun k_ hk_ => ⟨hk_.1.1.1, hk_.1.1.2, hk_.1.2⟩)); have n3_ := Aside0.mk (blk_kept u13_1 hkp (fun hs_ => (fun e_ => (Kd.R_ne HO_8.out BK280.out (by decide)) e_) hs_)); have n4_ := Aside0.mk (Kd.R_mono (ok' := fun k_ => some k_ ≠ (v295 : Value).ownBlock ∧ some k_ ≠ (.slice Ao32 t298.length co32 : Value).ownBlock ∧ some k_ ≠ (v310 : Value).ownBlock) (Kd.R_keptB (HO316.out) hkp (fun k_ hk_ hs_ => (hk_.1.2) hs_)) (fun k_ hk_ => ⟨hk_.1.1.1.2, hk_.1.1.2, hk_.1.2⟩)); have n5_ := Aside0.mk (hb); clear HO_6; clear HO_8; clear HO_9; clear BK280; clear HO316; clear HB; have HO_6 := n0_; have HO_8 := n1_; have HO_9 := n2_; have BK280 := n3_; have HO316 := n4_; have HB := n5_; clear n0_ n1_ n2_ n3_ n4_ n5_; (try clear hb); (try clear hkp); (try clear hy0)))
       (try simp only [Act.put, List.setIfInBounds_toArray, List.set_cons_zero, List.set_cons_succ])
       go_cut [72] (fun v72 wc => ∃ (kq : Nat) (x72_46 : Bool), v72 = .bool x72_46 ∧ Aside0 (laws_FnExactAddDevice.j1 kq l0 t294 t297 t309 x72_46 a1_0 a1_1 a1_2 a1_3 a1_4 a1_5 a1_6 a1_7 = some r) ∧ Aside0 (kq ≤ kj18) ∧ Aside0 (Kd.R k30 30 wc w.heap.size (fun k_ => some k_ ≠ (v310 : Value).ownBlock) v295 t294) ∧ Aside0 (Kd.R k30 30 wc w.heap.size (fun k_ => some k_ ≠ (v295 : Value).ownBlock) v310 t309) ∧ Aside0 (wc.heap[gb280]? = some (.cells #[.string a1_0, .int .i64 a1_1, .string a1_2, .int .i64 a1_3, .int .i64 a1_4, .int .i64 a1_5, .int .i64 a1_6, .int .i64 a1_7] 25 (0, 0))) ∧ Aside0 (Below w.heap.size w wc))
       case first =>
        have H := HC47.out
        clear HC47
        by_cases c52 : t318 < 0
        ·rw [if_pos c52] at H
         have c52b0 : decide (t318 < 0) = true := decide_eq_true c52
         clear c52
         (first | rw [c52b0] | (simp only [i64_w, i32_w]; rw [c52b0]) | skip)
         have H' := Aside0.mk H
         clear H
         go_wp2
         go_meet
         case rel => exact ⟨_, (true), u13_13, H', ⟨by have := HJ18.out; first | omega | exact Nat.le_refl _⟩, ⟨by (with_reducible repeat (first | apply Kd.R_alloc | apply Kd.R_drewN | apply Kd.R_drew)); exact Kd.R_mono HO_6.out (fun _ hk => hk.2.1)⟩, ⟨by (with_reducible repeat (first | apply Kd.R_alloc | apply Kd.R_drewN | apply Kd.R_drew)); exact Kd.R_mono HO_9.out (fun _ hk => hk.1)⟩, ⟨by (with_reducible repeat (first | refine blk_drewN ?_ _ | refine blk_drew ?_ | refine blk_alloc ?_ _)); exact BK280.out⟩, ⟨by repeat (first | (with_reducible first | exact HB.out | apply below_alloc | apply pw_below_drewN | apply below_drew1 | refine below_set ?_ GE280.out) | exact HB.out)⟩⟩
        ·rw [if_neg c52] at H
         have c52b0 : decide (t318 < 0) = false := decide_eq_false c52
         clear c52
         (first | rw [c52b0] | (simp only [i64_w, i32_w]; rw [c52b0]) | skip)
         replace H := Option.bind_eq_some_iff.mp H
         obtain ⟨t320, A530, H⟩ := H
         replace H : (if t320 = true then (laws_FnExactAddDevice.j1 kj18 l0 t294 t297 t309 (t312 != t297) a1_0 a1_1 a1_2 a1_3 a1_4 a1_5 a1_6 a1_7) else (laws_FnExactAddDevice.j1 kj18 l0 t294 t297 t309 true a1_0 a1_1 a1_2 a1_3 a1_4 a1_5 a1_6 a1_7)) = some r := H
         have A53 := Aside0.mk A530
         clear A530
         by_cases c54 : t320 = true
         ·subst c54
          have H1 : (laws_FnExactAddDevice.j1 kj18 l0 t294 t297 t309 (t312 != t297) a1_0 a1_1 a1_2 a1_3 a1_4 a1_5 a1_6 a1_7) = some r := by rw [if_pos rfl] at H; exact H
          clear H
          have H := H1
          clear H1
          have H' := Aside0.mk H
          clear H
          obtain ⟨Ao55, co55, eo55⟩ := Kd.R_slice HO_9.out
          subst eo55
          obtain ⟨Ao56, co56, eo56⟩ := Kd.R_slice HO_6.out
          subst eo56
          go_wp2_with (first | (go_at_call 23; (with_reducible refine (laws_eqDeviceS.calls kj18 _ _ t309 _ _ t294 true _ ?side1 ?side2 ?side3 ?side4 A53.out).mono ?_); (case side1 => exact y13_5); (case side2 => exact (Kd.R_reads' HO_9.out).2.1); (case side3 => exact y13_8); (case side4 => exact (Kd.R_reads' HO_6.out).2.1); rintro e w57 ⟨rfl, hb⟩; have n0_ := Aside0.mk (Kd.R_below u13_4 hb); have n1_ := Aside0.mk (Kd.R_below u13_7 hb); have n2_ := Aside0.mk (Kd.R_below u13_3 hb); have n3_ := Aside0.mk (Kd.R_below u13_12 hb); have n4_ := Aside0.mk (blk_below (g := gb280) (o := .cells #[.string a1_0, .int .i64 a1_1, .string a1_2, .int .i64 a1_3, .int .i64 a1_4, .int .i64 a1_5, .int .i64 a1_6, .int .i64 a1_7] 25 (0, 0)) u13_1 hb); have n5_ := Aside0.mk (below_step u13_0 hb); clear HO_6; clear HO_8; clear HO_9; clear HO316; clear BK280; clear HB; have HO_6 := n0_; have HO_8 := n1_; have HO_9 := n2_; have HO316 := n3_; have BK280 := n4_; have HB := n5_; clear n0_ n1_ n2_ n3_ n4_ n5_; (try clear hb); (try clear hb2); (try clear hk); (try clear hi)))
          go_meet
          case rel => exact ⟨_, ((t312 != t297)), u13_13, H', ⟨by have := HJ18.out; first | omega | exact Nat.le_refl _⟩, ⟨by (with_reducible repeat (first | apply Kd.R_alloc | apply Kd.R_drewN | apply Kd.R_drew)); exact Kd.R_mono HO_6.out (fun _ hk => hk.2.1)⟩, ⟨by (with_reducible repeat (first | apply Kd.R_alloc | apply Kd.R_drewN | apply Kd.R_drew)); exact Kd.R_mono HO_9.out (fun _ hk => hk.1)⟩, ⟨by (with_reducible repeat (first | refine blk_drewN ?_ _ | refine blk_drew ?_ | refine blk_alloc ?_ _)); exact BK280.out⟩, ⟨by repeat (first | (with_reducible first | exact HB.out | apply below_alloc | apply pw_below_drewN | apply below_drew1 | refine below_set ?_ GE280.out) | exact HB.out)⟩⟩
         ·replace c54 := Bool.eq_false_iff.mpr c54
          subst c54
          have H1 : (laws_FnExactAddDevice.j1 kj18 l0 t294 t297 t309 true a1_0 a1_1 a1_2 a1_3 a1_4 a1_5 a1_6 a1_7) = some r := by rw [if_neg (show ¬ (false = true) by decide)] at H; exact H
          clear H
          have H := H1
          clear H1
          have H' := Aside0.mk H
          clear H
          obtain ⟨Ao58, co58, eo58⟩ := Kd.R_slice HO_9.out
          subst eo58
          obtain ⟨Ao59, co59, eo59⟩ := Kd.R_slice HO_6.out
          subst eo59
          go_wp2_with (first | (go_at_call 23; (with_reducible refine (laws_eqDeviceS.calls kj18 _ _ t309 _ _ t294 false _ ?side1 ?side2 ?side3 ?side4 A53.out).mono ?_); (case side1 => exact y13_5); (case side2 => exact (Kd.R_reads' HO_9.out).2.1); (case side3 => exact y13_8); (case side4 => exact (Kd.R_reads' HO_6.out).2.1); rintro e w60 ⟨rfl, hb⟩; have n0_ := Aside0.mk (Kd.R_below u13_4 hb); have n1_ := Aside0.mk (Kd.R_below u13_7 hb); have n2_ := Aside0.mk (Kd.R_below u13_3 hb); have n3_ := Aside0.mk (Kd.R_below u13_12 hb); have n4_ := Aside0.mk (blk_below (g := gb280) (o := .cells #[.string a1_0, .int .i64 a1_1, .string a1_2, .int .i64 a1_3, .int .i64 a1_4, .int .i64 a1_5, .int .i64 a1_6, .int .i64 a1_7] 25 (0, 0)) u13_1 hb); have n5_ := Aside0.mk (below_step u13_0 hb); clear HO_6; clear HO_8; clear HO_9; clear HO316; clear BK280; clear HB; have HO_6 := n0_; have HO_8 := n1_; have HO_9 := n2_; have HO316 := n3_; have BK280 := n4_; have HB := n5_; clear n0_ n1_ n2_ n3_ n4_ n5_; (try clear hb); (try clear hb2); (try clear hk); (try clear hi)))
          go_meet
          case rel => exact ⟨_, (true), u13_13, H', ⟨by have := HJ18.out; first | omega | exact Nat.le_refl _⟩, ⟨by (with_reducible repeat (first | apply Kd.R_alloc | apply Kd.R_drewN | apply Kd.R_drew)); exact Kd.R_mono HO_6.out (fun _ hk => hk.2.1)⟩, ⟨by (with_reducible repeat (first | apply Kd.R_alloc | apply Kd.R_drewN | apply Kd.R_drew)); exact Kd.R_mono HO_9.out (fun _ hk => hk.1)⟩, ⟨by (with_reducible repeat (first | refine blk_drewN ?_ _ | refine blk_drew ?_ | refine blk_alloc ?_ _)); exact BK280.out⟩, ⟨by repeat (first | (with_reducible first | exact HB.out | apply below_alloc | apply pw_below_drewN | apply below_drew1 | refine below_set ?_ GE280.out) | exact HB.out)⟩⟩
       case rest =>
        clear HC47
        try clear c1
        try clear c2
        try clear p2
        try clear c3
        try clear c4
        try clear c4b0
        try clear c5
        try clear c8
        try clear c8b0
        try clear c13
        try clear c15
        try clear c17
        try clear c19
        try clear c21
        try clear c23
        try clear c35
        try clear c36
        try clear c42
        try clear c45
        try clear c47
        try clear c48
        try clear c52
        try clear c52b0
        try clear c54
        try clear hcz11_0
        try clear hcz11_1
        try clear hcz11_2
        try clear hcz11_3
        try clear hcz11_4
        try clear hcz11_5
        try clear hcz11_6
        try clear hcz11_7
        try clear hcz22_0
        try clear hcz22_1
        try clear hcz22_2
        try clear hcz22_3
        try clear hcz22_4
        try clear hcz22_5
        try clear hcz22_6
        try clear hcz22_7
        try clear hcz30_0
        try clear hcz30_1
        try clear hcz30_2
        try clear hcz30_3
        try clear hcz30_4
        try clear hcz30_5
        try clear hcz30_6
        try clear hcz30_7
        try clear hfz11_0
        try clear hfz11_1
        try clear hfz11_2
        try clear hfz11_3
        try clear hfz11_4
        try clear hfz11_5
        try clear hfz11_6
        try clear hfz11_7
        try clear hfz22_0
        try clear hfz22_1
        try clear hfz22_2
        try clear hfz22_3
        try clear hfz22_4
        try clear hfz22_5
        try clear hfz22_6
        try clear hfz22_7
        try clear hfz30_0
        try clear hfz30_1
        try clear hfz30_2
        try clear hfz30_3
        try clear hfz30_4
        try clear hfz30_5
        try clear hfz30_6
        try clear hfz30_7
        try clear p2
        obtain ⟨kq, x72_46, rfl, HA, HJ46, HO_6, HO_9, BK280, HB⟩ := hcut
        cases kq with
        | zero => exact absurd HA.out (by simp [laws_FnExactAddDevice.j1])
        | succ kj46 =>
         have H := HA.out
         clear HA
         simp only [laws_FnExactAddDevice.j1] at H
         by_cases c61 : x72_46 = true
         ·subst c61
          have H1 : (some false) = some r := by rw [if_pos rfl] at H; exact H
          clear H
          have H := H1
          clear H1
          obtain rfl := Option.some.inj H
          go_wp2
          go_ret
          exact ⟨by first | rfl | (simp [*] <;> rfl), by repeat (first | (with_reducible first | exact HB.out | apply below_alloc | apply pw_below_drewN | apply below_drew1 | refine below_set ?_ GE280.out) | exact HB.out)⟩
         ·replace c61 := Bool.eq_false_iff.mpr c61
          subst c61
          have H1 : ((laws_markDeviceS.f kj46 t309 1).bind fun bt321 => ((laws_heldDeviceS.f kj46 bt321.2 1).bind fun t323 => (if t323 < 0 then (some false) else (if t323 = bt321.1 then ((laws_toDeviceS.f kj46 l0).bind fun t324 => ((laws_toDevice.f a1_0 a1_1 a1_2 a1_3 a1_4 a1_5 a1_6 a1_7).bind fun bt327 => ((impl_AddDevice.f kj46 t324 bt327.1 bt327.2.1 bt327.2.2.1 bt327.2.2.2.1 bt327.2.2.2.2.1 bt327.2.2.2.2.2.1 bt327.2.2.2.2.2.2.1 bt327.2.2.2.2.2.2.2).bind fun bt335 => ((laws_eqDeviceS.f kj46 bt335.1 t294).bind fun t339 => (if t339 = true then (laws_FnExactAddDevice.j2 kj46 bt321.2 bt321.1 (bt335.2 != t297)) else (laws_FnExactAddDevice.j2 kj46 bt321.2 bt321.1 true)))))) else (some false))))) = some r := by rw [if_neg (show ¬ (false = true) by decide)] at H; exact H
          clear H
          have H := H1
          clear H1
          replace H := Option.bind_eq_some_iff.mp H
          obtain ⟨⟨t321, t322⟩, A620, H⟩ := H
          replace H : ((laws_heldDeviceS.f kj46 t322 1).bind fun t323 => (if t323 < 0 then (some false) else (if t323 = t321 then ((laws_toDeviceS.f kj46 l0).bind fun t324 => ((laws_toDevice.f a1_0 a1_1 a1_2 a1_3 a1_4 a1_5 a1_6 a1_7).bind fun bt327 => ((impl_AddDevice.f kj46 t324 bt327.1 bt327.2.1 bt327.2.2.1 bt327.2.2.2.1 bt327.2.2.2.2.1 bt327.2.2.2.2.2.1 bt327.2.2.2.2.2.2.1 bt327.2.2.2.2.2.2.2).bind fun bt335 => ((laws_eqDeviceS.f kj46 bt335.1 t294).bind fun t339 => (if t339 = true then (laws_FnExactAddDevice.j2 kj46 t322 t321 (bt335.2 != t297)) else (laws_FnExactAddDevice.j2 kj46 t322 t321 true)))))) else (some false)))) = some r := H
          have A62 := Aside0.mk A620
          clear A620
          replace H := Option.bind_eq_some_iff.mp H
          obtain ⟨t323, A630, H⟩ := H
          replace H : (if t323 < 0 then (some false) else (if t323 = t321 then ((laws_toDeviceS.f kj46 l0).bind fun t324 => ((laws_toDevice.f a1_0 a1_1 a1_2 a1_3 a1_4 a1_5 a1_6 a1_7).bind fun bt327 => ((impl_AddDevice.f kj46 t324 bt327.1 bt327.2.1 bt327.2.2.1 bt327.2.2.2.1 bt327.2.2.2.2.1 bt327.2.2.2.2.2.1 bt327.2.2.2.2.2.2.1 bt327.2.2.2.2.2.2.2).bind fun bt335 => ((laws_eqDeviceS.f kj46 bt335.1 t294).bind fun t339 => (if t339 = true then (laws_FnExactAddDevice.j2 kj46 t322 t321 (bt335.2 != t297)) else (laws_FnExactAddDevice.j2 kj46 t322 t321 true)))))) else (some false))) = some r := H
          have A63 := Aside0.mk A630
          clear A630
          by_cases c64 : t323 < 0
          ·rw [if_pos c64] at H
           have c64b0 : decide (t323 < 0) = true := decide_eq_true c64
           clear c64
           obtain rfl := Option.some.inj H
           obtain ⟨Ao65, co65, eo65⟩ := Kd.R_slice HO_9.out
           subst eo65
           go_wp2_with (first | ((with_reducible refine gate_callee (f := 36) rfl ?_); refine goesL_ (some 75) rfl rfl Try.func36 (by kernel_rfl) rfl #[.slice Ao65 t309.length co65, .int .i64 1] rfl u13_2 ?_; (with_reducible refine (laws_markDeviceS.calls kj46 (fun k_ => some k_ = (.slice Ao65 t309.length co65 : Value).ownBlock) (.slice Ao65 t309.length co65) t309 1 t321 t322 w _ ?side1 ?side2 A62.out).mono ?_); (case side1 => repeat (first | (with_reducible first | exact HB.out | apply below_alloc | apply pw_below_drewN | apply below_drew1 | refine below_set ?_ GE280.out) | exact HB.out)); (case side2 => exact Kd.R_tight rfl HO_9.out); rintro e w66 ⟨rfl, hy0, hb, hkp⟩; refine ⟨_, rfl, ?_⟩; have n0_ := Aside0.mk (Kd.R_mono (ok' := fun k_ => some k_ ≠ (.slice Ao65 t309.length co65 : Value).ownBlock) (Kd.R_keptB (HO_6.out) hkp (fun k_ hk_ hs_ => (hk_) hs_)) (fun k_ hk_ => hk_.1)); have n1_ := Aside0.mk (Kd.R_reok rfl hy0 (fun k_ e_ => HO_9.out.1 k_ e_)); have n2_ := Aside0.mk (blk_kept u13_1 hkp (fun hs_ => (fun e_ => (Kd.R_ne HO_9.out BK280.out (by decide)) e_) hs_)); have n3_ := Aside0.mk (hb); clear HO_6; clear HO_9; clear BK280; clear HB; have HO_6 := n0_; have HO_9 := n1_; have BK280 := n2_; have HB := n3_; clear n0_ n1_ n2_ n3_; (try clear hb); (try clear hkp); (try clear hy0)) | ((with_reducible refine gate_callee (f := 41) rfl ?_); refine goesL_ (some 78) rfl rfl Try.func41 (by kernel_rfl) rfl #[.slice Ao65 t322.length co65, .int .i64 1] rfl u13_9 ?_; (with_reducible refine (laws_heldDeviceS.calls kj46 _ _ t322 1 t323 _ ?side1 ?side2 A63.out).mono ?_); (case side1 => exact y13_5); (case side2 => rw [show t322.length = t309.length from (Kd.R_reads' HO_9.out).1.symm]; exact (Kd.R_reads' HO_9.out).2.1); rintro e w67 ⟨rfl, hb⟩; refine ⟨_, rfl, ?_⟩; have n0_ := Aside0.mk (Kd.R_below u13_4 hb); have n1_ := Aside0.mk (Kd.R_below u13_3 hb); have n2_ := Aside0.mk (blk_below (g := gb280) (o := .cells #[.string a1_0, .int .i64 a1_1, .string a1_2, .int .i64 a1_3, .int .i64 a1_4, .int .i64 a1_5, .int .i64 a1_6, .int .i64 a1_7] 25 (0, 0)) u13_1 hb); have n3_ := Aside0.mk (below_step u13_0 hb); clear HO_6; clear HO_9; clear BK280; clear HB; have HO_6 := n0_; have HO_9 := n1_; have BK280 := n2_; have HB := n3_; clear n0_ n1_ n2_ n3_; (try clear hb); (try clear hb2); (try clear hk); (try clear hi)))
           go_ret
           exact ⟨by first | rfl | (simp [*] <;> rfl), by repeat (first | (with_reducible first | exact HB.out | apply below_alloc | apply pw_below_drewN | apply below_drew1 | refine below_set ?_ GE280.out) | exact HB.out)⟩
          ·rw [if_neg c64] at H
           have c64b0 : decide (t323 < 0) = false := decide_eq_false c64
           clear c64
           by_cases c68 : t323 = t321
           ·rw [if_pos c68] at H
            have c68b0 : (t323 == t321) = true := beq_iff_eq.mpr c68
            have c68b1 : (t323 != t321) = false := bne_eq_false_iff_eq.mpr c68
            clear c68
            replace H := Option.bind_eq_some_iff.mp H
            obtain ⟨t324, A690, H⟩ := H
            replace H : ((laws_toDevice.f a1_0 a1_1 a1_2 a1_3 a1_4 a1_5 a1_6 a1_7).bind fun bt327 => ((impl_AddDevice.f kj46 t324 bt327.1 bt327.2.1 bt327.2.2.1 bt327.2.2.2.1 bt327.2.2.2.2.1 bt327.2.2.2.2.2.1 bt327.2.2.2.2.2.2.1 bt327.2.2.2.2.2.2.2).bind fun bt335 => ((laws_eqDeviceS.f kj46 bt335.1 t294).bind fun t339 => (if t339 = true then (laws_FnExactAddDevice.j2 kj46 t322 t321 (bt335.2 != t297)) else (laws_FnExactAddDevice.j2 kj46 t322 t321 true))))) = some r := H
            have A69 := Aside0.mk A690
            clear A690
            replace H := Option.bind_eq_some_iff.mp H
            obtain ⟨⟨t327, t328, t329, t330, t331, t332, t333, t334⟩, A700, H⟩ := H
            replace H : ((impl_AddDevice.f kj46 t324 t327 t328 t329 t330 t331 t332 t333 t334).bind fun bt335 => ((laws_eqDeviceS.f kj46 bt335.1 t294).bind fun t339 => (if t339 = true then (laws_FnExactAddDevice.j2 kj46 t322 t321 (bt335.2 != t297)) else (laws_FnExactAddDevice.j2 kj46 t322 t321 true)))) = some r := H
            have A70 := Aside0.mk A700
            clear A700
            replace H := Option.bind_eq_some_iff.mp H
            obtain ⟨⟨t335, t338⟩, A710, H⟩ := H
            replace H : ((laws_eqDeviceS.f kj46 t335 t294).bind fun t339 => (if t339 = true then (laws_FnExactAddDevice.j2 kj46 t322 t321 (t338 != t297)) else (laws_FnExactAddDevice.j2 kj46 t322 t321 true))) = some r := H
            have A71 := Aside0.mk A710
            clear A710
            have HC72 := Aside0.mk H
            clear H
            obtain ⟨Ao73, co73, eo73⟩ := Kd.R_slice HO_9.out
            subst eo73
            try go_wp2_with (first | ((with_reducible refine gate_callee (f := 36) rfl ?_); refine goesL_ (some 75) rfl rfl Try.func36 (by kernel_rfl) rfl #[.slice Ao73 t309.length co73, .int .i64 1] rfl u13_2 ?_; (with_reducible refine (laws_markDeviceS.calls kj46 (fun k_ => some k_ = (.slice Ao73 t309.length co73 : Value).ownBlock) (.slice Ao73 t309.length co73) t309 1 t321 t322 w _ ?side1 ?side2 A62.out).mono ?_); (case side1 => repeat (first | (with_reducible first | exact HB.out | apply below_alloc | apply pw_below_drewN | apply below_drew1 | refine below_set ?_ GE280.out) | exact HB.out)); (case side2 => exact Kd.R_tight rfl HO_9.out); rintro e w74 ⟨rfl, hy0, hb, hkp⟩; refine ⟨_, rfl, ?_⟩; have n0_ := Aside0.mk (Kd.R_mono (ok' := fun k_ => some k_ ≠ (.slice Ao73 t309.length co73 : Value).ownBlock) (Kd.R_keptB (HO_6.out) hkp (fun k_ hk_ hs_ => (hk_) hs_)) (fun k_ hk_ => hk_.1)); have n1_ := Aside0.mk (Kd.R_reok rfl hy0 (fun k_ e_ => HO_9.out.1 k_ e_)); have n2_ := Aside0.mk (blk_kept u13_1 hkp (fun hs_ => (fun e_ => (Kd.R_ne HO_9.out BK280.out (by decide)) e_) hs_)); have n3_ := Aside0.mk (hb); clear HO_6; clear HO_9; clear BK280; clear HB; have HO_6 := n0_; have HO_9 := n1_; have BK280 := n2_; have HB := n3_; clear n0_ n1_ n2_ n3_; (try clear hb); (try clear hkp); (try clear hy0)) | ((with_reducible refine gate_callee (f := 41) rfl ?_); refine goesL_ (some 78) rfl rfl Try.func41 (by kernel_rfl) rfl #[.slice Ao73 t322.length co73, .int .i64 1] rfl u13_9 ?_; (with_reducible refine (laws_heldDeviceS.calls kj46 _ _ t322 1 t323 _ ?side1 ?side2 A63.out).mono ?_); (case side1 => exact y13_5); (case side2 => rw [show t322.length = t309.length from (Kd.R_reads' HO_9.out).1.symm]; exact (Kd.R_reads' HO_9.out).2.1); rintro e w75 ⟨rfl, hb⟩; refine ⟨_, rfl, ?_⟩; have n0_ := Aside0.mk (Kd.R_below u13_4 hb); have n1_ := Aside0.mk (Kd.R_below u13_3 hb); have n2_ := Aside0.mk (blk_below (g := gb280) (o := .cells #[.string a1_0, .int .i64 a1_1, .string a1_2, .int .i64 a1_3, .int .i64 a1_4, .int .i64 a1_5, .int .i64 a1_6, .int .i64 a1_7] 25 (0, 0)) u13_1 hb); have n3_ := Aside0.mk (below_step u13_0 hb); clear HO_6; clear HO_9; clear BK280; clear HB; have HO_6 := n0_; have HO_9 := n1_; have BK280 := n2_; have HB := n3_; clear n0_ n1_ n2_ n3_; (try clear hb); (try clear hb2); (try clear hk); (try clear hi)))
            have n0_ := Aside0.mk (Kd.R_drew HO_6.out)
            have n1_ := Aside0.mk (Kd.R_drew HO_9.out)
            have n2_ := Aside0.mk (blk_drew BK280.out)
            have n3_ := Aside0.mk (below_drew1 HB.out)
            clear HO_6
            clear HO_9
            clear BK280
            clear HB
            have HO_6 := n0_
            have HO_9 := n1_
            have BK280 := n2_
            have HB := n3_
            clear n0_ n1_ n2_ n3_
            refine start_ (n := 10) (S := fun w' => w'.cell? ⟨gb280, 0, none⟩ = some (.string a1_0) ∧ w'.cell? ⟨gb280, 1, none⟩ = some (.int .i64 a1_1) ∧ w'.cell? ⟨gb280, 2, none⟩ = some (.string a1_2) ∧ w'.cell? ⟨gb280, 3, none⟩ = some (.int .i64 a1_3) ∧ w'.cell? ⟨gb280, 4, none⟩ = some (.int .i64 a1_4) ∧ w'.cell? ⟨gb280, 5, none⟩ = some (.int .i64 a1_5) ∧ w'.cell? ⟨gb280, 6, none⟩ = some (.int .i64 a1_6) ∧ w'.cell? ⟨gb280, 7, none⟩ = some (.int .i64 a1_7)) (ds := []) mk13_0 (by kernel_rfl) rfl rfl ⟨(blk_cell BK280.out 0).trans rfl, (blk_cell BK280.out 1).trans rfl, (blk_cell BK280.out 2).trans rfl, (blk_cell BK280.out 3).trans rfl, (blk_cell BK280.out 4).trans rfl, (blk_cell BK280.out 5).trans rfl, (blk_cell BK280.out 6).trans rfl, (blk_cell BK280.out 7).trans rfl⟩ (fun hHeld => ?_); refine with_tabW laws_FnExactAddDevice.tab27 laws_FnExactAddDevice.bits27 (fun HT_ HW_ => ?_)
            generalize w75.drew = w76 at HO_6 HO_9 BK280 HB hHeld ⊢
            refine pz 0 85 mk13_1 (any_of HT_.out (by kernel_rfl)) ?_
            refine take_ (i := 2) (N := some 87) (v := ?_) (a' := ?_) mk13_2 rfl rfl (take_ofW HT_.out HW_.out (by kernel_rfl)) (fun _ _ _ h => h) (Or.inl ⟨by rfl, ?_⟩) hHeld ?_ ?_
            rotate_left
            ·rintro w' ⟨s0, s1, s2, s3, s4, s5, s6, s7⟩
             exact gs
            rotate_left
            ·exact ap
            refine one_ (i := 1) (N := some 86) mk13_3 rfl rfl (one_of HT_.out (by kernel_rfl)) (by decide) (fun K hK => ?_)
            refine goes_ Try.func21 (by kernel_rfl) rfl #[.slice A0 l0.length c0] (by rfl) rfl rfl u13_2 ?_
            with_reducible refine (laws_toDeviceS.calls kj46 _ _ l0 t324 _ ?side1 ?side2 A69.out).mono ?_
            (case side1 => exact y13_0)
            (case side2 => exact HC0.out)
            rintro e w77 ⟨v325, rfl, ho0, hb⟩
            refine ⟨_, rfl, ?_⟩
            have n0_ := Aside0.mk (Kd.R_elder' u13_4 (Kd.R_base ho0) hb)
            have n1_ := Aside0.mk (Kd.R_elder' u13_3 (Kd.R_base ho0) hb)
            have n2_ := Aside0.mk (Kd.R_lower (Kd.R_new' (Kd.R_new' ho0 (Kd.R_lt u13_4)) (Kd.R_lt u13_3)) (below_size u13_0))
            have n3_ := Aside0.mk (blk_below (g := gb280) (o := .cells #[.string a1_0, .int .i64 a1_1, .string a1_2, .int .i64 a1_3, .int .i64 a1_4, .int .i64 a1_5, .int .i64 a1_6, .int .i64 a1_7] 25 (0, 0)) u13_1 hb)
            have n4_ := Aside0.mk (below_step u13_0 hb)
            clear HO_6
            clear HO_9
            clear BK280
            clear HB
            have HO_6 := n0_
            have HO_9 := n1_
            have HO326 := n2_
            have BK280 := n3_
            have HB := n4_
            clear n0_ n1_ n2_ n3_ n4_
            (try clear hb)
            (try clear hb2)
            (try clear hk)
            (try clear hi)
            (try clear ho0)
            refine hK.out _ _ ⟨(blk_cell BK280.out 0).trans rfl, (blk_cell BK280.out 1).trans rfl, (blk_cell BK280.out 2).trans rfl, (blk_cell BK280.out 3).trans rfl, (blk_cell BK280.out 4).trans rfl, (blk_cell BK280.out 5).trans rfl, (blk_cell BK280.out 6).trans rfl, (blk_cell BK280.out 7).trans rfl⟩ (fun hHeld => ?_)
            clear hK K
            refine norm_ (a' := ?_) ?_ ?_
            rotate_left
            ·show Act.put _ (some 86) _ = _
             simp only [Act.put, List.setIfInBounds_toArray, List.set_cons_zero, List.set_cons_succ, i64_w, i32_w]
             rfl
            refine one_ (i := 3) (N := some 88) mk13_4 rfl rfl (one_of HT_.out (by kernel_rfl)) (by decide) (fun K hK => ?_)
            refine goes_ Try.func17 (by kernel_rfl) rfl #[.agg #[.string a1_0, .int .i64 a1_1, .string a1_2, .int .i64 a1_3, .int .i64 a1_4, .int .i64 a1_5, .int .i64 a1_6, .int .i64 a1_7]] (by rfl) rfl rfl u13_2 ?_
            with_reducible refine (laws_toDevice.calls a1_0 a1_1 a1_2 a1_3 a1_4 a1_5 a1_6 a1_7 t327 t328 t329 t330 t331 t332 t333 t334 _ A70.out).mono ?_
            rintro e w78 ⟨rfl, hb⟩
            refine ⟨_, rfl, ?_⟩
            have n0_ := Aside0.mk (Kd.R_below u13_4 hb)
            have n1_ := Aside0.mk (Kd.R_below u13_3 hb)
            have n2_ := Aside0.mk (Kd.R_below u13_10 hb)
            have n3_ := Aside0.mk (blk_below (g := gb280) (o := .cells #[.string a1_0, .int .i64 a1_1, .string a1_2, .int .i64 a1_3, .int .i64 a1_4, .int .i64 a1_5, .int .i64 a1_6, .int .i64 a1_7] 25 (0, 0)) u13_1 hb)
            have n4_ := Aside0.mk (below_step u13_0 hb)
            clear HO_6
            clear HO_9
            clear HO326
            clear BK280
            clear HB
            have HO_6 := n0_
            have HO_9 := n1_
            have HO326 := n2_
            have BK280 := n3_
            have HB := n4_
            clear n0_ n1_ n2_ n3_ n4_
            (try clear hb)
            (try clear hb2)
            (try clear hk)
            (try clear hi)
            obtain ⟨Ao79, co79, eo79⟩ := Kd.R_slice HO326.out
            (first | subst eo79 | (injection eo79 with f1_ f2_ f3_; have f4_ := f1_.symm; have f5_ := f3_.symm; clear f1_ f2_ f3_; subst f4_; subst f5_))
            refine hK.out _ _ ⟨(blk_cell BK280.out 0).trans rfl, (blk_cell BK280.out 1).trans rfl, (blk_cell BK280.out 2).trans rfl, (blk_cell BK280.out 3).trans rfl, (blk_cell BK280.out 4).trans rfl, (blk_cell BK280.out 5).trans rfl, (blk_cell BK280.out 6).trans rfl, (blk_cell BK280.out 7).trans rfl⟩ (fun hHeld => ?_)
            clear hK K
            refine norm_ (a' := ?_) ?_ ?_
            rotate_left
            ·show Act.put _ (some 88) _ = _
             simp only [Act.put, List.setIfInBounds_toArray, List.set_cons_zero, List.set_cons_succ, i64_w, i32_w]
             rfl
            refine one_ (i := 4) (N := some 89) mk13_5 rfl rfl (one_of HT_.out (by kernel_rfl)) (by decide) (fun K hK => ?_)
            refine goes_ Try.func48 (by kernel_rfl) rfl #[.slice Ao79 t324.length co79, .agg #[.string t327, .int .i64 t328, .string t329, .int .i64 t330, .int .i64 t331, .int .i64 t332, .int .i64 t333, .int .i64 t334]] (by rfl) rfl rfl u13_2 ?_
            with_reducible refine (impl_AddDevice.calls kj46 _ _ t324 t327 t328 t329 t330 t331 t332 t333 t334 t335 t338 _ ?side1 ?side2 A71.out).mono ?_
            (case side1 => repeat (first | exact (Kd.R_reads' HO326.out).2.2 | (with_reducible refine Kd.C_alloc ?_ _) | (with_reducible refine Kd.C_drewN ?_ _) | (with_reducible refine Kd.C_drew ?_)))
            (case side2 => exact (Kd.R_reads' HO326.out).2.1)
            rintro e w80 ⟨v336, rfl, ho0, hb⟩
            refine ⟨_, rfl, ?_⟩
            have n0_ := Aside0.mk (Kd.R_elder' u13_4 (Kd.R_base ho0) hb)
            have n1_ := Aside0.mk (Kd.R_elder' u13_3 (Kd.R_base ho0) hb)
            have n2_ := Aside0.mk (Kd.R_elder' u13_10 (Kd.R_base ho0) hb)
            have n3_ := Aside0.mk (Kd.R_lower (Kd.R_new' (Kd.R_new' (Kd.R_new' ho0 (Kd.R_lt u13_4)) (Kd.R_lt u13_3)) (Kd.R_lt u13_10)) (below_size u13_0))
            have n4_ := Aside0.mk (blk_below (g := gb280) (o := .cells #[.string a1_0, .int .i64 a1_1, .string a1_2, .int .i64 a1_3, .int .i64 a1_4, .int .i64 a1_5, .int .i64 a1_6, .int .i64 a1_7] 25 (0, 0)) u13_1 hb)
            have n5_ := Aside0.mk (below_step u13_0 hb)
            clear HO_6
            clear HO_9
            clear HO326
            clear BK280
            clear HB
            have HO_6 := n0_
            have HO_9 := n1_
            have HO326 := n2_
            have HO337 := n3_
            have BK280 := n4_
            have HB := n5_
            clear n0_ n1_ n2_ n3_ n4_ n5_
            (try clear hb)
            (try clear hb2)
            (try clear hk)
            (try clear hi)
            (try clear ho0)
            refine hK.out _ _ ⟨(blk_cell BK280.out 0).trans rfl, (blk_cell BK280.out 1).trans rfl, (blk_cell BK280.out 2).trans rfl, (blk_cell BK280.out 3).trans rfl, (blk_cell BK280.out 4).trans rfl, (blk_cell BK280.out 5).trans rfl, (blk_cell BK280.out 6).trans rfl, (blk_cell BK280.out 7).trans rfl⟩ (fun hHeld => ?_)
            clear hK K
            refine norm_ (a' := ?_) ?_ ?_
            rotate_left
            ·show Act.put _ (some 89) _ = _
             simp only [Act.put, List.setIfInBounds_toArray, List.set_cons_zero, List.set_cons_succ, i64_w, i32_w]
             rfl
            refine pz 5 84 mk13_6 (any_of HT_.out (by kernel_rfl)) ?_
            refine pz 6 90 mk13_7 (any_of HT_.out (by kernel_rfl)) ?_
            refine pz 7 91 mk13_8 (any_of HT_.out (by kernel_rfl)) ?_
            refine pz 8 14 mk13_9 (any_of HT_.out (by kernel_rfl)) ?_
            refine pz 9 15 mk13_10 (any_of HT_.out (by kernel_rfl)) ?_
            refine done_ (done_of HT_.out (by kernel_rfl)) ?_
            go_upto_region 28 with (fail)
            go_cut [100] (fun v100 wc => ∃ (kq : Nat) (x100_71 : Bool), v100 = .bool x100_71 ∧ Aside0 (laws_FnExactAddDevice.j2 kq t322 t321 x100_71 = some r) ∧ Aside0 (kq ≤ kj46) ∧ Aside0 (Kd.R k30 30 wc w.heap.size (fun _ => True) (.slice Ao73 t309.length co73) t322) ∧ Aside0 (wc.heap[gb280]? = some (.cells #[.string a1_0, .int .i64 a1_1, .string a1_2, .int .i64 a1_3, .int .i64 a1_4, .int .i64 a1_5, .int .i64 a1_6, .int .i64 a1_7] 25 (0, 0))) ∧ Aside0 (Below w.heap.size w wc))
            case first =>
             have H := HC72.out
             clear HC72
             replace H := Option.bind_eq_some_iff.mp H
             obtain ⟨t339, A810, H⟩ := H
             replace H : (if t339 = true then (laws_FnExactAddDevice.j2 kj46 t322 t321 (t338 != t297)) else (laws_FnExactAddDevice.j2 kj46 t322 t321 true)) = some r := H
             have A81 := Aside0.mk A810
             clear A810
             by_cases c82 : t339 = true
             ·subst c82
              have H1 : (laws_FnExactAddDevice.j2 kj46 t322 t321 (t338 != t297)) = some r := by rw [if_pos rfl] at H; exact H
              clear H
              have H := H1
              clear H1
              have H' := Aside0.mk H
              clear H
              obtain ⟨Ao83, co83, eo83⟩ := Kd.R_slice HO337.out
              subst eo83
              obtain ⟨Ao84, co84, eo84⟩ := Kd.R_slice HO_6.out
              subst eo84
              go_wp2_with (first | ((with_reducible refine gate_callee (f := 23) rfl ?_); refine goesL_ (some 94) rfl rfl Try.func23 (by kernel_rfl) rfl #[.slice Ao83 t335.length co83, .slice Ao84 t294.length co84] rfl u13_2 ?_; (with_reducible refine (laws_eqDeviceS.calls kj46 _ _ t335 _ _ t294 true _ ?side1 ?side2 ?side3 ?side4 A81.out).mono ?_); (case side1 => exact y13_3); (case side2 => exact (Kd.R_reads' HO337.out).2.1); (case side3 => exact y13_8); (case side4 => exact (Kd.R_reads' HO_6.out).2.1); rintro e w85 ⟨rfl, hb⟩; refine ⟨_, rfl, ?_⟩; have n0_ := Aside0.mk (Kd.R_below u13_4 hb); have n1_ := Aside0.mk (Kd.R_below u13_3 hb); have n2_ := Aside0.mk (Kd.R_below u13_10 hb); have n3_ := Aside0.mk (Kd.R_below (by (with_reducible repeat (first | apply Kd.R_alloc | apply Kd.R_drewN | apply Kd.R_drew)); exact HO337.out) hb); have n4_ := Aside0.mk (blk_below (g := gb280) (o := .cells #[.string a1_0, .int .i64 a1_1, .string a1_2, .int .i64 a1_3, .int .i64 a1_4, .int .i64 a1_5, .int .i64 a1_6, .int .i64 a1_7] 25 (0, 0)) u13_1 hb); have n5_ := Aside0.mk (below_step u13_0 hb); clear HO_6; clear HO_9; clear HO326; clear HO337; clear BK280; clear HB; have HO_6 := n0_; have HO_9 := n1_; have HO326 := n2_; have HO337 := n3_; have BK280 := n4_; have HB := n5_; clear n0_ n1_ n2_ n3_ n4_ n5_; (try clear hb); (try clear hb2); (try clear hk); (try clear hi)))
              go_meet
              case rel => exact ⟨_, ((t338 != t297)), u13_13, H', ⟨by have := HJ18.out; have := HJ46.out; first | omega | exact Nat.le_refl _⟩, ⟨by (with_reducible repeat (first | apply Kd.R_alloc | apply Kd.R_drewN | apply Kd.R_drew)); exact Kd.R_mono HO_9.out (fun _ hk => trivial)⟩, ⟨by (with_reducible repeat (first | refine blk_drewN ?_ _ | refine blk_drew ?_ | refine blk_alloc ?_ _)); exact BK280.out⟩, ⟨by repeat (first | (with_reducible first | exact HB.out | apply below_alloc | apply pw_below_drewN | apply below_drew1 | refine below_set ?_ GE280.out) | exact HB.out)⟩⟩
             ·replace c82 := Bool.eq_false_iff.mpr c82
              subst c82
              have H1 : (laws_FnExactAddDevice.j2 kj46 t322 t321 true) = some r := by rw [if_neg (show ¬ (false = true) by decide)] at H; exact H
              clear H
              have H := H1
              clear H1
              have H' := Aside0.mk H
              clear H
              obtain ⟨Ao86, co86, eo86⟩ := Kd.R_slice HO337.out
              subst eo86
              obtain ⟨Ao87, co87, eo87⟩ := Kd.R_slice HO_6.out
              subst eo87
              go_wp2_with (first | ((with_reducible refine gate_callee (f := 23) rfl ?_); refine goesL_ (some 94) rfl rfl Try.func23 (by kernel_rfl) rfl #[.slice Ao86 t335.length co86, .slice Ao87 t294.length co87] rfl u13_2 ?_; (with_reducible refine (laws_eqDeviceS.calls kj46 _ _ t335 _ _ t294 false _ ?side1 ?side2 ?side3 ?side4 A81.out).mono ?_); (case side1 => exact y13_3); (case side2 => exact (Kd.R_reads' HO337.out).2.1); (case side3 => exact y13_8); (case side4 => exact (Kd.R_reads' HO_6.out).2.1); rintro e w88 ⟨rfl, hb⟩; refine ⟨_, rfl, ?_⟩; have n0_ := Aside0.mk (Kd.R_below u13_4 hb); have n1_ := Aside0.mk (Kd.R_below u13_3 hb); have n2_ := Aside0.mk (Kd.R_below u13_10 hb); have n3_ := Aside0.mk (Kd.R_below (by (with_reducible repeat (first | apply Kd.R_alloc | apply Kd.R_drewN | apply Kd.R_drew)); exact HO337.out) hb); have n4_ := Aside0.mk (blk_below (g := gb280) (o := .cells #[.string a1_0, .int .i64 a1_1, .string a1_2, .int .i64 a1_3, .int .i64 a1_4, .int .i64 a1_5, .int .i64 a1_6, .int .i64 a1_7] 25 (0, 0)) u13_1 hb); have n5_ := Aside0.mk (below_step u13_0 hb); clear HO_6; clear HO_9; clear HO326; clear HO337; clear BK280; clear HB; have HO_6 := n0_; have HO_9 := n1_; have HO326 := n2_; have HO337 := n3_; have BK280 := n4_; have HB := n5_; clear n0_ n1_ n2_ n3_ n4_ n5_; (try clear hb); (try clear hb2); (try clear hk); (try clear hi)))
              go_meet
              case rel => exact ⟨_, (true), u13_13, H', ⟨by have := HJ18.out; have := HJ46.out; first | omega | exact Nat.le_refl _⟩, ⟨by (with_reducible repeat (first | apply Kd.R_alloc | apply Kd.R_drewN | apply Kd.R_drew)); exact Kd.R_mono HO_9.out (fun _ hk => trivial)⟩, ⟨by (with_reducible repeat (first | refine blk_drewN ?_ _ | refine blk_drew ?_ | refine blk_alloc ?_ _)); exact BK280.out⟩, ⟨by repeat (first | (with_reducible first | exact HB.out | apply below_alloc | apply pw_below_drewN | apply below_drew1 | refine below_set ?_ GE280.out) | exact HB.out)⟩⟩
            case rest =>
             clear HC72
             try clear c1
             try clear c2
             try clear p2
             try clear c3
             try clear c4
             try clear c4b0
             try clear c5
             try clear c6
             try clear c8
             try clear c8b0
             try clear c13
             try clear c15
             try clear c17
             try clear c19
             try clear c21
             try clear c23
             try clear c35
             try clear c36
             try clear c41
             try clear c42
             try clear c45
             try clear c47
             try clear c48
             try clear c52
             try clear c52b0
             try clear c54
             try clear c61
             try clear c64
             try clear c64b0
             try clear c68
             try clear c68b0
             try clear c68b1
             try clear c82
             try clear hcz11_0
             try clear hcz11_1
             try clear hcz11_2
             try clear hcz11_3
             try clear hcz11_4
             try clear hcz11_5
             try clear hcz11_6
             try clear hcz11_7
             try clear hcz22_0
             try clear hcz22_1
             try clear hcz22_2
             try clear hcz22_3
             try clear hcz22_4
             try clear hcz22_5
             try clear hcz22_6
             try clear hcz22_7
             try clear hcz30_0
             try clear hcz30_1
             try clear hcz30_2
             try clear hcz30_3
             try clear hcz30_4
             try clear hcz30_5
             try clear hcz30_6
             try clear hcz30_7
             try clear hfz11_0
             try clear hfz11_1
             try clear hfz11_2
             try clear hfz11_3
             try clear hfz11_4
             try clear hfz11_5
             try clear hfz11_6
             try clear hfz11_7
             try clear hfz22_0
             try clear hfz22_1
             try clear hfz22_2
             try clear hfz22_3
             try clear hfz22_4
             try clear hfz22_5
             try clear hfz22_6
             try clear hfz22_7
             try clear hfz30_0
             try clear hfz30_1
             try clear hfz30_2
             try clear hfz30_3
             try clear hfz30_4
             try clear hfz30_5
             try clear hfz30_6
             try clear hfz30_7
             try clear p2
             obtain ⟨kq, x100_71, rfl, HA, HJ71, HO_9, BK280, HB⟩ := hcut
             have hl9_71 := (Kd.R_reads' HO_9.out).1
             rw [hl9_71] at HO_9
             (try simp only [hl9_71])
             (try simp only [hl9_71] at BK280)
             cases kq with
             | zero => exact absurd HA.out (by simp [laws_FnExactAddDevice.j2])
             | succ kj71 =>
              have H := HA.out
              clear HA
              simp only [laws_FnExactAddDevice.j2] at H
              by_cases c89 : x100_71 = true
              ·subst c89
               have H1 : (some false) = some r := by rw [if_pos rfl] at H; exact H
               clear H
               have H := H1
               clear H1
               obtain rfl := Option.some.inj H
               go_wp2
               go_ret
               exact ⟨by first | rfl | (simp [*] <;> rfl), by repeat (first | (with_reducible first | exact HB.out | apply below_alloc | apply pw_below_drewN | apply below_drew1 | refine below_set ?_ GE280.out) | exact HB.out)⟩
              ·replace c89 := Bool.eq_false_iff.mpr c89
               subst c89
               have H1 : ((laws_heldDeviceS.f kj71 t322 1).bind fun t340 => (if t340 < 0 then (some false) else (if t340 = t321 then (some true) else (some false)))) = some r := by rw [if_neg (show ¬ (false = true) by decide)] at H; exact H
               clear H
               have H := H1
               clear H1
               replace H := Option.bind_eq_some_iff.mp H
               obtain ⟨t340, A900, H⟩ := H
               replace H : (if t340 < 0 then (some false) else (if t340 = t321 then (some true) else (some false))) = some r := H
               have A90 := Aside0.mk A900
               clear A900
               by_cases c91 : t340 < 0
               ·rw [if_pos c91] at H
                have c91b0 : decide (t340 < 0) = true := decide_eq_true c91
                clear c91
                obtain rfl := Option.some.inj H
                go_wp2_with (first | ((with_reducible refine gate_callee (f := 41) rfl ?_); refine goesL_ (some 103) rfl rfl Try.func41 (by kernel_rfl) rfl #[.slice Ao73 t322.length co73, .int .i64 1] rfl u13_2 ?_; (with_reducible refine (laws_heldDeviceS.calls kj71 _ _ t322 1 t340 _ ?side1 ?side2 A90.out).mono ?_); (case side1 => exact y13_5); (case side2 => exact (Kd.R_reads' HO_9.out).2.1); rintro e w92 ⟨rfl, hb⟩; refine ⟨_, rfl, ?_⟩; have n0_ := Aside0.mk (Kd.R_below u13_3 hb); have n1_ := Aside0.mk (blk_below (g := gb280) (o := .cells #[.string a1_0, .int .i64 a1_1, .string a1_2, .int .i64 a1_3, .int .i64 a1_4, .int .i64 a1_5, .int .i64 a1_6, .int .i64 a1_7] 25 (0, 0)) u13_1 hb); have n2_ := Aside0.mk (below_step u13_0 hb); clear HO_9; clear BK280; clear HB; have HO_9 := n0_; have BK280 := n1_; have HB := n2_; clear n0_ n1_ n2_; (try clear hb); (try clear hb2); (try clear hk); (try clear hi)))
                go_ret
                exact ⟨by first | rfl | (simp [*] <;> rfl), by repeat (first | (with_reducible first | exact HB.out | apply below_alloc | apply pw_below_drewN | apply below_drew1 | refine below_set ?_ GE280.out) | exact HB.out)⟩
               ·rw [if_neg c91] at H
                have c91b0 : decide (t340 < 0) = false := decide_eq_false c91
                (try simp only [hl9_71] at c91b0)
                clear c91
                by_cases c93 : t340 = t321
                ·rw [if_pos c93] at H
                 have c93b0 : (t340 == t321) = true := beq_iff_eq.mpr c93
                 have c93b1 : (t340 != t321) = false := bne_eq_false_iff_eq.mpr c93
                 clear c93
                 obtain rfl := Option.some.inj H
                 go_wp2_with (first | ((with_reducible refine gate_callee (f := 41) rfl ?_); refine goesL_ (some 103) rfl rfl Try.func41 (by kernel_rfl) rfl #[.slice Ao73 t322.length co73, .int .i64 1] rfl u13_2 ?_; (with_reducible refine (laws_heldDeviceS.calls kj71 _ _ t322 1 t340 _ ?side1 ?side2 A90.out).mono ?_); (case side1 => exact y13_5); (case side2 => exact (Kd.R_reads' HO_9.out).2.1); rintro e w94 ⟨rfl, hb⟩; refine ⟨_, rfl, ?_⟩; have n0_ := Aside0.mk (Kd.R_below u13_3 hb); have n1_ := Aside0.mk (blk_below (g := gb280) (o := .cells #[.string a1_0, .int .i64 a1_1, .string a1_2, .int .i64 a1_3, .int .i64 a1_4, .int .i64 a1_5, .int .i64 a1_6, .int .i64 a1_7] 25 (0, 0)) u13_1 hb); have n2_ := Aside0.mk (below_step u13_0 hb); clear HO_9; clear BK280; clear HB; have HO_9 := n0_; have BK280 := n1_; have HB := n2_; clear n0_ n1_ n2_; (try clear hb); (try clear hb2); (try clear hk); (try clear hi)))
                 go_ret
                 exact ⟨by first | rfl | (simp [*] <;> rfl), by repeat (first | (with_reducible first | exact HB.out | apply below_alloc | apply pw_below_drewN | apply below_drew1 | refine below_set ?_ GE280.out) | exact HB.out)⟩
                ·rw [if_neg c93] at H
                 have c93b0 : (t340 == t321) = false := beq_eq_false_iff_ne.mpr c93
                 have c93b1 : (t340 != t321) = true := bne_iff_ne.mpr c93
                 obtain rfl := Option.some.inj H
                 go_wp2_with (first | ((with_reducible refine gate_callee (f := 41) rfl ?_); refine goesL_ (some 103) rfl rfl Try.func41 (by kernel_rfl) rfl #[.slice Ao73 t322.length co73, .int .i64 1] rfl u13_2 ?_; (with_reducible refine (laws_heldDeviceS.calls kj71 _ _ t322 1 t340 _ ?side1 ?side2 A90.out).mono ?_); (case side1 => exact y13_5); (case side2 => exact (Kd.R_reads' HO_9.out).2.1); rintro e w95 ⟨rfl, hb⟩; refine ⟨_, rfl, ?_⟩; have n0_ := Aside0.mk (Kd.R_below u13_3 hb); have n1_ := Aside0.mk (blk_below (g := gb280) (o := .cells #[.string a1_0, .int .i64 a1_1, .string a1_2, .int .i64 a1_3, .int .i64 a1_4, .int .i64 a1_5, .int .i64 a1_6, .int .i64 a1_7] 25 (0, 0)) u13_1 hb); have n2_ := Aside0.mk (below_step u13_0 hb); clear HO_9; clear BK280; clear HB; have HO_9 := n0_; have BK280 := n1_; have HB := n2_; clear n0_ n1_ n2_; (try clear hb); (try clear hb2); (try clear hk); (try clear hi)))
                 go_ret
                 exact ⟨by first | rfl | (simp [*] <;> rfl), by repeat (first | (with_reducible first | exact HB.out | apply below_alloc | apply pw_below_drewN | apply below_drew1 | refine below_set ?_ GE280.out) | exact HB.out)⟩
           ·rw [if_neg c68] at H
            have c68b0 : (t323 == t321) = false := beq_eq_false_iff_ne.mpr c68
            have c68b1 : (t323 != t321) = true := bne_iff_ne.mpr c68
            obtain rfl := Option.some.inj H
            obtain ⟨Ao96, co96, eo96⟩ := Kd.R_slice HO_9.out
            subst eo96
            go_wp2_with (first | ((with_reducible refine gate_callee (f := 36) rfl ?_); refine goesL_ (some 75) rfl rfl Try.func36 (by kernel_rfl) rfl #[.slice Ao96 t309.length co96, .int .i64 1] rfl u13_2 ?_; (with_reducible refine (laws_markDeviceS.calls kj46 (fun k_ => some k_ = (.slice Ao96 t309.length co96 : Value).ownBlock) (.slice Ao96 t309.length co96) t309 1 t321 t322 w _ ?side1 ?side2 A62.out).mono ?_); (case side1 => repeat (first | (with_reducible first | exact HB.out | apply below_alloc | apply pw_below_drewN | apply below_drew1 | refine below_set ?_ GE280.out) | exact HB.out)); (case side2 => exact Kd.R_tight rfl HO_9.out); rintro e w97 ⟨rfl, hy0, hb, hkp⟩; refine ⟨_, rfl, ?_⟩; have n0_ := Aside0.mk (Kd.R_mono (ok' := fun k_ => some k_ ≠ (.slice Ao96 t309.length co96 : Value).ownBlock) (Kd.R_keptB (HO_6.out) hkp (fun k_ hk_ hs_ => (hk_) hs_)) (fun k_ hk_ => hk_.1)); have n1_ := Aside0.mk (Kd.R_reok rfl hy0 (fun k_ e_ => HO_9.out.1 k_ e_)); have n2_ := Aside0.mk (blk_kept u13_1 hkp (fun hs_ => (fun e_ => (Kd.R_ne HO_9.out BK280.out (by decide)) e_) hs_)); have n3_ := Aside0.mk (hb); clear HO_6; clear HO_9; clear BK280; clear HB; have HO_6 := n0_; have HO_9 := n1_; have BK280 := n2_; have HB := n3_; clear n0_ n1_ n2_ n3_; (try clear hb); (try clear hkp); (try clear hy0)) | ((with_reducible refine gate_callee (f := 41) rfl ?_); refine goesL_ (some 78) rfl rfl Try.func41 (by kernel_rfl) rfl #[.slice Ao96 t322.length co96, .int .i64 1] rfl u13_9 ?_; (with_reducible refine (laws_heldDeviceS.calls kj46 _ _ t322 1 t323 _ ?side1 ?side2 A63.out).mono ?_); (case side1 => exact y13_5); (case side2 => rw [show t322.length = t309.length from (Kd.R_reads' HO_9.out).1.symm]; exact (Kd.R_reads' HO_9.out).2.1); rintro e w98 ⟨rfl, hb⟩; refine ⟨_, rfl, ?_⟩; have n0_ := Aside0.mk (Kd.R_below u13_4 hb); have n1_ := Aside0.mk (Kd.R_below u13_3 hb); have n2_ := Aside0.mk (blk_below (g := gb280) (o := .cells #[.string a1_0, .int .i64 a1_1, .string a1_2, .int .i64 a1_3, .int .i64 a1_4, .int .i64 a1_5, .int .i64 a1_6, .int .i64 a1_7] 25 (0, 0)) u13_1 hb); have n3_ := Aside0.mk (below_step u13_0 hb); clear HO_6; clear HO_9; clear BK280; clear HB; have HO_6 := n0_; have HO_9 := n1_; have BK280 := n2_; have HB := n3_; clear n0_ n1_ n2_ n3_; (try clear hb); (try clear hb2); (try clear hk); (try clear hi)))
            go_ret
            exact ⟨by first | rfl | (simp [*] <;> rfl), by repeat (first | (with_reducible first | exact HB.out | apply below_alloc | apply pw_below_drewN | apply below_drew1 | refine below_set ?_ GE280.out) | exact HB.out)⟩
      ·replace c45 := Bool.eq_false_iff.mpr c45
       subst c45
       have H1 : (some false) = some r := by rw [if_neg (show ¬ (false = true) by decide)] at H; exact H
       clear H
       have H := H1
       clear H1
       obtain rfl := Option.some.inj H
       go_wp2_with (first | ((with_reducible refine gate_callee (f := 21) rfl ?_); refine goesL_ (some 54) rfl rfl Try.func21 (by kernel_rfl) rfl #[.slice A0 l0.length c0] rfl u13_2 ?_; (with_reducible refine (laws_toDeviceS.calls kj18 _ _ l0 t314 _ ?side1 ?side2 A43.out).mono ?_); (case side1 => exact y13_0); (case side2 => exact HC0.out); rintro e w99 ⟨v315, rfl, ho0, hb⟩; refine ⟨_, rfl, ?_⟩; have n0_ := Aside0.mk (Kd.R_elder' u13_4 (Kd.R_base ho0) hb); have n1_ := Aside0.mk (Kd.R_elder' u13_7 (Kd.R_base ho0) hb); have n2_ := Aside0.mk (Kd.R_elder' u13_3 (Kd.R_base ho0) hb); have n3_ := Aside0.mk (Kd.R_lower (Kd.R_new' (Kd.R_new' (Kd.R_new' ho0 (Kd.R_lt u13_4)) (Kd.R_lt u13_7)) (Kd.R_lt u13_3)) (below_size u13_0)); have n4_ := Aside0.mk (blk_below (g := gb280) (o := .cells #[.string a1_0, .int .i64 a1_1, .string a1_2, .int .i64 a1_3, .int .i64 a1_4, .int .i64 a1_5, .int .i64 a1_6, .int .i64 a1_7] 25 (0, 0)) u13_1 hb); have n5_ := Aside0.mk (below_step u13_0 hb); clear HO_6; clear HO_8; clear HO_9; clear BK280; clear HB; have HO_6 := n0_; have HO_8 := n1_; have HO_9 := n2_; have HO316 := n3_; have BK280 := n4_; have HB := n5_; clear n0_ n1_ n2_ n3_ n4_ n5_; (try clear hb); (try clear hb2); (try clear hk); (try clear hi); (try clear ho0); obtain ⟨Ao100, co100, eo100⟩ := Kd.R_slice HO316.out; subst eo100) | ((with_reducible refine gate_callee (f := 23) rfl ?_); refine goesL_ (some 55) rfl rfl Try.func23 (by kernel_rfl) rfl #[.slice Ao32 t298.length co32, .slice Ao100 t314.length co100] rfl u13_2 ?_; (with_reducible refine (laws_eqDeviceS.calls kj18 _ _ t298 _ _ t314 false _ ?side1 ?side2 ?side3 ?side4 A44.out).mono ?_); (case side1 => exact y13_4); (case side2 => exact (Kd.R_reads' HO_8.out).2.1); (case side3 => exact y13_7); (case side4 => exact (Kd.R_reads' HO316.out).2.1); rintro e w101 ⟨rfl, hb⟩; refine ⟨_, rfl, ?_⟩; have n0_ := Aside0.mk (Kd.R_below u13_4 hb); have n1_ := Aside0.mk (Kd.R_below u13_7 hb); have n2_ := Aside0.mk (Kd.R_below u13_3 hb); have n3_ := Aside0.mk (Kd.R_below u13_12 hb); have n4_ := Aside0.mk (blk_below (g := gb280) (o := .cells #[.string a1_0, .int .i64 a1_1, .string a1_2, .int .i64 a1_3, .int .i64 a1_4, .int .i64 a1_5, .int .i64 a1_6, .int .i64 a1_7] 25 (0, 0)) u13_1 hb); have n5_ := Aside0.mk (below_step u13_0 hb); clear HO_6; clear HO_8; clear HO_9; clear HO316; clear BK280; clear HB; have HO_6 := n0_; have HO_8 := n1_; have HO_9 := n2_; have HO316 := n3_; have BK280 := n4_; have HB := n5_; clear n0_ n1_ n2_ n3_ n4_ n5_; (try clear hb); (try clear hb2); (try clear hk); (try clear hi)))
       go_ret
       exact ⟨by first | rfl | (simp [*] <;> rfl), by repeat (first | (with_reducible first | exact HB.out | apply below_alloc | apply pw_below_drewN | apply below_drew1 | refine below_set ?_ GE280.out) | exact HB.out)⟩

end Go.Proofs.Ytkedcokhcgklpaa.MFnExactAddDevice
