-- Written by a program for this claim.
import Derived.Test.YtkedcokhcgklpaaMFnLinesx0
import Derived.Test.YtkedcokhcgklpaaMFnLinesx2
import Derived.Test.YtkedcokhcgklpaaMFnLinesx4
namespace Go.Proofs.Ytkedcokhcgklpaa.MFnLines
open Go.RowKit Go.Proofs.YtkedcokhcgklpaaW.PrintWords Go.Proofs.YtkedcokhcgklpaaW.PrintLast Go.Proofs.YtkedcokhcgklpaaW.PrintMore
attribute [local go_sem] max2_int min2_int max_two min_two max_three min_three max_four min_four   -- for this text's walks alone
set_option linter.unusedVariables false
set_option linter.unusedSimpArgs false

theorem s5_0 {p : Prop} (h : p := by repeat (first | (with_reducible first | exact HB.out | apply below_alloc | apply pw_below_drewN | apply below_drew1) | exact HB.out)) : p := h
theorem y5_0 {p : Prop} (h : p := by repeat (first | exact (Kd.C_below HR0.out HB.out) | (with_reducible refine Kd.C_alloc ?_ _) | (with_reducible refine Kd.C_drewN ?_ _) | (with_reducible refine Kd.C_drew ?_))) : p := h
theorem y5_1 {p : Prop} (h : p := by repeat (first | exact HR0.out | (with_reducible refine Kd.C_alloc ?_ _) | (with_reducible refine Kd.C_drewN ?_ _) | (with_reducible refine Kd.C_drew ?_))) : p := h
abbrev mk5_0 : Array Bool := #[false, false, false, false, false, false, false, false, false, false, false, false, false, false, false, false, false, false, false, false, false, false, false, false, false, false, false, false, false, false, false, false]
abbrev mk5_1 : Array Bool := #[true, false, false, false, false, false, false, false, false, false, false, false, false, false, false, false, false, false, false, false, false, false, false, false, false, false, false, false, false, false, false, false]
abbrev mk5_2 : Array Bool := #[true, true, false, false, false, false, false, false, false, false, false, false, false, false, false, false, false, false, false, false, false, false, false, false, false, false, false, false, false, false, false, false]
abbrev mk5_3 : Array Bool := #[true, true, true, false, false, false, false, false, false, false, false, false, false, false, false, false, false, false, false, false, false, false, false, false, false, false, false, false, false, false, false, false]
abbrev mk5_4 : Array Bool := #[true, true, true, true, false, false, false, false, false, false, false, false, false, false, false, false, false, false, false, false, false, false, false, false, false, false, false, false, false, false, false, false]
abbrev mk5_5 : Array Bool := #[true, true, true, true, true, false, false, false, false, false, false, false, false, false, false, false, false, false, false, false, false, false, false, false, false, false, false, false, false, false, false, false]
abbrev mk5_6 : Array Bool := #[true, true, true, true, true, true, false, false, false, false, false, false, false, false, false, false, false, false, false, false, false, false, false, false, false, false, false, false, false, false, false, false]
abbrev mk5_7 : Array Bool := #[true, true, true, true, true, true, true, false, false, false, false, false, false, false, false, false, false, false, false, false, false, false, false, false, false, false, false, false, false, false, false, false]
abbrev mk5_8 : Array Bool := #[true, true, true, true, true, true, true, true, false, false, false, false, false, false, false, false, false, false, false, false, false, false, false, false, false, false, false, false, false, false, false, false]
abbrev mk5_9 : Array Bool := #[true, true, true, true, true, true, true, true, true, false, false, false, false, false, false, false, false, false, false, false, false, false, false, false, false, false, false, false, false, false, false, false]
abbrev mk5_10 : Array Bool := #[true, true, true, true, true, true, true, true, true, true, false, false, false, false, false, false, false, false, false, false, false, false, false, false, false, false, false, false, false, false, false, false]
abbrev mk5_11 : Array Bool := #[true, true, true, true, true, true, true, true, true, true, true, false, false, false, false, false, false, false, false, false, false, false, false, false, false, false, false, false, false, false, false, false]
abbrev mk5_12 : Array Bool := #[true, true, true, true, true, true, true, true, true, true, true, true, false, false, false, false, false, false, false, false, false, false, false, false, false, false, false, false, false, false, false, false]
abbrev mk5_13 : Array Bool := #[true, true, true, true, true, true, true, true, true, true, true, true, true, false, false, false, false, false, false, false, false, false, false, false, false, false, false, false, false, false, false, false]
abbrev mk5_14 : Array Bool := #[true, true, true, true, true, true, true, true, true, true, true, true, true, true, false, false, false, false, false, false, false, false, false, false, false, false, false, false, false, false, false, false]
abbrev mk5_15 : Array Bool := #[true, true, true, true, true, true, true, true, true, true, true, true, true, true, true, false, false, false, false, false, false, false, false, false, false, false, false, false, false, false, false, false]
abbrev mk5_16 : Array Bool := #[true, true, true, true, true, true, true, true, true, true, true, true, true, true, true, true, false, false, false, false, false, false, false, false, false, false, false, false, false, false, false, false]
abbrev mk5_17 : Array Bool := #[true, true, true, true, true, true, true, true, true, true, true, true, true, true, true, true, true, false, false, false, false, false, false, false, false, false, false, false, false, false, false, false]
abbrev mk5_18 : Array Bool := #[true, true, true, true, true, true, true, true, true, true, true, true, true, true, true, true, true, true, false, false, false, false, false, false, false, false, false, false, false, false, false, false]
abbrev mk5_19 : Array Bool := #[true, true, true, true, true, true, true, true, true, true, true, true, true, true, true, true, true, true, true, false, false, false, false, false, false, false, false, false, false, false, false, false]
abbrev mk5_20 : Array Bool := #[true, true, true, true, true, true, true, true, true, true, true, true, true, true, true, true, true, true, true, true, false, false, false, false, false, false, false, false, false, false, false, false]
abbrev mk5_21 : Array Bool := #[true, true, true, true, true, true, true, true, true, true, true, true, true, true, true, true, true, true, true, true, true, false, false, false, false, false, false, false, false, false, false, false]
abbrev mk5_22 : Array Bool := #[true, true, true, true, true, true, true, true, true, true, true, true, true, true, true, true, true, true, true, true, true, true, false, false, false, false, false, false, false, false, false, false]
abbrev mk5_23 : Array Bool := #[true, true, true, true, true, true, true, true, true, true, true, true, true, true, true, true, true, true, true, true, true, true, true, false, false, false, false, false, false, false, false, false]
abbrev mk5_28 : Array Bool := #[true, true, true, true, true, true, true, true, true, true, true, true, true, true, true, true, true, true, true, true, true, true, true, true, false, false, false, false, false, false, false, false]
abbrev mk5_29 : Array Bool := #[true, true, true, true, true, true, true, true, true, true, true, true, true, true, true, true, true, true, true, true, true, true, true, true, true, false, false, false, false, false, false, false]
abbrev mk5_30 : Array Bool := #[true, true, true, true, true, true, true, true, true, true, true, true, true, true, true, true, true, true, true, true, true, true, true, true, true, true, false, false, false, false, false, false]
abbrev mk5_31 : Array Bool := #[true, true, true, true, true, true, true, true, true, true, true, true, true, true, true, true, true, true, true, true, true, true, true, true, true, true, true, false, false, false, false, false]
abbrev mk5_32 : Array Bool := #[true, true, true, true, true, true, true, true, true, true, true, true, true, true, true, true, true, true, true, true, true, true, true, true, true, true, true, true, false, false, false, false]
abbrev mk5_33 : Array Bool := #[true, true, true, true, true, true, true, true, true, true, true, true, true, true, true, true, true, true, true, true, true, true, true, true, true, true, true, true, true, false, false, false]
abbrev mk5_34 : Array Bool := #[true, true, true, true, true, true, true, true, true, true, true, true, true, true, true, true, true, true, true, true, true, true, true, true, true, true, true, true, true, true, false, false]
abbrev mk5_35 : Array Bool := #[true, true, true, true, true, true, true, true, true, true, true, true, true, true, true, true, true, true, true, true, true, true, true, true, true, true, true, true, true, true, true, false]
abbrev mk5_36 : Array Bool := #[true, true, true, true, true, true, true, true, true, true, true, true, true, true, true, true, true, true, true, true, true, true, true, true, true, true, true, true, true, true, true, true]
theorem u5_0 {p : Prop} (h : p := by repeat (first | (with_reducible first | exact HB.out | apply below_alloc | apply pw_below_drewN | apply below_drew1) | exact HB.out)) : p := h
theorem u5_1 {p : Prop} (h : p := by (try simp only [List.map_toArray, List.map_cons, List.map_nil]); first | done | rfl) : p := h
/-! ### impl_SameLine: function 27 -/
def impl_SameLine.f (k : Nat) (l0 : List (S30)) (a1 : ByteArray) (a2 : ByteArray) : Option (Bool) := (impl_FindDevice.f k l0 a1).bind fun t133 => ((impl_FindDevice.f k l0 a2).bind fun t134 => ((impl_IsRig.f k l0).bind fun t135 => (if t135 = true then (if t133 ≥ 0 then (if t134 ≥ 0 then (if 0 ≤ t133 then (if t133 < (l0.length : Int) then (if ((rd_T30 l0 t133).f2).toList = ([] : List UInt8) then (some false) else (if 0 ≤ t134 then (if t134 < (l0.length : Int) then (some (((rd_T30 l0 t133).f2).toList == ((rd_T30 l0 t134).f2).toList)) else (none)) else (none))) else (none)) else (none)) else (some false)) else (some false)) else (some false))))
theorem impl_SameLine.mono : ∀ a0 a1 a2 k, LeO (impl_SameLine.f k a0 a1 a2) (impl_SameLine.f (k + 1) a0 a1 a2) := by
 intro a0 a1 a2 k
 unfold impl_SameLine.f
 repeat' first
   | (with_reducible exact impl_FindDevice.mono _ _ _)
   | (with_reducible exact impl_IsRig.mono _ _)
   | (with_reducible exact LeO.refl _)
   | (with_reducible exact LeO.none _)
   | (with_reducible refine LeO.ite ?_ ?_)
   | (with_reducible refine LeO.bind ?_ (fun _ => ?_))
def impl_SameLine.T2 : Bool × List (List Nat × List Nat) := (true, [([], []), ([0], [0]), ([1, 1], [1]), ([2], [2]), ([3, 2], [2, 3]), ([2, 4], [2, 4]), ([5, 2], [5]), ([6], [6]), ([7, 6], [6, 7]), ([6, 8], [6, 8]), ([9, 6], [9]), ([10], [10]), ([10], [10]), ([11, 12, 10], [10, 11, 12]), ([13, 10], [10, 13]), ([14, 10], [10, 14]), ([15, 10], [10, 15]), ([10, 16], [10, 16]), ([17, 10], [17]), ([18], [18]), ([18], [18]), ([19, 20, 18], [18, 19, 20]), ([21, 18], [18, 21]), ([22, 18], [18, 22]), ([18], [18]), ([18], [18]), ([24, 25, 18], [18, 24, 25]), ([26, 18], [18, 26]), ([27, 18], [18, 27]), ([23, 28, 18], [18, 23, 28]), ([18, 29], [18, 29]), ([30, 18, 0, 1, 2, 3, 4, 5, 6, 7, 8, 9, 10, 11, 12, 13, 14, 15, 16, 17, 18, 19, 20, 21, 22, 23, 24, 25, 26, 27, 28, 29, 30], [30])])
def impl_SameLine.B2 : List Nat := [0, 1, 3, 7, 15, 31, 63, 127, 255, 511, 1023, 2047, 2047, 8191, 16383, 32767, 65535, 131071, 262143, 524287, 524287, 2097151, 4194303, 8388607, 524287, 524287, 50855935, 117964799, 252182527, 536870911, 1073741823, 2147483647]
theorem impl_SameLine.tab2 : rtab .any (opsOf Try.f27 2) = impl_SameLine.T2 := by kernel_rfl
theorem impl_SameLine.bits2 : waitsOk impl_SameLine.T2.2 impl_SameLine.B2 = true := by kernel_rfl
set_option maxHeartbeats 8000000 in
set_option maxRecDepth 100000 in
theorem impl_SameLine.calls (k : Nat) (A0 : Option Addr) (c0 : Nat) (l0 : List (S30)) (a1 : ByteArray) (a2 : ByteArray) (r : Bool) (w : World) (hr0 : Kd.C k30 w A0 l0.length l0) (hc0 : l0.length ≤ c0) (h : impl_SameLine.f k l0 a1 a2 = some r) :
  Calls Try.prog 27 #[.slice A0 l0.length c0, .string a1, .string a2] w fun e w' => e = .returned (.bool r) ∧ Below w.heap.size w w' := by
 have HR0 := am hr0
 have HC0 := am hc0
 clear hr0 hc0
 have HB := am (Below.refl w.heap.size w)
 have H : ((impl_FindDevice.f k l0 a1).bind fun t133 => ((impl_FindDevice.f k l0 a2).bind fun t134 => ((impl_IsRig.f k l0).bind fun t135 => (if t135 = true then (if t133 ≥ 0 then (if t134 ≥ 0 then (if 0 ≤ t133 then (if t133 < (l0.length : Int) then (if ((rd_T30 l0 t133).f2).toList = ([] : List UInt8) then (some false) else (if 0 ≤ t134 then (if t134 < (l0.length : Int) then (some (((rd_T30 l0 t133).f2).toList == ((rd_T30 l0 t134).f2).toList)) else (none)) else (none))) else (none)) else (none)) else (some false)) else (some false)) else (some false))))) = some r := h
 clear h
 replace H := Option.bind_eq_some_iff.mp H
 obtain ⟨t133, A40, H⟩ := H
 replace H : ((impl_FindDevice.f k l0 a2).bind fun t134 => ((impl_IsRig.f k l0).bind fun t135 => (if t135 = true then (if t133 ≥ 0 then (if t134 ≥ 0 then (if 0 ≤ t133 then (if t133 < (l0.length : Int) then (if ((rd_T30 l0 t133).f2).toList = ([] : List UInt8) then (some false) else (if 0 ≤ t134 then (if t134 < (l0.length : Int) then (some (((rd_T30 l0 t133).f2).toList == ((rd_T30 l0 t134).f2).toList)) else (none)) else (none))) else (none)) else (none)) else (some false)) else (some false)) else (some false)))) = some r := H
 have A4 := am A40
 clear A40
 replace H := Option.bind_eq_some_iff.mp H
 obtain ⟨t134, A50, H⟩ := H
 replace H : ((impl_IsRig.f k l0).bind fun t135 => (if t135 = true then (if t133 ≥ 0 then (if t134 ≥ 0 then (if 0 ≤ t133 then (if t133 < (l0.length : Int) then (if ((rd_T30 l0 t133).f2).toList = ([] : List UInt8) then (some false) else (if 0 ≤ t134 then (if t134 < (l0.length : Int) then (some (((rd_T30 l0 t133).f2).toList == ((rd_T30 l0 t134).f2).toList)) else (none)) else (none))) else (none)) else (none)) else (some false)) else (some false)) else (some false))) = some r := H
 have A5 := am A50
 clear A50
 replace H := Option.bind_eq_some_iff.mp H
 obtain ⟨t135, A60, H⟩ := H
 replace H : (if t135 = true then (if t133 ≥ 0 then (if t134 ≥ 0 then (if 0 ≤ t133 then (if t133 < (l0.length : Int) then (if ((rd_T30 l0 t133).f2).toList = ([] : List UInt8) then (some false) else (if 0 ≤ t134 then (if t134 < (l0.length : Int) then (some (((rd_T30 l0 t133).f2).toList == ((rd_T30 l0 t134).f2).toList)) else (none)) else (none))) else (none)) else (none)) else (some false)) else (some false)) else (some false)) = some r := H
 have A6 := am A60
 clear A60
 by_cases c7 : t135 = true
 ·subst c7
  have H1 : (if t133 ≥ 0 then (if t134 ≥ 0 then (if 0 ≤ t133 then (if t133 < (l0.length : Int) then (if ((rd_T30 l0 t133).f2).toList = ([] : List UInt8) then (some false) else (if 0 ≤ t134 then (if t134 < (l0.length : Int) then (some (((rd_T30 l0 t133).f2).toList == ((rd_T30 l0 t134).f2).toList)) else (none)) else (none))) else (none)) else (none)) else (some false)) else (some false)) = some r := by rw [if_pos rfl] at H; exact H
  clear H
  have H := H1
  clear H1
  by_cases c8 : t133 ≥ 0
  ·rw [if_pos c8] at H
   have c8b0 : decide (0 ≤ t133) = true := decide_eq_true c8
   clear c8
   by_cases c9 : t134 ≥ 0
   ·rw [if_pos c9] at H
    have c9b0 : decide (0 ≤ t134) = true := decide_eq_true c9
    clear c9
    by_cases c10 : 0 ≤ t133
    ·rw [if_pos c10] at H
     have c10b0 : decide (0 ≤ t133) = true := decide_eq_true c10
     clear c10
     by_cases c11 : t133 < (l0.length : Int)
     ·rw [if_pos c11] at H
      have c11b0 : decide (t133 < (l0.length : Int)) = true := decide_eq_true c11
      clear c11
      by_cases c12 : ((rd_T30 l0 t133).f2).toList = ([] : List UInt8)
      ·rw [if_pos c12] at H
       have c12b0 : (((rd_T30 l0 t133).f2).toList == ([] : List UInt8)) = true := beq_iff_eq.mpr c12
       have c12b1 : (((rd_T30 l0 t133).f2).toList != ([] : List UInt8)) = false := bne_eq_false_iff_eq.mpr c12
       clear c12
       obtain rfl := Option.some.inj H
       go_enter Try.func27, Try.ntmps27
       try go_wp2_with (first | ((with_reducible refine gate_callee (f := 22) rfl ?_); refine goesL_ (some 11) rfl rfl Try.func22 (by kernel_rfl) rfl #[.slice A0 l0.length c0, .string a1] rfl u5_1 ?_; (with_reducible refine (impl_FindDevice.calls k _ _ l0 a1 t133 _ ?side1 ?side2 A4.out).mono ?_); (case side1 => exact y5_1); (case side2 => exact HC0.out); rintro e w13 ⟨rfl, hb⟩; refine ⟨_, rfl, ?_⟩; have n0_ := am (below_step u5_0 hb); clear HB; have HB := n0_; clear n0_; (try clear hb); (try clear hb2); (try clear hk); (try clear hi)) | ((with_reducible refine gate_callee (f := 22) rfl ?_); refine goesL_ (some 14) rfl rfl Try.func22 (by kernel_rfl) rfl #[.slice A0 l0.length c0, .string a2] rfl u5_1 ?_; (with_reducible refine (impl_FindDevice.calls k _ _ l0 a2 t134 _ ?side1 ?side2 A5.out).mono ?_); (case side1 => exact y5_0); (case side2 => exact HC0.out); rintro e w14 ⟨rfl, hb⟩; refine ⟨_, rfl, ?_⟩; have n0_ := am (below_step u5_0 hb); clear HB; have HB := n0_; clear n0_; (try clear hb); (try clear hb2); (try clear hk); (try clear hi)))
       have n0_ := am (below_drew1 HB.out)
       clear HB
       have HB := n0_
       clear n0_
       have p136 : 0 ≤ (t133 : Int) := od (by assumption)
       have q136 : t133 < (l0.length : Int) := od (by assumption)
       obtain ⟨ad136, e136, hx136_0, hx136_1, hx136_2, hx136_3, hx136_4, hx136_5, hx136_6, hx136_7⟩ := at_T30 HR0.out t133 p136 q136
       have hw136_7 := hx136_7
       have hw136_6 := hx136_6
       have hw136_5 := hx136_5
       have hw136_4 := hx136_4
       have hw136_3 := hx136_3
       have hw136_2 := hx136_2
       have hw136_1 := hx136_1
       have hw136_0 := hx136_0
       cases e136
       replace hx136_0 := bc HB.out hx136_0
       replace hx136_1 := bc HB.out hx136_1
       replace hx136_2 := bc HB.out hx136_2
       replace hx136_3 := bc HB.out hx136_3
       replace hx136_4 := bc HB.out hx136_4
       replace hx136_5 := bc HB.out hx136_5
       replace hx136_6 := bc HB.out hx136_6
       replace hx136_7 := bc HB.out hx136_7
       replace p136 := eq_true p136
       replace q136 := eq_true q136
       refine start_ (n := 32) (S := fun w' => zc2 w' (ad136.add ((t133).toNat * 8)) (rd_T30 l0 t133)) (ds := []) mk5_0 (by kernel_rfl) rfl rfl ⟨(bc HB.out hw136_0), (bc HB.out hw136_1), (bc HB.out hw136_2), (bc HB.out hw136_3), (bc HB.out hw136_4), (bc HB.out hw136_5), (bc HB.out hw136_6), (bc HB.out hw136_7)⟩ (fun hHeld => ?_); refine with_tabW impl_SameLine.tab2 impl_SameLine.bits2 (fun HT_ HW_ => ?_)
       generalize w14.drew = w15 at HB hx136_0 hx136_1 hx136_2 hx136_3 hx136_4 hx136_5 hx136_6 hx136_7 hHeld ⊢
       refine pz 0 15 mk5_1 (any_of HT_.out (by kernel_rfl)) ?_
       refine one_ (i := 1) (N := some 16) mk5_2 rfl rfl (one_of HT_.out (by kernel_rfl)) (by decide) (fun K hK => ?_)
       refine goes_ Try.func25 (by kernel_rfl) rfl #[.slice (some ad136) l0.length c0] (by rfl) rfl rfl u5_1 ?_
       with_reducible refine (impl_IsRig.calls k _ _ l0 true _ ?side1 ?side2 A6.out).mono ?_
       (case side1 => exact y5_0)
       (case side2 => exact HC0.out)
       rintro e w16 ⟨rfl, hb⟩
       refine ⟨_, rfl, ?_⟩
       have n0_ := am (below_step u5_0 hb)
       clear HB
       have HB := n0_
       clear n0_
       (try clear hb)
       (try clear hb2)
       (try clear hk)
       (try clear hi)
       refine hK.out _ _ ⟨(bc HB.out hw136_0), (bc HB.out hw136_1), (bc HB.out hw136_2), (bc HB.out hw136_3), (bc HB.out hw136_4), (bc HB.out hw136_5), (bc HB.out hw136_6), (bc HB.out hw136_7)⟩ (fun hHeld => ?_)
       clear hK K
       refine norm_ (a' := ?_) ?_ ?_
       rotate_left
       ·show Act.put _ (some 16) _ = _
        simp only [Act.put, List.setIfInBounds_toArray, List.set_cons_zero, List.set_cons_succ, i64_w, i32_w]
        rfl
       refine pz 2 17 mk5_3 (any_of HT_.out (by kernel_rfl)) ?_
       refine pz 3 18 mk5_4 (any_of HT_.out (by kernel_rfl)) ?_
       refine pz 4 19 mk5_5 (any_of HT_.out (by kernel_rfl)) ?_
       refine pz 5 20 mk5_6 (any_of HT_.out (by kernel_rfl)) ?_
       refine pz 6 21 mk5_7 (any_of HT_.out (by kernel_rfl)) ?_
       refine pz 7 22 mk5_8 (any_of HT_.out (by kernel_rfl)) ?_
       refine pz 8 23 mk5_9 (any_of HT_.out (by kernel_rfl)) ?_
       refine pz 9 24 mk5_10 (any_of HT_.out (by kernel_rfl)) ?_
       refine pz 10 25 mk5_11 (any_of HT_.out (by kernel_rfl)) ?_
       refine pz 11 26 mk5_12 (any_of HT_.out (by kernel_rfl)) ?_
       refine pz 12 27 mk5_13 (any_of HT_.out (by kernel_rfl)) ?_
       refine pz 13 28 mk5_14 (any_of HT_.out (by kernel_rfl)) ?_
       refine pz 14 29 mk5_15 (any_of HT_.out (by kernel_rfl)) ?_
       refine take_ (i := 15) (N := some 30) (v := ?_) (a' := ?_) mk5_16 rfl rfl (take_ofW HT_.out HW_.out (by kernel_rfl)) (fun _ _ _ h => h) (Or.inl ⟨by rfl, ?_⟩) hHeld ?_ ?_
       rotate_left
       ·rintro w' ⟨s0, s1, s2, s3, s4, s5, s6, s7⟩
        exact gs
       rotate_left
       ·exact ap
       refine pz 16 31 mk5_17 (any_of HT_.out (by kernel_rfl)) ?_
       refine pz 17 32 mk5_18 (any_of HT_.out (by kernel_rfl)) ?_
       refine pz 18 33 mk5_19 (any_of HT_.out (by kernel_rfl)) ?_
       refine pure_ (i := 19) (N := some 34) (v := undef) (a' := ?_) mk5_20 rfl rfl (any_of HT_.out (by kernel_rfl)) (fun _ _ _ h => h) (Or.inr ⟨by rfl, rfl⟩) ?_ ?_
       rotate_left
       ·exact ap
       refine pure_ (i := 20) (N := some 35) (v := undef) (a' := ?_) mk5_21 rfl rfl (any_of HT_.out (by kernel_rfl)) (fun _ _ _ h => h) (Or.inr ⟨by rfl, rfl⟩) ?_ ?_
       rotate_left
       ·exact ap
       refine pure_ (i := 21) (N := some 36) (v := undef) (a' := ?_) mk5_22 rfl rfl (any_of HT_.out (by kernel_rfl)) (fun _ _ _ h => h) (Or.inr ⟨by rfl, rfl⟩) ?_ ?_
       rotate_left
       ·exact ap
       refine pure_ (i := 22) (N := some 37) (v := undef) (a' := ?_) mk5_23 rfl rfl (any_of HT_.out (by kernel_rfl)) (fun _ _ _ h => h) (Or.inr ⟨by rfl, rfl⟩) ?_ ?_
       rotate_left
       ·exact ap
       refine pure_ (i := 23) (N := some 38) (v := undef) (a' := ?_) mk5_28 rfl rfl (any_of HT_.out (by kernel_rfl)) (fun _ _ _ h => h) (Or.inr ⟨by rfl, rfl⟩) ?_ ?_
       rotate_left
       ·exact ap
       refine pure_ (i := 24) (N := some 39) (v := undef) (a' := ?_) mk5_29 rfl rfl (any_of HT_.out (by kernel_rfl)) (fun _ _ _ h => h) (Or.inr ⟨by rfl, rfl⟩) ?_ ?_
       rotate_left
       ·exact ap
       refine pure_ (i := 25) (N := some 40) (v := undef) (a' := ?_) mk5_30 rfl rfl (any_of HT_.out (by kernel_rfl)) (fun _ _ _ h => h) (Or.inr ⟨by rfl, rfl⟩) ?_ ?_
       rotate_left
       ·exact ap
       refine pure_ (i := 26) (N := some 41) (v := undef) (a' := ?_) mk5_31 rfl rfl (any_of HT_.out (by kernel_rfl)) (fun _ _ _ h => h) (Or.inr ⟨by rfl, rfl⟩) ?_ ?_
       rotate_left
       ·exact ap
       refine pure_ (i := 27) (N := some 42) (v := undef) (a' := ?_) mk5_32 rfl rfl (any_of HT_.out (by kernel_rfl)) (fun _ _ _ h => h) (Or.inr ⟨by rfl, rfl⟩) ?_ ?_
       rotate_left
       ·exact ap
       refine pure_ (i := 28) (N := some 43) (v := undef) (a' := ?_) mk5_33 rfl rfl (any_of HT_.out (by kernel_rfl)) (fun _ _ _ h => h) (Or.inr ⟨by rfl, rfl⟩) ?_ ?_
       rotate_left
       ·exact ap
       refine pure_ (i := 29) (N := some 44) (v := undef) (a' := ?_) mk5_34 rfl rfl (any_of HT_.out (by kernel_rfl)) (fun _ _ _ h => h) (Or.inr ⟨by rfl, rfl⟩) ?_ ?_
       rotate_left
       ·exact ap
       refine pz 30 45 mk5_35 (any_of HT_.out (by kernel_rfl)) ?_
       refine pz 31 6 mk5_36 (any_of HT_.out (by kernel_rfl)) ?_
       refine done_ (done_of HT_.out (by kernel_rfl)) ?_
       try go_wp2
       go_ret
       exact ⟨by first | rfl | (simp [*] <;> rfl), s5_0⟩
      ·rw [if_neg c12] at H
       have c12b0 : (((rd_T30 l0 t133).f2).toList == ([] : List UInt8)) = false := beq_eq_false_iff_ne.mpr c12
       have c12b1 : (((rd_T30 l0 t133).f2).toList != ([] : List UInt8)) = true := bne_iff_ne.mpr c12
       by_cases c17 : 0 ≤ t134
       ·rw [if_pos c17] at H
        have c17b0 : decide (0 ≤ t134) = true := decide_eq_true c17
        clear c17
        by_cases c18 : t134 < (l0.length : Int)
        ·rw [if_pos c18] at H
         have c18b0 : decide (t134 < (l0.length : Int)) = true := decide_eq_true c18
         clear c18
         obtain rfl := Option.some.inj H
         go_enter Try.func27, Try.ntmps27
         try go_wp2_with (first | ((with_reducible refine gate_callee (f := 22) rfl ?_); refine goesL_ (some 11) rfl rfl Try.func22 (by kernel_rfl) rfl #[.slice A0 l0.length c0, .string a1] rfl u5_1 ?_; (with_reducible refine (impl_FindDevice.calls k _ _ l0 a1 t133 _ ?side1 ?side2 A4.out).mono ?_); (case side1 => exact y5_1); (case side2 => exact HC0.out); rintro e w19 ⟨rfl, hb⟩; refine ⟨_, rfl, ?_⟩; have n0_ := am (below_step u5_0 hb); clear HB; have HB := n0_; clear n0_; (try clear hb); (try clear hb2); (try clear hk); (try clear hi)) | ((with_reducible refine gate_callee (f := 22) rfl ?_); refine goesL_ (some 14) rfl rfl Try.func22 (by kernel_rfl) rfl #[.slice A0 l0.length c0, .string a2] rfl u5_1 ?_; (with_reducible refine (impl_FindDevice.calls k _ _ l0 a2 t134 _ ?side1 ?side2 A5.out).mono ?_); (case side1 => exact y5_0); (case side2 => exact HC0.out); rintro e w20 ⟨rfl, hb⟩; refine ⟨_, rfl, ?_⟩; have n0_ := am (below_step u5_0 hb); clear HB; have HB := n0_; clear n0_; (try clear hb); (try clear hb2); (try clear hk); (try clear hi)))
         have n0_ := am (below_drew1 HB.out)
         clear HB
         have HB := n0_
         clear n0_
         have p136 : 0 ≤ (t133 : Int) := od (by assumption)
         have q136 : t133 < (l0.length : Int) := od (by assumption)
         obtain ⟨ad136, e136, hx136_0, hx136_1, hx136_2, hx136_3, hx136_4, hx136_5, hx136_6, hx136_7⟩ := at_T30 HR0.out t133 p136 q136
         have hw136_7 := hx136_7
         have hw136_6 := hx136_6
         have hw136_5 := hx136_5
         have hw136_4 := hx136_4
         have hw136_3 := hx136_3
         have hw136_2 := hx136_2
         have hw136_1 := hx136_1
         have hw136_0 := hx136_0
         cases e136
         replace hx136_0 := bc HB.out hx136_0
         replace hx136_1 := bc HB.out hx136_1
         replace hx136_2 := bc HB.out hx136_2
         replace hx136_3 := bc HB.out hx136_3
         replace hx136_4 := bc HB.out hx136_4
         replace hx136_5 := bc HB.out hx136_5
         replace hx136_6 := bc HB.out hx136_6
         replace hx136_7 := bc HB.out hx136_7
         replace p136 := eq_true p136
         replace q136 := eq_true q136
         have p137 : 0 ≤ (t133 : Int) := od (by assumption)
         have q137 : t133 < (l0.length : Int) := od (by assumption)
         obtain ⟨ad137, e137, hx137_0, hx137_1, hx137_2, hx137_3, hx137_4, hx137_5, hx137_6, hx137_7⟩ := at_T30 HR0.out t133 p137 q137
         have hw137_7 := hx137_7
         have hw137_6 := hx137_6
         have hw137_5 := hx137_5
         have hw137_4 := hx137_4
         have hw137_3 := hx137_3
         have hw137_2 := hx137_2
         have hw137_1 := hx137_1
         have hw137_0 := hx137_0
         obtain rfl : ad136 = ad137 := (by injection e137)
         replace hx137_0 := bc HB.out hx137_0
         replace hx137_1 := bc HB.out hx137_1
         replace hx137_2 := bc HB.out hx137_2
         replace hx137_3 := bc HB.out hx137_3
         replace hx137_4 := bc HB.out hx137_4
         replace hx137_5 := bc HB.out hx137_5
         replace hx137_6 := bc HB.out hx137_6
         replace hx137_7 := bc HB.out hx137_7
         replace p137 := eq_true p137
         replace q137 := eq_true q137
         have p138 : 0 ≤ (t134 : Int) := od (by assumption)
         have q138 : t134 < (l0.length : Int) := od (by assumption)
         obtain ⟨ad138, e138, hx138_0, hx138_1, hx138_2, hx138_3, hx138_4, hx138_5, hx138_6, hx138_7⟩ := at_T30 HR0.out t134 p138 q138
         have hw138_7 := hx138_7
         have hw138_6 := hx138_6
         have hw138_5 := hx138_5
         have hw138_4 := hx138_4
         have hw138_3 := hx138_3
         have hw138_2 := hx138_2
         have hw138_1 := hx138_1
         have hw138_0 := hx138_0
         obtain rfl : ad136 = ad138 := (by injection e138)
         replace hx138_0 := bc HB.out hx138_0
         replace hx138_1 := bc HB.out hx138_1
         replace hx138_2 := bc HB.out hx138_2
         replace hx138_3 := bc HB.out hx138_3
         replace hx138_4 := bc HB.out hx138_4
         replace hx138_5 := bc HB.out hx138_5
         replace hx138_6 := bc HB.out hx138_6
         replace hx138_7 := bc HB.out hx138_7
         replace p138 := eq_true p138
         replace q138 := eq_true q138
         refine start_ (n := 32) (S := fun w' => zc6 w' (ad136.add ((t133).toNat * 8)) (rd_T30 l0 t133) (zc6 w' (ad136.add ((t133).toNat * 8)) (rd_T30 l0 t133) (zc2 w' (ad136.add ((t134).toNat * 8)) (rd_T30 l0 t134)))) (ds := []) mk5_0 (by kernel_rfl) rfl rfl ⟨(bc HB.out hw136_0), (bc HB.out hw136_1), (bc HB.out hw136_2), (bc HB.out hw136_3), (bc HB.out hw136_4), (bc HB.out hw136_5), (bc HB.out hw136_6), (bc HB.out hw136_7), (bc HB.out hw137_0), (bc HB.out hw137_1), (bc HB.out hw137_2), (bc HB.out hw137_3), (bc HB.out hw137_4), (bc HB.out hw137_5), (bc HB.out hw137_6), (bc HB.out hw137_7), (bc HB.out hw138_0), (bc HB.out hw138_1), (bc HB.out hw138_2), (bc HB.out hw138_3), (bc HB.out hw138_4), (bc HB.out hw138_5), (bc HB.out hw138_6), (bc HB.out hw138_7)⟩ (fun hHeld => ?_); refine with_tabW impl_SameLine.tab2 impl_SameLine.bits2 (fun HT_ HW_ => ?_)
         generalize w20.drew = w21 at HB hx136_0 hx136_1 hx136_2 hx136_3 hx136_4 hx136_5 hx136_6 hx136_7 hx137_0 hx137_1 hx137_2 hx137_3 hx137_4 hx137_5 hx137_6 hx137_7 hx138_0 hx138_1 hx138_2 hx138_3 hx138_4 hx138_5 hx138_6 hx138_7 hHeld ⊢
         refine pz 0 15 mk5_1 (any_of HT_.out (by kernel_rfl)) ?_
         refine one_ (i := 1) (N := some 16) mk5_2 rfl rfl (one_of HT_.out (by kernel_rfl)) (by decide) (fun K hK => ?_)
         refine goes_ Try.func25 (by kernel_rfl) rfl #[.slice (some ad136) l0.length c0] (by rfl) rfl rfl u5_1 ?_
         with_reducible refine (impl_IsRig.calls k _ _ l0 true _ ?side1 ?side2 A6.out).mono ?_
         (case side1 => exact y5_0)
         (case side2 => exact HC0.out)
         rintro e w22 ⟨rfl, hb⟩
         refine ⟨_, rfl, ?_⟩
         have n0_ := am (below_step u5_0 hb)
         clear HB
         have HB := n0_
         clear n0_
         (try clear hb)
         (try clear hb2)
         (try clear hk)
         (try clear hi)
         refine hK.out _ _ ⟨(bc HB.out hw136_0), (bc HB.out hw136_1), (bc HB.out hw136_2), (bc HB.out hw136_3), (bc HB.out hw136_4), (bc HB.out hw136_5), (bc HB.out hw136_6), (bc HB.out hw136_7), (bc HB.out hw137_0), (bc HB.out hw137_1), (bc HB.out hw137_2), (bc HB.out hw137_3), (bc HB.out hw137_4), (bc HB.out hw137_5), (bc HB.out hw137_6), (bc HB.out hw137_7), (bc HB.out hw138_0), (bc HB.out hw138_1), (bc HB.out hw138_2), (bc HB.out hw138_3), (bc HB.out hw138_4), (bc HB.out hw138_5), (bc HB.out hw138_6), (bc HB.out hw138_7)⟩ (fun hHeld => ?_)
         clear hK K
         refine norm_ (a' := ?_) ?_ ?_
         rotate_left
         ·show Act.put _ (some 16) _ = _
          simp only [Act.put, List.setIfInBounds_toArray, List.set_cons_zero, List.set_cons_succ, i64_w, i32_w]
          rfl
         refine pz 2 17 mk5_3 (any_of HT_.out (by kernel_rfl)) ?_
         refine pz 3 18 mk5_4 (any_of HT_.out (by kernel_rfl)) ?_
         refine pz 4 19 mk5_5 (any_of HT_.out (by kernel_rfl)) ?_
         refine pz 5 20 mk5_6 (any_of HT_.out (by kernel_rfl)) ?_
         refine pz 6 21 mk5_7 (any_of HT_.out (by kernel_rfl)) ?_
         refine pz 7 22 mk5_8 (any_of HT_.out (by kernel_rfl)) ?_
         refine pz 8 23 mk5_9 (any_of HT_.out (by kernel_rfl)) ?_
         refine pz 9 24 mk5_10 (any_of HT_.out (by kernel_rfl)) ?_
         refine pz 10 25 mk5_11 (any_of HT_.out (by kernel_rfl)) ?_
         refine pz 11 26 mk5_12 (any_of HT_.out (by kernel_rfl)) ?_
         refine pz 12 27 mk5_13 (any_of HT_.out (by kernel_rfl)) ?_
         refine pz 13 28 mk5_14 (any_of HT_.out (by kernel_rfl)) ?_
         refine pz 14 29 mk5_15 (any_of HT_.out (by kernel_rfl)) ?_
         refine take_ (i := 15) (N := some 30) (v := ?_) (a' := ?_) mk5_16 rfl rfl (take_ofW HT_.out HW_.out (by kernel_rfl)) (fun _ _ _ h => h) (Or.inl ⟨by rfl, ?_⟩) hHeld ?_ ?_
         rotate_left
         ·rintro w' ⟨s0, s1, s2, s3, s4, s5, s6, s7, s8, s9, s10, s11, s12, s13, s14, s15, s16, s17, s18, s19, s20, s21, s22, s23⟩
          exact gs
         rotate_left
         ·exact ap
         refine pz 16 31 mk5_17 (any_of HT_.out (by kernel_rfl)) ?_
         refine pz 17 32 mk5_18 (any_of HT_.out (by kernel_rfl)) ?_
         refine pz 18 33 mk5_19 (any_of HT_.out (by kernel_rfl)) ?_
         refine pz 19 34 mk5_20 (any_of HT_.out (by kernel_rfl)) ?_
         refine pz 20 35 mk5_21 (any_of HT_.out (by kernel_rfl)) ?_
         refine pz 21 36 mk5_22 (any_of HT_.out (by kernel_rfl)) ?_
         refine pz 22 37 mk5_23 (any_of HT_.out (by kernel_rfl)) ?_
         refine pz 24 39 #[true, true, true, true, true, true, true, true, true, true, true, true, true, true, true, true, true, true, true, true, true, true, true, false, true, false, false, false, false, false, false, false] (any_of HT_.out (by kernel_rfl)) ?_
         refine pz 25 40 #[true, true, true, true, true, true, true, true, true, true, true, true, true, true, true, true, true, true, true, true, true, true, true, false, true, true, false, false, false, false, false, false] (any_of HT_.out (by kernel_rfl)) ?_
         refine pz 26 41 #[true, true, true, true, true, true, true, true, true, true, true, true, true, true, true, true, true, true, true, true, true, true, true, false, true, true, true, false, false, false, false, false] (any_of HT_.out (by kernel_rfl)) ?_
         refine pz 27 42 #[true, true, true, true, true, true, true, true, true, true, true, true, true, true, true, true, true, true, true, true, true, true, true, false, true, true, true, true, false, false, false, false] (any_of HT_.out (by kernel_rfl)) ?_
         refine take_ (i := 23) (N := some 38) (v := ?_) (a' := ?_) mk5_32 rfl rfl (take_ofW HT_.out HW_.out (by kernel_rfl)) (fun _ _ _ h => h) (Or.inl ⟨by rfl, ?_⟩) hHeld ?_ ?_
         rotate_left
         ·rintro w' ⟨s0, s1, s2, s3, s4, s5, s6, s7, s8, s9, s10, s11, s12, s13, s14, s15, s16, s17, s18, s19, s20, s21, s22, s23⟩
          exact gs
         rotate_left
         ·exact ap
         refine take_ (i := 28) (N := some 43) (v := ?_) (a' := ?_) mk5_33 rfl rfl (take_ofW HT_.out HW_.out (by kernel_rfl)) (fun _ _ _ h => h) (Or.inl ⟨by rfl, ?_⟩) hHeld ?_ ?_
         rotate_left
         ·rintro w' ⟨s0, s1, s2, s3, s4, s5, s6, s7, s8, s9, s10, s11, s12, s13, s14, s15, s16, s17, s18, s19, s20, s21, s22, s23⟩
          exact gs
         rotate_left
         ·exact ap
         refine pz 29 44 mk5_34 (any_of HT_.out (by kernel_rfl)) ?_
         refine pz 30 45 mk5_35 (any_of HT_.out (by kernel_rfl)) ?_
         refine pz 31 6 mk5_36 (any_of HT_.out (by kernel_rfl)) ?_
         refine done_ (done_of HT_.out (by kernel_rfl)) ?_
         try go_wp2
         go_ret
         exact ⟨by first | rfl | (simp [*] <;> rfl), s5_0⟩
        ·rw [if_neg c18] at H
         exact absurd H (by simp)
       ·rw [if_neg c17] at H
        exact absurd H (by simp)
     ·rw [if_neg c11] at H
      exact absurd H (by simp)
    ·rw [if_neg c10] at H
     exact absurd H (by simp)
   ·rw [if_neg c9] at H
    have c9b0 : decide (0 ≤ t134) = false := decide_eq_false c9
    clear c9
    obtain rfl := Option.some.inj H
    go_enter Try.func27, Try.ntmps27
    try go_wp2_with (first | ((with_reducible refine gate_callee (f := 22) rfl ?_); refine goesL_ (some 11) rfl rfl Try.func22 (by kernel_rfl) rfl #[.slice A0 l0.length c0, .string a1] rfl u5_1 ?_; (with_reducible refine (impl_FindDevice.calls k _ _ l0 a1 t133 _ ?side1 ?side2 A4.out).mono ?_); (case side1 => exact y5_1); (case side2 => exact HC0.out); rintro e w23 ⟨rfl, hb⟩; refine ⟨_, rfl, ?_⟩; have n0_ := am (below_step u5_0 hb); clear HB; have HB := n0_; clear n0_; (try clear hb); (try clear hb2); (try clear hk); (try clear hi)) | ((with_reducible refine gate_callee (f := 22) rfl ?_); refine goesL_ (some 14) rfl rfl Try.func22 (by kernel_rfl) rfl #[.slice A0 l0.length c0, .string a2] rfl u5_1 ?_; (with_reducible refine (impl_FindDevice.calls k _ _ l0 a2 t134 _ ?side1 ?side2 A5.out).mono ?_); (case side1 => exact y5_0); (case side2 => exact HC0.out); rintro e w24 ⟨rfl, hb⟩; refine ⟨_, rfl, ?_⟩; have n0_ := am (below_step u5_0 hb); clear HB; have HB := n0_; clear n0_; (try clear hb); (try clear hb2); (try clear hk); (try clear hi)))
    have n0_ := am (below_drew1 HB.out)
    clear HB
    have HB := n0_
    clear n0_
    refine start_ (n := 32) (S := fun w' => True) (ds := []) mk5_0 (by kernel_rfl) rfl rfl trivial (fun hHeld => ?_); refine with_tabW impl_SameLine.tab2 impl_SameLine.bits2 (fun HT_ HW_ => ?_)
    generalize w24.drew = w25 at HB hHeld ⊢
    refine pz 0 15 mk5_1 (any_of HT_.out (by kernel_rfl)) ?_
    refine one_ (i := 1) (N := some 16) mk5_2 rfl rfl (one_of HT_.out (by kernel_rfl)) (by decide) (fun K hK => ?_)
    refine goes_ Try.func25 (by kernel_rfl) rfl #[.slice A0 l0.length c0] (by rfl) rfl rfl u5_1 ?_
    with_reducible refine (impl_IsRig.calls k _ _ l0 true _ ?side1 ?side2 A6.out).mono ?_
    (case side1 => exact y5_0)
    (case side2 => exact HC0.out)
    rintro e w26 ⟨rfl, hb⟩
    refine ⟨_, rfl, ?_⟩
    have n0_ := am (below_step u5_0 hb)
    clear HB
    have HB := n0_
    clear n0_
    (try clear hb)
    (try clear hb2)
    (try clear hk)
    (try clear hi)
    refine hK.out _ _ trivial (fun hHeld => ?_)
    clear hK K
    refine norm_ (a' := ?_) ?_ ?_
    rotate_left
    ·show Act.put _ (some 16) _ = _
     simp only [Act.put, List.setIfInBounds_toArray, List.set_cons_zero, List.set_cons_succ, i64_w, i32_w]
     rfl
    refine pz 2 17 mk5_3 (any_of HT_.out (by kernel_rfl)) ?_
    refine pz 3 18 mk5_4 (any_of HT_.out (by kernel_rfl)) ?_
    refine pz 4 19 mk5_5 (any_of HT_.out (by kernel_rfl)) ?_
    refine pz 5 20 mk5_6 (any_of HT_.out (by kernel_rfl)) ?_
    refine pz 6 21 mk5_7 (any_of HT_.out (by kernel_rfl)) ?_
    refine pz 7 22 mk5_8 (any_of HT_.out (by kernel_rfl)) ?_
    refine pz 8 23 mk5_9 (any_of HT_.out (by kernel_rfl)) ?_
    refine pz 9 24 mk5_10 (any_of HT_.out (by kernel_rfl)) ?_
    refine pz 10 25 mk5_11 (any_of HT_.out (by kernel_rfl)) ?_
    refine pure_ (i := 11) (N := some 26) (v := undef) (a' := ?_) mk5_12 rfl rfl (any_of HT_.out (by kernel_rfl)) (fun _ _ _ h => h) (Or.inr ⟨by rfl, rfl⟩) ?_ ?_
    rotate_left
    ·exact ap
    refine pure_ (i := 12) (N := some 27) (v := undef) (a' := ?_) mk5_13 rfl rfl (any_of HT_.out (by kernel_rfl)) (fun _ _ _ h => h) (Or.inr ⟨by rfl, rfl⟩) ?_ ?_
    rotate_left
    ·exact ap
    refine pure_ (i := 13) (N := some 28) (v := undef) (a' := ?_) mk5_14 rfl rfl (any_of HT_.out (by kernel_rfl)) (fun _ _ _ h => h) (Or.inr ⟨by rfl, rfl⟩) ?_ ?_
    rotate_left
    ·exact ap
    refine pure_ (i := 14) (N := some 29) (v := undef) (a' := ?_) mk5_15 rfl rfl (any_of HT_.out (by kernel_rfl)) (fun _ _ _ h => h) (Or.inr ⟨by rfl, rfl⟩) ?_ ?_
    rotate_left
    ·exact ap
    refine pure_ (i := 15) (N := some 30) (v := undef) (a' := ?_) mk5_16 rfl rfl (any_of HT_.out (by kernel_rfl)) (fun _ _ _ h => h) (Or.inr ⟨by rfl, rfl⟩) ?_ ?_
    rotate_left
    ·exact ap
    refine pure_ (i := 16) (N := some 31) (v := undef) (a' := ?_) mk5_17 rfl rfl (any_of HT_.out (by kernel_rfl)) (fun _ _ _ h => h) (Or.inr ⟨by rfl, rfl⟩) ?_ ?_
    rotate_left
    ·exact ap
    refine pz 17 32 mk5_18 (any_of HT_.out (by kernel_rfl)) ?_
    refine pz 18 33 mk5_19 (any_of HT_.out (by kernel_rfl)) ?_
    refine pure_ (i := 19) (N := some 34) (v := undef) (a' := ?_) mk5_20 rfl rfl (any_of HT_.out (by kernel_rfl)) (fun _ _ _ h => h) (Or.inr ⟨by rfl, rfl⟩) ?_ ?_
    rotate_left
    ·exact ap
    refine pure_ (i := 20) (N := some 35) (v := undef) (a' := ?_) mk5_21 rfl rfl (any_of HT_.out (by kernel_rfl)) (fun _ _ _ h => h) (Or.inr ⟨by rfl, rfl⟩) ?_ ?_
    rotate_left
    ·exact ap
    refine pure_ (i := 21) (N := some 36) (v := undef) (a' := ?_) mk5_22 rfl rfl (any_of HT_.out (by kernel_rfl)) (fun _ _ _ h => h) (Or.inr ⟨by rfl, rfl⟩) ?_ ?_
    rotate_left
    ·exact ap
    refine pure_ (i := 22) (N := some 37) (v := undef) (a' := ?_) mk5_23 rfl rfl (any_of HT_.out (by kernel_rfl)) (fun _ _ _ h => h) (Or.inr ⟨by rfl, rfl⟩) ?_ ?_
    rotate_left
    ·exact ap
    refine pure_ (i := 23) (N := some 38) (v := undef) (a' := ?_) mk5_28 rfl rfl (any_of HT_.out (by kernel_rfl)) (fun _ _ _ h => h) (Or.inr ⟨by rfl, rfl⟩) ?_ ?_
    rotate_left
    ·exact ap
    refine pure_ (i := 24) (N := some 39) (v := undef) (a' := ?_) mk5_29 rfl rfl (any_of HT_.out (by kernel_rfl)) (fun _ _ _ h => h) (Or.inr ⟨by rfl, rfl⟩) ?_ ?_
    rotate_left
    ·exact ap
    refine pure_ (i := 25) (N := some 40) (v := undef) (a' := ?_) mk5_30 rfl rfl (any_of HT_.out (by kernel_rfl)) (fun _ _ _ h => h) (Or.inr ⟨by rfl, rfl⟩) ?_ ?_
    rotate_left
    ·exact ap
    refine pure_ (i := 26) (N := some 41) (v := undef) (a' := ?_) mk5_31 rfl rfl (any_of HT_.out (by kernel_rfl)) (fun _ _ _ h => h) (Or.inr ⟨by rfl, rfl⟩) ?_ ?_
    rotate_left
    ·exact ap
    refine pure_ (i := 27) (N := some 42) (v := undef) (a' := ?_) mk5_32 rfl rfl (any_of HT_.out (by kernel_rfl)) (fun _ _ _ h => h) (Or.inr ⟨by rfl, rfl⟩) ?_ ?_
    rotate_left
    ·exact ap
    refine pure_ (i := 28) (N := some 43) (v := undef) (a' := ?_) mk5_33 rfl rfl (any_of HT_.out (by kernel_rfl)) (fun _ _ _ h => h) (Or.inr ⟨by rfl, rfl⟩) ?_ ?_
    rotate_left
    ·exact ap
    refine pure_ (i := 29) (N := some 44) (v := undef) (a' := ?_) mk5_34 rfl rfl (any_of HT_.out (by kernel_rfl)) (fun _ _ _ h => h) (Or.inr ⟨by rfl, rfl⟩) ?_ ?_
    rotate_left
    ·exact ap
    refine pz 30 45 mk5_35 (any_of HT_.out (by kernel_rfl)) ?_
    refine pz 31 6 mk5_36 (any_of HT_.out (by kernel_rfl)) ?_
    refine done_ (done_of HT_.out (by kernel_rfl)) ?_
    try go_wp2
    go_ret
    exact ⟨by first | rfl | (simp [*] <;> rfl), s5_0⟩
  ·rw [if_neg c8] at H
   have c8b0 : decide (0 ≤ t133) = false := decide_eq_false c8
   clear c8
   obtain rfl := Option.some.inj H
   go_enter Try.func27, Try.ntmps27
   try go_wp2_with (first | ((with_reducible refine gate_callee (f := 22) rfl ?_); refine goesL_ (some 11) rfl rfl Try.func22 (by kernel_rfl) rfl #[.slice A0 l0.length c0, .string a1] rfl u5_1 ?_; (with_reducible refine (impl_FindDevice.calls k _ _ l0 a1 t133 _ ?side1 ?side2 A4.out).mono ?_); (case side1 => exact y5_1); (case side2 => exact HC0.out); rintro e w27 ⟨rfl, hb⟩; refine ⟨_, rfl, ?_⟩; have n0_ := am (below_step u5_0 hb); clear HB; have HB := n0_; clear n0_; (try clear hb); (try clear hb2); (try clear hk); (try clear hi)) | ((with_reducible refine gate_callee (f := 22) rfl ?_); refine goesL_ (some 14) rfl rfl Try.func22 (by kernel_rfl) rfl #[.slice A0 l0.length c0, .string a2] rfl u5_1 ?_; (with_reducible refine (impl_FindDevice.calls k _ _ l0 a2 t134 _ ?side1 ?side2 A5.out).mono ?_); (case side1 => exact y5_0); (case side2 => exact HC0.out); rintro e w28 ⟨rfl, hb⟩; refine ⟨_, rfl, ?_⟩; have n0_ := am (below_step u5_0 hb); clear HB; have HB := n0_; clear n0_; (try clear hb); (try clear hb2); (try clear hk); (try clear hi)))
   have n0_ := am (below_drew1 HB.out)
   clear HB
   have HB := n0_
   clear n0_
   refine start_ (n := 32) (S := fun w' => True) (ds := []) mk5_0 (by kernel_rfl) rfl rfl trivial (fun hHeld => ?_); refine with_tabW impl_SameLine.tab2 impl_SameLine.bits2 (fun HT_ HW_ => ?_)
   generalize w28.drew = w29 at HB hHeld ⊢
   refine pz 0 15 mk5_1 (any_of HT_.out (by kernel_rfl)) ?_
   refine one_ (i := 1) (N := some 16) mk5_2 rfl rfl (one_of HT_.out (by kernel_rfl)) (by decide) (fun K hK => ?_)
   refine goes_ Try.func25 (by kernel_rfl) rfl #[.slice A0 l0.length c0] (by rfl) rfl rfl u5_1 ?_
   with_reducible refine (impl_IsRig.calls k _ _ l0 true _ ?side1 ?side2 A6.out).mono ?_
   (case side1 => exact y5_0)
   (case side2 => exact HC0.out)
   rintro e w30 ⟨rfl, hb⟩
   refine ⟨_, rfl, ?_⟩
   have n0_ := am (below_step u5_0 hb)
   clear HB
   have HB := n0_
   clear n0_
   (try clear hb)
   (try clear hb2)
   (try clear hk)
   (try clear hi)
   refine hK.out _ _ trivial (fun hHeld => ?_)
   clear hK K
   refine norm_ (a' := ?_) ?_ ?_
   rotate_left
   ·show Act.put _ (some 16) _ = _
    simp only [Act.put, List.setIfInBounds_toArray, List.set_cons_zero, List.set_cons_succ, i64_w, i32_w]
    rfl
   refine pz 2 17 mk5_3 (any_of HT_.out (by kernel_rfl)) ?_
   refine pz 3 18 mk5_4 (any_of HT_.out (by kernel_rfl)) ?_
   refine pz 4 19 mk5_5 (any_of HT_.out (by kernel_rfl)) ?_
   refine pz 5 20 mk5_6 (any_of HT_.out (by kernel_rfl)) ?_
   refine pz 6 21 mk5_7 (any_of HT_.out (by kernel_rfl)) ?_
   refine pure_ (i := 7) (N := some 22) (v := undef) (a' := ?_) mk5_8 rfl rfl (any_of HT_.out (by kernel_rfl)) (fun _ _ _ h => h) (Or.inr ⟨by rfl, rfl⟩) ?_ ?_
   rotate_left
   ·exact ap
   refine pure_ (i := 8) (N := some 23) (v := undef) (a' := ?_) mk5_9 rfl rfl (any_of HT_.out (by kernel_rfl)) (fun _ _ _ h => h) (Or.inr ⟨by rfl, rfl⟩) ?_ ?_
   rotate_left
   ·exact ap
   refine pz 9 24 mk5_10 (any_of HT_.out (by kernel_rfl)) ?_
   refine pz 10 25 mk5_11 (any_of HT_.out (by kernel_rfl)) ?_
   refine pure_ (i := 11) (N := some 26) (v := undef) (a' := ?_) mk5_12 rfl rfl (any_of HT_.out (by kernel_rfl)) (fun _ _ _ h => h) (Or.inr ⟨by rfl, rfl⟩) ?_ ?_
   rotate_left
   ·exact ap
   refine pure_ (i := 12) (N := some 27) (v := undef) (a' := ?_) mk5_13 rfl rfl (any_of HT_.out (by kernel_rfl)) (fun _ _ _ h => h) (Or.inr ⟨by rfl, rfl⟩) ?_ ?_
   rotate_left
   ·exact ap
   refine pure_ (i := 13) (N := some 28) (v := undef) (a' := ?_) mk5_14 rfl rfl (any_of HT_.out (by kernel_rfl)) (fun _ _ _ h => h) (Or.inr ⟨by rfl, rfl⟩) ?_ ?_
   rotate_left
   ·exact ap
   refine pure_ (i := 14) (N := some 29) (v := undef) (a' := ?_) mk5_15 rfl rfl (any_of HT_.out (by kernel_rfl)) (fun _ _ _ h => h) (Or.inr ⟨by rfl, rfl⟩) ?_ ?_
   rotate_left
   ·exact ap
   refine pure_ (i := 15) (N := some 30) (v := undef) (a' := ?_) mk5_16 rfl rfl (any_of HT_.out (by kernel_rfl)) (fun _ _ _ h => h) (Or.inr ⟨by rfl, rfl⟩) ?_ ?_
   rotate_left
   ·exact ap
   refine pure_ (i := 16) (N := some 31) (v := undef) (a' := ?_) mk5_17 rfl rfl (any_of HT_.out (by kernel_rfl)) (fun _ _ _ h => h) (Or.inr ⟨by rfl, rfl⟩) ?_ ?_
   rotate_left
   ·exact ap
   refine pz 17 32 mk5_18 (any_of HT_.out (by kernel_rfl)) ?_
   refine pz 18 33 mk5_19 (any_of HT_.out (by kernel_rfl)) ?_
   refine pure_ (i := 19) (N := some 34) (v := undef) (a' := ?_) mk5_20 rfl rfl (any_of HT_.out (by kernel_rfl)) (fun _ _ _ h => h) (Or.inr ⟨by rfl, rfl⟩) ?_ ?_
   rotate_left
   ·exact ap
   refine pure_ (i := 20) (N := some 35) (v := undef) (a' := ?_) mk5_21 rfl rfl (any_of HT_.out (by kernel_rfl)) (fun _ _ _ h => h) (Or.inr ⟨by rfl, rfl⟩) ?_ ?_
   rotate_left
   ·exact ap
   refine pure_ (i := 21) (N := some 36) (v := undef) (a' := ?_) mk5_22 rfl rfl (any_of HT_.out (by kernel_rfl)) (fun _ _ _ h => h) (Or.inr ⟨by rfl, rfl⟩) ?_ ?_
   rotate_left
   ·exact ap
   refine pure_ (i := 22) (N := some 37) (v := undef) (a' := ?_) mk5_23 rfl rfl (any_of HT_.out (by kernel_rfl)) (fun _ _ _ h => h) (Or.inr ⟨by rfl, rfl⟩) ?_ ?_
   rotate_left
   ·exact ap
   refine pure_ (i := 23) (N := some 38) (v := undef) (a' := ?_) mk5_28 rfl rfl (any_of HT_.out (by kernel_rfl)) (fun _ _ _ h => h) (Or.inr ⟨by rfl, rfl⟩) ?_ ?_
   rotate_left
   ·exact ap
   refine pure_ (i := 24) (N := some 39) (v := undef) (a' := ?_) mk5_29 rfl rfl (any_of HT_.out (by kernel_rfl)) (fun _ _ _ h => h) (Or.inr ⟨by rfl, rfl⟩) ?_ ?_
   rotate_left
   ·exact ap
   refine pure_ (i := 25) (N := some 40) (v := undef) (a' := ?_) mk5_30 rfl rfl (any_of HT_.out (by kernel_rfl)) (fun _ _ _ h => h) (Or.inr ⟨by rfl, rfl⟩) ?_ ?_
   rotate_left
   ·exact ap
   refine pure_ (i := 26) (N := some 41) (v := undef) (a' := ?_) mk5_31 rfl rfl (any_of HT_.out (by kernel_rfl)) (fun _ _ _ h => h) (Or.inr ⟨by rfl, rfl⟩) ?_ ?_
   rotate_left
   ·exact ap
   refine pure_ (i := 27) (N := some 42) (v := undef) (a' := ?_) mk5_32 rfl rfl (any_of HT_.out (by kernel_rfl)) (fun _ _ _ h => h) (Or.inr ⟨by rfl, rfl⟩) ?_ ?_
   rotate_left
   ·exact ap
   refine pure_ (i := 28) (N := some 43) (v := undef) (a' := ?_) mk5_33 rfl rfl (any_of HT_.out (by kernel_rfl)) (fun _ _ _ h => h) (Or.inr ⟨by rfl, rfl⟩) ?_ ?_
   rotate_left
   ·exact ap
   refine pure_ (i := 29) (N := some 44) (v := undef) (a' := ?_) mk5_34 rfl rfl (any_of HT_.out (by kernel_rfl)) (fun _ _ _ h => h) (Or.inr ⟨by rfl, rfl⟩) ?_ ?_
   rotate_left
   ·exact ap
   refine pz 30 45 mk5_35 (any_of HT_.out (by kernel_rfl)) ?_
   refine pz 31 6 mk5_36 (any_of HT_.out (by kernel_rfl)) ?_
   refine done_ (done_of HT_.out (by kernel_rfl)) ?_
   try go_wp2
   go_ret
   exact ⟨by first | rfl | (simp [*] <;> rfl), s5_0⟩
 ·replace c7 := Bool.eq_false_iff.mpr c7
  subst c7
  have H1 : (some false) = some r := by rw [if_neg (show ¬ (false = true) by decide)] at H; exact H
  clear H
  have H := H1
  clear H1
  obtain rfl := Option.some.inj H
  go_enter Try.func27, Try.ntmps27
  try go_wp2_with (first | ((with_reducible refine gate_callee (f := 22) rfl ?_); refine goesL_ (some 11) rfl rfl Try.func22 (by kernel_rfl) rfl #[.slice A0 l0.length c0, .string a1] rfl u5_1 ?_; (with_reducible refine (impl_FindDevice.calls k _ _ l0 a1 t133 _ ?side1 ?side2 A4.out).mono ?_); (case side1 => exact y5_1); (case side2 => exact HC0.out); rintro e w31 ⟨rfl, hb⟩; refine ⟨_, rfl, ?_⟩; have n0_ := am (below_step u5_0 hb); clear HB; have HB := n0_; clear n0_; (try clear hb); (try clear hb2); (try clear hk); (try clear hi)) | ((with_reducible refine gate_callee (f := 22) rfl ?_); refine goesL_ (some 14) rfl rfl Try.func22 (by kernel_rfl) rfl #[.slice A0 l0.length c0, .string a2] rfl u5_1 ?_; (with_reducible refine (impl_FindDevice.calls k _ _ l0 a2 t134 _ ?side1 ?side2 A5.out).mono ?_); (case side1 => exact y5_0); (case side2 => exact HC0.out); rintro e w32 ⟨rfl, hb⟩; refine ⟨_, rfl, ?_⟩; have n0_ := am (below_step u5_0 hb); clear HB; have HB := n0_; clear n0_; (try clear hb); (try clear hb2); (try clear hk); (try clear hi)))
  have n0_ := am (below_drew1 HB.out)
  clear HB
  have HB := n0_
  clear n0_
  refine start_ (n := 32) (S := fun w' => True) (ds := []) mk5_0 (by kernel_rfl) rfl rfl trivial (fun hHeld => ?_); refine with_tabW impl_SameLine.tab2 impl_SameLine.bits2 (fun HT_ HW_ => ?_)
  generalize w32.drew = w33 at HB hHeld ⊢
  refine pz 0 15 mk5_1 (any_of HT_.out (by kernel_rfl)) ?_
  refine one_ (i := 1) (N := some 16) mk5_2 rfl rfl (one_of HT_.out (by kernel_rfl)) (by decide) (fun K hK => ?_)
  refine goes_ Try.func25 (by kernel_rfl) rfl #[.slice A0 l0.length c0] (by rfl) rfl rfl u5_1 ?_
  with_reducible refine (impl_IsRig.calls k _ _ l0 false _ ?side1 ?side2 A6.out).mono ?_
  (case side1 => exact y5_0)
  (case side2 => exact HC0.out)
  rintro e w34 ⟨rfl, hb⟩
  refine ⟨_, rfl, ?_⟩
  have n0_ := am (below_step u5_0 hb)
  clear HB
  have HB := n0_
  clear n0_
  (try clear hb)
  (try clear hb2)
  (try clear hk)
  (try clear hi)
  refine hK.out _ _ trivial (fun hHeld => ?_)
  clear hK K
  refine norm_ (a' := ?_) ?_ ?_
  rotate_left
  ·show Act.put _ (some 16) _ = _
   simp only [Act.put, List.setIfInBounds_toArray, List.set_cons_zero, List.set_cons_succ, i64_w, i32_w]
   rfl
  refine pz 2 17 mk5_3 (any_of HT_.out (by kernel_rfl)) ?_
  refine pure_ (i := 3) (N := some 18) (v := undef) (a' := ?_) mk5_4 rfl rfl (any_of HT_.out (by kernel_rfl)) (fun _ _ _ h => h) (Or.inr ⟨by rfl, rfl⟩) ?_ ?_
  rotate_left
  ·exact ap
  refine pure_ (i := 4) (N := some 19) (v := undef) (a' := ?_) mk5_5 rfl rfl (any_of HT_.out (by kernel_rfl)) (fun _ _ _ h => h) (Or.inr ⟨by rfl, rfl⟩) ?_ ?_
  rotate_left
  ·exact ap
  refine pz 5 20 mk5_6 (any_of HT_.out (by kernel_rfl)) ?_
  refine pz 6 21 mk5_7 (any_of HT_.out (by kernel_rfl)) ?_
  refine pure_ (i := 7) (N := some 22) (v := undef) (a' := ?_) mk5_8 rfl rfl (any_of HT_.out (by kernel_rfl)) (fun _ _ _ h => h) (Or.inr ⟨by rfl, rfl⟩) ?_ ?_
  rotate_left
  ·exact ap
  refine pure_ (i := 8) (N := some 23) (v := undef) (a' := ?_) mk5_9 rfl rfl (any_of HT_.out (by kernel_rfl)) (fun _ _ _ h => h) (Or.inr ⟨by rfl, rfl⟩) ?_ ?_
  rotate_left
  ·exact ap
  refine pz 9 24 mk5_10 (any_of HT_.out (by kernel_rfl)) ?_
  refine pz 10 25 mk5_11 (any_of HT_.out (by kernel_rfl)) ?_
  refine pure_ (i := 11) (N := some 26) (v := undef) (a' := ?_) mk5_12 rfl rfl (any_of HT_.out (by kernel_rfl)) (fun _ _ _ h => h) (Or.inr ⟨by rfl, rfl⟩) ?_ ?_
  rotate_left
  ·exact ap
  refine pure_ (i := 12) (N := some 27) (v := undef) (a' := ?_) mk5_13 rfl rfl (any_of HT_.out (by kernel_rfl)) (fun _ _ _ h => h) (Or.inr ⟨by rfl, rfl⟩) ?_ ?_
  rotate_left
  ·exact ap
  refine pure_ (i := 13) (N := some 28) (v := undef) (a' := ?_) mk5_14 rfl rfl (any_of HT_.out (by kernel_rfl)) (fun _ _ _ h => h) (Or.inr ⟨by rfl, rfl⟩) ?_ ?_
  rotate_left
  ·exact ap
  refine pure_ (i := 14) (N := some 29) (v := undef) (a' := ?_) mk5_15 rfl rfl (any_of HT_.out (by kernel_rfl)) (fun _ _ _ h => h) (Or.inr ⟨by rfl, rfl⟩) ?_ ?_
  rotate_left
  ·exact ap
  refine pure_ (i := 15) (N := some 30) (v := undef) (a' := ?_) mk5_16 rfl rfl (any_of HT_.out (by kernel_rfl)) (fun _ _ _ h => h) (Or.inr ⟨by rfl, rfl⟩) ?_ ?_
  rotate_left
  ·exact ap
  refine pure_ (i := 16) (N := some 31) (v := undef) (a' := ?_) mk5_17 rfl rfl (any_of HT_.out (by kernel_rfl)) (fun _ _ _ h => h) (Or.inr ⟨by rfl, rfl⟩) ?_ ?_
  rotate_left
  ·exact ap
  refine pz 17 32 mk5_18 (any_of HT_.out (by kernel_rfl)) ?_
  refine pz 18 33 mk5_19 (any_of HT_.out (by kernel_rfl)) ?_
  refine pure_ (i := 19) (N := some 34) (v := undef) (a' := ?_) mk5_20 rfl rfl (any_of HT_.out (by kernel_rfl)) (fun _ _ _ h => h) (Or.inr ⟨by rfl, rfl⟩) ?_ ?_
  rotate_left
  ·exact ap
  refine pure_ (i := 20) (N := some 35) (v := undef) (a' := ?_) mk5_21 rfl rfl (any_of HT_.out (by kernel_rfl)) (fun _ _ _ h => h) (Or.inr ⟨by rfl, rfl⟩) ?_ ?_
  rotate_left
  ·exact ap
  refine pure_ (i := 21) (N := some 36) (v := undef) (a' := ?_) mk5_22 rfl rfl (any_of HT_.out (by kernel_rfl)) (fun _ _ _ h => h) (Or.inr ⟨by rfl, rfl⟩) ?_ ?_
  rotate_left
  ·exact ap
  refine pure_ (i := 22) (N := some 37) (v := undef) (a' := ?_) mk5_23 rfl rfl (any_of HT_.out (by kernel_rfl)) (fun _ _ _ h => h) (Or.inr ⟨by rfl, rfl⟩) ?_ ?_
  rotate_left
  ·exact ap
  refine pure_ (i := 23) (N := some 38) (v := undef) (a' := ?_) mk5_28 rfl rfl (any_of HT_.out (by kernel_rfl)) (fun _ _ _ h => h) (Or.inr ⟨by rfl, rfl⟩) ?_ ?_
  rotate_left
  ·exact ap
  refine pure_ (i := 24) (N := some 39) (v := undef) (a' := ?_) mk5_29 rfl rfl (any_of HT_.out (by kernel_rfl)) (fun _ _ _ h => h) (Or.inr ⟨by rfl, rfl⟩) ?_ ?_
  rotate_left
  ·exact ap
  refine pure_ (i := 25) (N := some 40) (v := undef) (a' := ?_) mk5_30 rfl rfl (any_of HT_.out (by kernel_rfl)) (fun _ _ _ h => h) (Or.inr ⟨by rfl, rfl⟩) ?_ ?_
  rotate_left
  ·exact ap
  refine pure_ (i := 26) (N := some 41) (v := undef) (a' := ?_) mk5_31 rfl rfl (any_of HT_.out (by kernel_rfl)) (fun _ _ _ h => h) (Or.inr ⟨by rfl, rfl⟩) ?_ ?_
  rotate_left
  ·exact ap
  refine pure_ (i := 27) (N := some 42) (v := undef) (a' := ?_) mk5_32 rfl rfl (any_of HT_.out (by kernel_rfl)) (fun _ _ _ h => h) (Or.inr ⟨by rfl, rfl⟩) ?_ ?_
  rotate_left
  ·exact ap
  refine pure_ (i := 28) (N := some 43) (v := undef) (a' := ?_) mk5_33 rfl rfl (any_of HT_.out (by kernel_rfl)) (fun _ _ _ h => h) (Or.inr ⟨by rfl, rfl⟩) ?_ ?_
  rotate_left
  ·exact ap
  refine pure_ (i := 29) (N := some 44) (v := undef) (a' := ?_) mk5_34 rfl rfl (any_of HT_.out (by kernel_rfl)) (fun _ _ _ h => h) (Or.inr ⟨by rfl, rfl⟩) ?_ ?_
  rotate_left
  ·exact ap
  refine pz 30 45 mk5_35 (any_of HT_.out (by kernel_rfl)) ?_
  refine pz 31 6 mk5_36 (any_of HT_.out (by kernel_rfl)) ?_
  refine done_ (done_of HT_.out (by kernel_rfl)) ?_
  try go_wp2
  go_ret
  exact ⟨by first | rfl | (simp [*] <;> rfl), s5_0⟩

end Go.Proofs.Ytkedcokhcgklpaa.MFnLines
