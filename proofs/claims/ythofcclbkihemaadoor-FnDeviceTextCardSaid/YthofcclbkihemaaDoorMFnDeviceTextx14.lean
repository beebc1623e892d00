-- Written by a program for this claim.
import Derived.Test.YthofcclbkihemaaDoorMFnDeviceTextx0
import Derived.Test.YthofcclbkihemaaDoorMFnDeviceTextx1
import Derived.Test.YthofcclbkihemaaDoorMFnDeviceTextx2
import Derived.Test.YthofcclbkihemaaDoorMFnDeviceTextx4
import Derived.Test.YthofcclbkihemaaDoorMFnDeviceTextx6
import Derived.Test.YthofcclbkihemaaDoorMFnDeviceTextx9
import Derived.Test.YthofcclbkihemaaDoorMFnDeviceTextx11
import Derived.Test.YthofcclbkihemaaDoorMFnDeviceTextx13
namespace Go.Proofs.YthofcclbkihemaaDoor.MFnDeviceText
open Go.RowKit Go.Proofs.YthofcclbkihemaaDoorW.PrintWords Go.Proofs.YthofcclbkihemaaDoorW.PrintLast Go.Proofs.YthofcclbkihemaaDoorW.PrintMore
attribute [local go_sem] max2_int min2_int max_two min_two max_three min_three max_four min_four
set_option linter.unusedVariables false
set_option linter.unusedSimpArgs false
set_option maxHeartbeats 8000000
set_option maxRecDepth 100000

attribute [local go_sem high] eqA38
theorem s14_0 {p : Prop} (h : p := by repeat (first | (with_reducible first | exact HB.out | apply below_alloc | apply pw_below_drewN | apply below_drew1 | refine below_set ?_ GE523.out | refine below_set ?_ GE534.out | refine below_set ?_ GE548.out) | exact HB.out)) : p := h
theorem s14_1 {p : Prop} (h : p := by repeat (first | (with_reducible first | exact HB.out | apply below_alloc | apply pw_below_drewN | apply below_drew1 | refine below_set ?_ GE523.out | refine below_set ?_ GE534.out) | exact HB.out)) : p := h
theorem y14_0 {p : Prop} (h : p := by repeat (first | exact (Kd.C_below HR0.out HB.out) | (with_reducible refine Kd.C_alloc ?_ _) | (with_reducible refine Kd.C_drewN ?_ _) | (with_reducible refine Kd.C_drew ?_))) : p := h
theorem y14_1 {p : Prop} (h : p := by repeat (first | exact HR0.out | (with_reducible refine Kd.C_alloc ?_ _) | (with_reducible refine Kd.C_drewN ?_ _) | (with_reducible refine Kd.C_drew ?_))) : p := h
theorem u14_0 {p : Prop} (h : p := by repeat (first | (with_reducible first | exact HB.out | apply below_alloc | apply pw_below_drewN | apply below_drew1 | refine below_set ?_ GE523.out | refine below_set ?_ GE534.out) | exact HB.out)) : p := h
theorem u14_1 {p : Prop} (h : p := by exact bd BK523.out) : p := h
theorem u14_2 {p : Prop} (h : p := by exact bd BK534.out) : p := h
theorem u14_3 {p : Prop} (h : p := by (with_reducible repeat (first | refine bN ?_ _ | refine bD ?_ | refine bA ?_ _)); refine blk_put (cs := zr6 t515 t516 t517 t518 t519 t520 t521 0) ?_ 7 _ rfl; refine blk_put (cs := zr6 t515 t516 t517 t518 t519 t520 0 0) ?_ 6 _ rfl; refine blk_put (cs := zr6 t515 t516 t517 t518 t519 0 0 0) ?_ 5 _ rfl; refine blk_put (cs := zr6 t515 t516 t517 t518 0 0 0 0) ?_ 4 _ rfl; refine blk_put (cs := zr6 t515 t516 t517 0 0 0 0 0) ?_ 3 _ rfl; refine blk_put (cs := zr6 t515 t516 (⟨#[]⟩ : ByteArray) 0 0 0 0 0) ?_ 2 _ rfl; (with_reducible repeat (first | refine bN ?_ _ | refine bD ?_ | refine bA ?_ _)); refine blk_put (cs := zr6 t515 0 (⟨#[]⟩ : ByteArray) 0 0 0 0 0) ?_ 1 _ rfl; (with_reducible repeat (first | refine bN ?_ _ | refine bD ?_ | refine bA ?_ _)); refine blk_put (cs := zr6 (⟨#[]⟩ : ByteArray) 0 (⟨#[]⟩ : ByteArray) 0 0 0 0 0) ?_ 0 _ rfl; exact bd BK523.out) : p := h
theorem u14_4 {p : Prop} (h : p := by (try simp only [List.map_toArray, List.map_cons, List.map_nil]); first | done | rfl) : p := h
theorem u14_5 {p : Prop} (h : p := by repeat (first | (with_reducible first | exact HB.out | apply below_alloc | apply pw_below_drewN | apply below_drew1 | refine below_set ?_ GE523.out) | exact HB.out)) : p := h
theorem u14_6 {p : Prop} (h : p := by repeat (first | (with_reducible first | exact HB.out | apply below_alloc | apply pw_below_drewN | apply below_drew1) | exact HB.out)) : p := h
def laws_FnDeviceText.j0 : Nat → List Int → Bool → Option (Bool)
 | 0, _, _ => none
 | k + 1, x0, x35 => if x35 = true then (some false) else ((spec_DrawParseDevice.f k x0).bind fun t538 => ((impl_ParseDevice.f k t538).bind fun bt539 => (if bt539.2.2.2.2.2.2.2.2 = true then ((impl_FormatDevice.f k bt539.1 bt539.2.1 bt539.2.2.1 bt539.2.2.2.1 bt539.2.2.2.2.1 bt539.2.2.2.2.2.1 bt539.2.2.2.2.2.2.1 bt539.2.2.2.2.2.2.2.1).bind fun t549 => (some (t549.toList == t538.toList))) else (some true))))
def laws_FnDeviceText.f (k : Nat) (l0 : List Int) : Option (Bool) := (laws_big.f l0).bind fun t514 => (if t514 = true then (some true) else ((spec_DrawFormatDevice.f k l0).bind fun bt515 => ((impl_FormatDevice.f k bt515.1 bt515.2.1 bt515.2.2.1 bt515.2.2.2.1 bt515.2.2.2.2.1 bt515.2.2.2.2.2.1 bt515.2.2.2.2.2.2.1 bt515.2.2.2.2.2.2.2).bind fun t524 => ((impl_ParseDevice.f k t524).bind fun bt525 => ((impl_IsDevice.f k bt515.1 bt515.2.1 bt515.2.2.1 bt515.2.2.2.1 bt515.2.2.2.2.1 bt515.2.2.2.2.2.1 bt515.2.2.2.2.2.2.1 bt515.2.2.2.2.2.2.2).bind fun t535 => ((spec_IsDevice.f k bt515.1 bt515.2.1 bt515.2.2.1 bt515.2.2.2.1 bt515.2.2.2.2.1 bt515.2.2.2.2.2.1 bt515.2.2.2.2.2.2.1 bt515.2.2.2.2.2.2.2).bind fun t536 => (if (t535 != t536) = true then (some false) else ((impl_IsDevice.f k bt515.1 bt515.2.1 bt515.2.2.1 bt515.2.2.2.1 bt515.2.2.2.2.1 bt515.2.2.2.2.2.1 bt515.2.2.2.2.2.2.1 bt515.2.2.2.2.2.2.2).bind fun t537 => (if (bt525.2.2.2.2.2.2.2.2 != t537) = true then (laws_FnDeviceText.j0 k l0 true) else (if bt525.2.2.2.2.2.2.2.2 = true then (laws_FnDeviceText.j0 k l0 (!(bt525.1.toList == bt515.1.toList) || (!(bt525.2.1 == bt515.2.1) || (!(bt525.2.2.1.toList == bt515.2.2.1.toList) || ((!(bt525.2.2.2.1 == bt515.2.2.2.1) || (!(bt525.2.2.2.2.1 == bt515.2.2.2.2.1))) || (!(bt525.2.2.2.2.2.1 == bt515.2.2.2.2.2.1) || (!(bt525.2.2.2.2.2.2.1 == bt515.2.2.2.2.2.2.1) || (!(bt525.2.2.2.2.2.2.2.1 == bt515.2.2.2.2.2.2.2))))))))) else (laws_FnDeviceText.j0 k l0 false)))))))))))
theorem laws_FnDeviceText.mono_l : ∀ k, (∀ y0 y1, LeO (laws_FnDeviceText.j0 k y0 y1) (laws_FnDeviceText.j0 (k + 1) y0 y1))
 | 0 => fun _ _ r h => by simp [laws_FnDeviceText.j0] at h
 | k + 1 => by
  have ih0 := laws_FnDeviceText.mono_l k
  ·intro y0 y1
   unfold laws_FnDeviceText.j0
   repeat' first
   | (with_reducible exact ih0 _ _)
   | (with_reducible exact impl_FormatDevice.mono _ _ _ _ _ _ _ _ _)
   | (with_reducible exact impl_IsDevice.mono _ _ _ _ _ _ _ _ _)
   | (with_reducible exact impl_ParseDevice.mono _ _)
   | (with_reducible exact spec_DrawFormatDevice.mono _ _)
   | (with_reducible exact spec_DrawParseDevice.mono _ _)
   | (with_reducible exact spec_IsDevice.mono _ _ _ _ _ _ _ _ _)
   | (with_reducible exact LeO.refl _)
   | (with_reducible exact LeO.none _)
   | (with_reducible refine LeO.ite ?_ ?_)
   | (with_reducible refine LeO.bind ?_ (fun _ => ?_))
theorem laws_FnDeviceText.mono : ∀ a0 k, LeO (laws_FnDeviceText.f k a0) (laws_FnDeviceText.f (k + 1) a0) := by
 intro a0 k
 have ih0 := laws_FnDeviceText.mono_l k
 unfold laws_FnDeviceText.f
 repeat' first
   | (with_reducible exact ih0 _ _)
   | (with_reducible exact impl_FormatDevice.mono _ _ _ _ _ _ _ _ _)
   | (with_reducible exact impl_IsDevice.mono _ _ _ _ _ _ _ _ _)
   | (with_reducible exact impl_ParseDevice.mono _ _)
   | (with_reducible exact spec_DrawFormatDevice.mono _ _)
   | (with_reducible exact spec_DrawParseDevice.mono _ _)
   | (with_reducible exact spec_IsDevice.mono _ _ _ _ _ _ _ _ _)
   | (with_reducible exact LeO.refl _)
   | (with_reducible exact LeO.none _)
   | (with_reducible refine LeO.ite ?_ ?_)
   | (with_reducible refine LeO.bind ?_ (fun _ => ?_))
theorem laws_FnDeviceText.calls (k : Nat) (A0 : Option Addr) (c0 : Nat) (l0 : List Int) (r : Bool) (w : World) (hr0 : Kd.C (Kd.int .u8) w A0 l0.length l0) (hc0 : l0.length ≤ c0) (h : laws_FnDeviceText.f k l0 = some r) (hT : Ty.TabP w := by first | exact hT | exact Ty.TabP.below hT (by repeat (first | (with_reducible first | exact HB.out | apply below_alloc | apply pw_below_drewN | apply below_drew1 | refine below_set ?_ (Aside0.out (by assumption))) | exact HB.out)) | (repeat (first | exact hT | apply Ty.TabP.drewN))) :
  Calls Tryd.prog 4 #[.slice A0 l0.length c0] w fun e w' => e = .returned (.bool r) ∧ Below w.heap.size w w' := by
 have hu38 := Tryd.underlying38
 have HR0 := am hr0
 have HC0 := am hc0
 clear hr0 hc0
 have HB := am (Below.refl w.heap.size w)
 have H : ((laws_big.f l0).bind fun t514 => (if t514 = true then (some true) else ((spec_DrawFormatDevice.f k l0).bind fun bt515 => ((impl_FormatDevice.f k bt515.1 bt515.2.1 bt515.2.2.1 bt515.2.2.2.1 bt515.2.2.2.2.1 bt515.2.2.2.2.2.1 bt515.2.2.2.2.2.2.1 bt515.2.2.2.2.2.2.2).bind fun t524 => ((impl_ParseDevice.f k t524).bind fun bt525 => ((impl_IsDevice.f k bt515.1 bt515.2.1 bt515.2.2.1 bt515.2.2.2.1 bt515.2.2.2.2.1 bt515.2.2.2.2.2.1 bt515.2.2.2.2.2.2.1 bt515.2.2.2.2.2.2.2).bind fun t535 => ((spec_IsDevice.f k bt515.1 bt515.2.1 bt515.2.2.1 bt515.2.2.2.1 bt515.2.2.2.2.1 bt515.2.2.2.2.2.1 bt515.2.2.2.2.2.2.1 bt515.2.2.2.2.2.2.2).bind fun t536 => (if (t535 != t536) = true then (some false) else ((impl_IsDevice.f k bt515.1 bt515.2.1 bt515.2.2.1 bt515.2.2.2.1 bt515.2.2.2.2.1 bt515.2.2.2.2.2.1 bt515.2.2.2.2.2.2.1 bt515.2.2.2.2.2.2.2).bind fun t537 => (if (bt525.2.2.2.2.2.2.2.2 != t537) = true then (laws_FnDeviceText.j0 k l0 true) else (if bt525.2.2.2.2.2.2.2.2 = true then (laws_FnDeviceText.j0 k l0 (!(bt525.1.toList == bt515.1.toList) || (!(bt525.2.1 == bt515.2.1) || (!(bt525.2.2.1.toList == bt515.2.2.1.toList) || ((!(bt525.2.2.2.1 == bt515.2.2.2.1) || (!(bt525.2.2.2.2.1 == bt515.2.2.2.2.1))) || (!(bt525.2.2.2.2.2.1 == bt515.2.2.2.2.2.1) || (!(bt525.2.2.2.2.2.2.1 == bt515.2.2.2.2.2.2.1) || (!(bt525.2.2.2.2.2.2.2.1 == bt515.2.2.2.2.2.2.2))))))))) else (laws_FnDeviceText.j0 k l0 false)))))))))))) = some r := h
 clear h
 replace H := ob H
 obtain ⟨t514, A20, H⟩ := H
 replace H : (if t514 = true then (some true) else ((spec_DrawFormatDevice.f k l0).bind fun bt515 => ((impl_FormatDevice.f k bt515.1 bt515.2.1 bt515.2.2.1 bt515.2.2.2.1 bt515.2.2.2.2.1 bt515.2.2.2.2.2.1 bt515.2.2.2.2.2.2.1 bt515.2.2.2.2.2.2.2).bind fun t524 => ((impl_ParseDevice.f k t524).bind fun bt525 => ((impl_IsDevice.f k bt515.1 bt515.2.1 bt515.2.2.1 bt515.2.2.2.1 bt515.2.2.2.2.1 bt515.2.2.2.2.2.1 bt515.2.2.2.2.2.2.1 bt515.2.2.2.2.2.2.2).bind fun t535 => ((spec_IsDevice.f k bt515.1 bt515.2.1 bt515.2.2.1 bt515.2.2.2.1 bt515.2.2.2.2.1 bt515.2.2.2.2.2.1 bt515.2.2.2.2.2.2.1 bt515.2.2.2.2.2.2.2).bind fun t536 => (if (t535 != t536) = true then (some false) else ((impl_IsDevice.f k bt515.1 bt515.2.1 bt515.2.2.1 bt515.2.2.2.1 bt515.2.2.2.2.1 bt515.2.2.2.2.2.1 bt515.2.2.2.2.2.2.1 bt515.2.2.2.2.2.2.2).bind fun t537 => (if (bt525.2.2.2.2.2.2.2.2 != t537) = true then (laws_FnDeviceText.j0 k l0 true) else (if bt525.2.2.2.2.2.2.2.2 = true then (laws_FnDeviceText.j0 k l0 (!(bt525.1.toList == bt515.1.toList) || (!(bt525.2.1 == bt515.2.1) || (!(bt525.2.2.1.toList == bt515.2.2.1.toList) || ((!(bt525.2.2.2.1 == bt515.2.2.2.1) || (!(bt525.2.2.2.2.1 == bt515.2.2.2.2.1))) || (!(bt525.2.2.2.2.2.1 == bt515.2.2.2.2.2.1) || (!(bt525.2.2.2.2.2.2.1 == bt515.2.2.2.2.2.2.1) || (!(bt525.2.2.2.2.2.2.2.1 == bt515.2.2.2.2.2.2.2))))))))) else (laws_FnDeviceText.j0 k l0 false))))))))))) = some r := H
 have A2 := am A20
 clear A20
 by_cases c3 : t514 = true
 ·subst c3
  have H1 : (some true) = some r := by rw [if_pos rfl] at H; exact H
  clear H
  have H := H1
  clear H1
  obtain rfl := oi H
  go_enter Tryd.func4, Tryd.ntmps4
  go_wp2_with (first | ((with_reducible refine gate_callee (f := 9) rfl ?_); refine goesL_ (some 10) rfl rfl Tryd.func9 (by kernel_rfl) rfl #[.slice A0 l0.length c0] rfl u14_4 ?_; (with_reducible refine (laws_big.calls _ _ l0 true _ ?side1 ?side2 A2.out).mono ?_); (case side1 => exact y14_1); (case side2 => exact HC0.out); rintro e w' ⟨rfl, ⟨nd, rfl⟩⟩; refine ⟨_, rfl, ?_⟩))
  go_ret
  exact ⟨by first | rfl | (simp [*] <;> rfl), by repeat (first | (with_reducible first | exact HB.out | apply below_alloc | apply pw_below_drewN | apply below_drew1) | exact HB.out)⟩
 ·replace c3 := Bool.eq_false_iff.mpr c3
  subst c3
  have H1 : ((spec_DrawFormatDevice.f k l0).bind fun bt515 => ((impl_FormatDevice.f k bt515.1 bt515.2.1 bt515.2.2.1 bt515.2.2.2.1 bt515.2.2.2.2.1 bt515.2.2.2.2.2.1 bt515.2.2.2.2.2.2.1 bt515.2.2.2.2.2.2.2).bind fun t524 => ((impl_ParseDevice.f k t524).bind fun bt525 => ((impl_IsDevice.f k bt515.1 bt515.2.1 bt515.2.2.1 bt515.2.2.2.1 bt515.2.2.2.2.1 bt515.2.2.2.2.2.1 bt515.2.2.2.2.2.2.1 bt515.2.2.2.2.2.2.2).bind fun t535 => ((spec_IsDevice.f k bt515.1 bt515.2.1 bt515.2.2.1 bt515.2.2.2.1 bt515.2.2.2.2.1 bt515.2.2.2.2.2.1 bt515.2.2.2.2.2.2.1 bt515.2.2.2.2.2.2.2).bind fun t536 => (if (t535 != t536) = true then (some false) else ((impl_IsDevice.f k bt515.1 bt515.2.1 bt515.2.2.1 bt515.2.2.2.1 bt515.2.2.2.2.1 bt515.2.2.2.2.2.1 bt515.2.2.2.2.2.2.1 bt515.2.2.2.2.2.2.2).bind fun t537 => (if (bt525.2.2.2.2.2.2.2.2 != t537) = true then (laws_FnDeviceText.j0 k l0 true) else (if bt525.2.2.2.2.2.2.2.2 = true then (laws_FnDeviceText.j0 k l0 (!(bt525.1.toList == bt515.1.toList) || (!(bt525.2.1 == bt515.2.1) || (!(bt525.2.2.1.toList == bt515.2.2.1.toList) || ((!(bt525.2.2.2.1 == bt515.2.2.2.1) || (!(bt525.2.2.2.2.1 == bt515.2.2.2.2.1))) || (!(bt525.2.2.2.2.2.1 == bt515.2.2.2.2.2.1) || (!(bt525.2.2.2.2.2.2.1 == bt515.2.2.2.2.2.2.1) || (!(bt525.2.2.2.2.2.2.2.1 == bt515.2.2.2.2.2.2.2))))))))) else (laws_FnDeviceText.j0 k l0 false)))))))))) = some r := by rw [if_neg (show ¬ (false = true) by decide)] at H; exact H
  clear H
  have H := H1
  clear H1
  replace H := ob H
  obtain ⟨⟨t515, t516, t517, t518, t519, t520, t521, t522⟩, A40, H⟩ := H
  replace H : ((impl_FormatDevice.f k t515 t516 t517 t518 t519 t520 t521 t522).bind fun t524 => ((impl_ParseDevice.f k t524).bind fun bt525 => ((impl_IsDevice.f k t515 t516 t517 t518 t519 t520 t521 t522).bind fun t535 => ((spec_IsDevice.f k t515 t516 t517 t518 t519 t520 t521 t522).bind fun t536 => (if (t535 != t536) = true then (some false) else ((impl_IsDevice.f k t515 t516 t517 t518 t519 t520 t521 t522).bind fun t537 => (if (bt525.2.2.2.2.2.2.2.2 != t537) = true then (laws_FnDeviceText.j0 k l0 true) else (if bt525.2.2.2.2.2.2.2.2 = true then (laws_FnDeviceText.j0 k l0 (!(bt525.1.toList == t515.toList) || (!(bt525.2.1 == t516) || (!(bt525.2.2.1.toList == t517.toList) || ((!(bt525.2.2.2.1 == t518) || (!(bt525.2.2.2.2.1 == t519))) || (!(bt525.2.2.2.2.2.1 == t520) || (!(bt525.2.2.2.2.2.2.1 == t521) || (!(bt525.2.2.2.2.2.2.2.1 == t522))))))))) else (laws_FnDeviceText.j0 k l0 false))))))))) = some r := H
  have A4 := am A40
  clear A40
  replace H := ob H
  obtain ⟨t524, A50, H⟩ := H
  replace H : ((impl_ParseDevice.f k t524).bind fun bt525 => ((impl_IsDevice.f k t515 t516 t517 t518 t519 t520 t521 t522).bind fun t535 => ((spec_IsDevice.f k t515 t516 t517 t518 t519 t520 t521 t522).bind fun t536 => (if (t535 != t536) = true then (some false) else ((impl_IsDevice.f k t515 t516 t517 t518 t519 t520 t521 t522).bind fun t537 => (if (bt525.2.2.2.2.2.2.2.2 != t537) = true then (laws_FnDeviceText.j0 k l0 true) else (if bt525.2.2.2.2.2.2.2.2 = true then (laws_FnDeviceText.j0 k l0 (!(bt525.1.toList == t515.toList) || (!(bt525.2.1 == t516) || (!(bt525.2.2.1.toList == t517.toList) || ((!(bt525.2.2.2.1 == t518) || (!(bt525.2.2.2.2.1 == t519))) || (!(bt525.2.2.2.2.2.1 == t520) || (!(bt525.2.2.2.2.2.2.1 == t521) || (!(bt525.2.2.2.2.2.2.2.1 == t522))))))))) else (laws_FnDeviceText.j0 k l0 false)))))))) = some r := H
  have A5 := am A50
  clear A50
  replace H := ob H
  obtain ⟨⟨t525, t526, t527, t528, t529, t530, t531, t532, t533⟩, A60, H⟩ := H
  replace H : ((impl_IsDevice.f k t515 t516 t517 t518 t519 t520 t521 t522).bind fun t535 => ((spec_IsDevice.f k t515 t516 t517 t518 t519 t520 t521 t522).bind fun t536 => (if (t535 != t536) = true then (some false) else ((impl_IsDevice.f k t515 t516 t517 t518 t519 t520 t521 t522).bind fun t537 => (if (t533 != t537) = true then (laws_FnDeviceText.j0 k l0 true) else (if t533 = true then (laws_FnDeviceText.j0 k l0 (!(t525.toList == t515.toList) || (!(t526 == t516) || (!(t527.toList == t517.toList) || ((!(t528 == t518) || (!(t529 == t519))) || (!(t530 == t520) || (!(t531 == t521) || (!(t532 == t522))))))))) else (laws_FnDeviceText.j0 k l0 false))))))) = some r := H
  have A6 := am A60
  clear A60
  replace H := ob H
  obtain ⟨t535, A70, H⟩ := H
  replace H : ((spec_IsDevice.f k t515 t516 t517 t518 t519 t520 t521 t522).bind fun t536 => (if (t535 != t536) = true then (some false) else ((impl_IsDevice.f k t515 t516 t517 t518 t519 t520 t521 t522).bind fun t537 => (if (t533 != t537) = true then (laws_FnDeviceText.j0 k l0 true) else (if t533 = true then (laws_FnDeviceText.j0 k l0 (!(t525.toList == t515.toList) || (!(t526 == t516) || (!(t527.toList == t517.toList) || ((!(t528 == t518) || (!(t529 == t519))) || (!(t530 == t520) || (!(t531 == t521) || (!(t532 == t522))))))))) else (laws_FnDeviceText.j0 k l0 false)))))) = some r := H
  have A7 := am A70
  clear A70
  replace H := ob H
  obtain ⟨t536, A80, H⟩ := H
  replace H : (if (t535 != t536) = true then (some false) else ((impl_IsDevice.f k t515 t516 t517 t518 t519 t520 t521 t522).bind fun t537 => (if (t533 != t537) = true then (laws_FnDeviceText.j0 k l0 true) else (if t533 = true then (laws_FnDeviceText.j0 k l0 (!(t525.toList == t515.toList) || (!(t526 == t516) || (!(t527.toList == t517.toList) || ((!(t528 == t518) || (!(t529 == t519))) || (!(t530 == t520) || (!(t531 == t521) || (!(t532 == t522))))))))) else (laws_FnDeviceText.j0 k l0 false))))) = some r := H
  have A8 := am A80
  clear A80
  by_cases c9 : (t535 != t536) = true
  ·rw [if_pos c9] at H
   have c9b0 : (t535 != t536) = true := c9
   (try (have c9b1 : decide (t535 = t536) = false := by simpa using c9))
   (try (have c9b2 : (t535 == t536) = false := by simpa using c9))
   (try (have c9b3 : ¬ (t535 = t536) := by simpa using c9))
   clear c9
   obtain rfl := oi H
   go_enter Tryd.func4, Tryd.ntmps4
   try go_wp2_with (first | ((with_reducible refine gate_callee (f := 9) rfl ?_); refine goesL_ (some 10) rfl rfl Tryd.func9 (by kernel_rfl) rfl #[.slice A0 l0.length c0] rfl u14_4 ?_; (with_reducible refine (laws_big.calls _ _ l0 false _ ?side1 ?side2 A2.out).mono ?_); (case side1 => exact y14_1); (case side2 => exact HC0.out); rintro e w' ⟨rfl, ⟨nd, rfl⟩⟩; refine ⟨_, rfl, ?_⟩) | ((with_reducible refine gate_callee (f := 18) rfl ?_); refine goesL_ (some 12) rfl rfl Tryd.func18 (by kernel_rfl) rfl #[.slice A0 l0.length c0] rfl u14_4 ?_; (with_reducible refine (spec_DrawFormatDevice.calls k _ _ l0 t515 t516 t517 t518 t519 t520 t521 t522 _ ?side1 ?side2 A4.out).mono ?_); (case side1 => exact y14_1); (case side2 => exact HC0.out); rintro e w10 ⟨rfl, hb⟩; refine ⟨_, rfl, ?_⟩; have n0_ := am (below_step u14_6 hb); clear HB; have HB := n0_; clear n0_; (try clear hb); (try clear hb2); (try clear hk); (try clear hi)) | ((with_reducible refine gate_dst (N := 3) rfl ?_); refine box_event ?hg (N := 3) ?hd (cs := #[.string (⟨#[]⟩ : ByteArray), .int .i64 0, .string (⟨#[]⟩ : ByteArray), .int .i64 0, .int .i64 0, .int .i64 0, .int .i64 0, .int .i64 0]) (t := 38) ?hr ?_; (case hd => rfl); (case hg => rfl); (case hr => exact gq); intro gb523 hg w11 hbox hb; have n0_ := am (below_step u14_6 hb); have n1_ := am (hbox); have n2_ := bsw w hg (below_size u14_6); have n3_ := bsw w hg (below_size u14_6); clear HB; have HB := n0_; have BK523 := n1_; have GW523 := n2_; have GE523 := n3_; clear n0_ n1_ n2_ n3_ hb hbox hg; obtain ⟨hcz12_0, hcz12_1, hcz12_2, hcz12_3, hcz12_4, hcz12_5, hcz12_6, hcz12_7, hfz12_0, hfz12_1, hfz12_2, hfz12_3, hfz12_4, hfz12_5, hfz12_6, hfz12_7⟩ := cf8 BK523.out) | ((with_reducible refine gate_callee (f := 20) rfl ?_); refine goesL_ (some 15) rfl rfl Tryd.func20 (by kernel_rfl) rfl #[.agg #[.string t515, .int .i64 t516, .string t517, .int .i64 t518, .int .i64 t519, .int .i64 t520, .int .i64 t521, .int .i64 t522]] rfl u14_4 ?_; (with_reducible refine (impl_FormatDevice.calls k t515 t516 t517 t518 t519 t520 t521 t522 t524 _ A5.out).mono ?_); rintro e w13 ⟨rfl, hb⟩; refine ⟨_, rfl, ?_⟩; have n0_ := am (blk_below (g := gb523) (o := zo3 t515 t516 t517 t518 t519 t520 t521 t522) u14_3 hb); have n1_ := am (below_step u14_5 hb); clear BK523 HB; have BK523 := n0_; have HB := n1_; clear n0_ n1_; (try clear hb); (try clear hb2); (try clear hk); (try clear hi)) | ((with_reducible refine gate_callee (f := 19) rfl ?_); refine goesL_ (some 16) rfl rfl Tryd.func19 (by kernel_rfl) rfl #[.string t524] rfl u14_4 ?_; (with_reducible refine (impl_ParseDevice.calls k t524 t525 t526 t527 t528 t529 t530 t531 t532 t533 _ A6.out).mono ?_); rintro e w14 ⟨rfl, hb⟩; refine ⟨_, rfl, ?_⟩; have n0_ := am (blk_below (g := gb523) (o := zo3 t515 t516 t517 t518 t519 t520 t521 t522) u14_1 hb); have n1_ := am (below_step u14_5 hb); clear BK523 HB; have BK523 := n0_; have HB := n1_; clear n0_ n1_; (try clear hb); (try clear hb2); (try clear hk); (try clear hi)) | ((with_reducible refine gate_dst (N := 4) rfl ?_); refine box_event ?hg (N := 4) ?hd (cs := #[.string (⟨#[]⟩ : ByteArray), .int .i64 0, .string (⟨#[]⟩ : ByteArray), .int .i64 0, .int .i64 0, .int .i64 0, .int .i64 0, .int .i64 0]) (t := 38) ?hr ?_; (case hd => rfl); (case hg => rfl); (case hr => exact gq); intro gb534 hg w15 hbox hb; have n0_ := am (blk_below (g := gb523) (o := zo3 t515 t516 t517 t518 t519 t520 t521 t522) u14_1 hb); have n1_ := am (below_step u14_5 hb); have n2_ := am (hbox); have n3_ := bsw w hg (below_size u14_5); have n4_ := bsw w hg (below_size u14_5); have n5_ := am ((by rw [hg]; exact Nat.ne_of_lt (blk_lt (g := gb523) (o := zo3 t515 t516 t517 t518 t519 t520 t521 t522) u14_1) : gb523 ≠ gb534)); have n6_ := am ((by rw [hg]; exact Nat.ne_of_gt (blk_lt (g := gb523) (o := zo3 t515 t516 t517 t518 t519 t520 t521 t522) u14_1) : gb534 ≠ gb523)); clear BK523 HB; have BK523 := n0_; have HB := n1_; have BK534 := n2_; have GW534 := n3_; have GE534 := n4_; have NB523_534 := n5_; have NB534_523 := n6_; clear n0_ n1_ n2_ n3_ n4_ n5_ n6_ hb hbox hg; have hnb16 := NB534_523.out; have hnc16 := NB523_534.out; obtain ⟨hcz17_0, hcz17_1, hcz17_2, hcz17_3, hcz17_4, hcz17_5, hcz17_6, hcz17_7, hfz17_0, hfz17_1, hfz17_2, hfz17_3, hfz17_4, hfz17_5, hfz17_6, hfz17_7⟩ := cf8 BK534.out))
   have n0_ : Aside0 (((((((((w15.setCell ⟨gb534, 0, none⟩ (.string t525)).setCell ⟨gb534, 1, none⟩ (.int .i64 t526)).setCell ⟨gb534, 2, none⟩ (.string t527)).setCell ⟨gb534, 3, none⟩ (.int .i64 t528)).setCell ⟨gb534, 4, none⟩ (.int .i64 t529)).setCell ⟨gb534, 5, none⟩ (.int .i64 t530)).setCell ⟨gb534, 6, none⟩ (.int .i64 t531)).setCell ⟨gb534, 7, none⟩ (.int .i64 t532)).heap[gb523]? = some (.cells #[.string t515, .int .i64 t516, .string t517, .int .i64 t518, .int .i64 t519, .int .i64 t520, .int .i64 t521, .int .i64 t522] 38 (0, 0))) := ⟨by (with_reducible repeat (first | refine bN ?_ _ | refine bD ?_ | refine bA ?_ _)); refine blk_far ?_ NB523_534.out _; (with_reducible repeat (first | refine bN ?_ _ | refine bD ?_ | refine bA ?_ _)); refine blk_far ?_ NB523_534.out _; (with_reducible repeat (first | refine bN ?_ _ | refine bD ?_ | refine bA ?_ _)); refine blk_far ?_ NB523_534.out _; (with_reducible repeat (first | refine bN ?_ _ | refine bD ?_ | refine bA ?_ _)); refine blk_far ?_ NB523_534.out _; (with_reducible repeat (first | refine bN ?_ _ | refine bD ?_ | refine bA ?_ _)); refine blk_far ?_ NB523_534.out _; (with_reducible repeat (first | refine bN ?_ _ | refine bD ?_ | refine bA ?_ _)); refine blk_far ?_ NB523_534.out _; (with_reducible repeat (first | refine bN ?_ _ | refine bD ?_ | refine bA ?_ _)); refine blk_far ?_ NB523_534.out _; (with_reducible repeat (first | refine bN ?_ _ | refine bD ?_ | refine bA ?_ _)); refine blk_far ?_ NB523_534.out _; exact bd BK523.out⟩
   have n1_ : Aside0 (((((((((w15.setCell ⟨gb534, 0, none⟩ (.string t525)).setCell ⟨gb534, 1, none⟩ (.int .i64 t526)).setCell ⟨gb534, 2, none⟩ (.string t527)).setCell ⟨gb534, 3, none⟩ (.int .i64 t528)).setCell ⟨gb534, 4, none⟩ (.int .i64 t529)).setCell ⟨gb534, 5, none⟩ (.int .i64 t530)).setCell ⟨gb534, 6, none⟩ (.int .i64 t531)).setCell ⟨gb534, 7, none⟩ (.int .i64 t532)).heap[gb534]? = some (.cells #[.string t525, .int .i64 t526, .string t527, .int .i64 t528, .int .i64 t529, .int .i64 t530, .int .i64 t531, .int .i64 t532] 38 (0, 0))) := ⟨by (with_reducible repeat (first | refine bN ?_ _ | refine bD ?_ | refine bA ?_ _)); refine blk_put (cs := zr6 t525 t526 t527 t528 t529 t530 t531 0) ?_ 7 _ rfl; refine blk_put (cs := zr6 t525 t526 t527 t528 t529 t530 0 0) ?_ 6 _ rfl; refine blk_put (cs := zr6 t525 t526 t527 t528 t529 0 0 0) ?_ 5 _ rfl; refine blk_put (cs := zr6 t525 t526 t527 t528 0 0 0 0) ?_ 4 _ rfl; refine blk_put (cs := zr6 t525 t526 t527 0 0 0 0 0) ?_ 3 _ rfl; refine blk_put (cs := zr6 t525 t526 (⟨#[]⟩ : ByteArray) 0 0 0 0 0) ?_ 2 _ rfl; (with_reducible repeat (first | refine bN ?_ _ | refine bD ?_ | refine bA ?_ _)); refine blk_put (cs := zr6 t525 0 (⟨#[]⟩ : ByteArray) 0 0 0 0 0) ?_ 1 _ rfl; (with_reducible repeat (first | refine bN ?_ _ | refine bD ?_ | refine bA ?_ _)); refine blk_put (cs := zr6 (⟨#[]⟩ : ByteArray) 0 (⟨#[]⟩ : ByteArray) 0 0 0 0 0) ?_ 0 _ rfl; exact bd BK534.out⟩
   have n2_ : Aside0 (Below w.heap.size w ((((((((w15.setCell ⟨gb534, 0, none⟩ (.string t525)).setCell ⟨gb534, 1, none⟩ (.int .i64 t526)).setCell ⟨gb534, 2, none⟩ (.string t527)).setCell ⟨gb534, 3, none⟩ (.int .i64 t528)).setCell ⟨gb534, 4, none⟩ (.int .i64 t529)).setCell ⟨gb534, 5, none⟩ (.int .i64 t530)).setCell ⟨gb534, 6, none⟩ (.int .i64 t531)).setCell ⟨gb534, 7, none⟩ (.int .i64 t532))) := ⟨s14_1⟩
   (try clear BK523)
   (try clear BK534)
   (try clear HB)
   (try simp only [show ∀ (w_ : World) (n_ : Nat) (a_ : Addr) (v_ : Value), (w_.drewN n_).setCell a_ v_ = (w_.setCell a_ v_).drewN n_ from fun _ _ _ _ => rfl, show ∀ (w_ : World) (a_ : Addr) (v_ : Value), w_.drew.setCell a_ v_ = (w_.setCell a_ v_).drew from fun _ _ _ => rfl])
   generalize ((((((((w15.setCell ⟨gb534, 0, none⟩ (.string t525)).setCell ⟨gb534, 1, none⟩ (.int .i64 t526)).setCell ⟨gb534, 2, none⟩ (.string t527)).setCell ⟨gb534, 3, none⟩ (.int .i64 t528)).setCell ⟨gb534, 4, none⟩ (.int .i64 t529)).setCell ⟨gb534, 5, none⟩ (.int .i64 t530)).setCell ⟨gb534, 6, none⟩ (.int .i64 t531)).setCell ⟨gb534, 7, none⟩ (.int .i64 t532)) = w18 at n0_ n1_ n2_ ⊢
   have BK523 := n0_
   have BK534 := n1_
   have HB := n2_
   clear n0_ n1_ n2_
   have n0_ := am (blk_drew BK523.out)
   have n1_ := am (blk_drew BK534.out)
   have n2_ := am (below_drew1 HB.out)
   clear BK523 BK534 HB
   have BK523 := n0_
   have BK534 := n1_
   have HB := n2_
   clear n0_ n1_ n2_
   refine start_ (n := 5) (S := fun w' => zc8 w' gb523 t515 t516 t517 t518 t519 t520 t521 t522) (ds := []) #[false, false, false, false, false] (by kernel_rfl) rfl rfl ⟨(blk_cell BK523.out 0).trans rfl, (blk_cell BK523.out 1).trans rfl, (blk_cell BK523.out 2).trans rfl, (blk_cell BK523.out 3).trans rfl, (blk_cell BK523.out 4).trans rfl, (blk_cell BK523.out 5).trans rfl, (blk_cell BK523.out 6).trans rfl, (blk_cell BK523.out 7).trans rfl⟩ (fun hHeld => ?_)
   generalize w18.drew = w19 at BK523 BK534 HB hHeld ⊢
   refine take_ (i := 0) (N := some 19) (v := ?_) (a' := ?_) #[true, false, false, false, false] rfl rfl (by kernel_rfl) (fun _ _ _ h => h) (Or.inl ⟨by rfl, ?_⟩) hHeld ?_ ?_
   rotate_left
   ·rintro w' ⟨s0, s1, s2, s3, s4, s5, s6, s7⟩
    exact gs
   rotate_left
   ·exact ap
   refine take_ (i := 2) (N := some 21) (v := ?_) (a' := ?_) #[true, false, true, false, false] rfl rfl (by kernel_rfl) (fun _ _ _ h => h) (Or.inl ⟨by rfl, ?_⟩) hHeld ?_ ?_
   rotate_left
   ·rintro w' ⟨s0, s1, s2, s3, s4, s5, s6, s7⟩
    exact gs
   rotate_left
   ·exact ap
   refine one_ (i := 1) (N := some 20) #[true, true, true, false, false] rfl rfl (by kernel_rfl) (by decide) (fun K hK => ?_)
   refine goes_ Tryd.func21 (by kernel_rfl) rfl #[.agg #[.string t515, .int .i64 t516, .string t517, .int .i64 t518, .int .i64 t519, .int .i64 t520, .int .i64 t521, .int .i64 t522]] (by rfl) rfl rfl u14_4 ?_
   with_reducible refine (impl_IsDevice.calls k t515 t516 t517 t518 t519 t520 t521 t522 t535 _ A7.out).mono ?_
   rintro e w20 ⟨rfl, hb⟩
   refine ⟨_, rfl, ?_⟩
   have n0_ := am (blk_below (g := gb523) (o := zo3 t515 t516 t517 t518 t519 t520 t521 t522) u14_1 hb)
   have n1_ := am (blk_below (g := gb534) (o := zo3 t525 t526 t527 t528 t529 t530 t531 t532) u14_2 hb)
   have n2_ := am (below_step u14_0 hb)
   clear BK523 BK534 HB
   have BK523 := n0_
   have BK534 := n1_
   have HB := n2_
   clear n0_ n1_ n2_
   (try clear hb)
   (try clear hb2)
   (try clear hk)
   (try clear hi)
   refine hK.out _ _ ⟨(blk_cell BK523.out 0).trans rfl, (blk_cell BK523.out 1).trans rfl, (blk_cell BK523.out 2).trans rfl, (blk_cell BK523.out 3).trans rfl, (blk_cell BK523.out 4).trans rfl, (blk_cell BK523.out 5).trans rfl, (blk_cell BK523.out 6).trans rfl, (blk_cell BK523.out 7).trans rfl⟩ (fun hHeld => ?_)
   clear hK K
   refine norm_ (a' := ?_) ?_ ?_
   rotate_left
   ·show Act.put _ (some 20) _ = _
    simp only [Act.put, List.setIfInBounds_toArray, List.set_cons_zero, List.set_cons_succ, i64_w, i32_w]
    rfl
   refine one_ (i := 3) (N := some 22) #[true, true, true, true, false] rfl rfl (by kernel_rfl) (by decide) (fun K hK => ?_)
   refine goes_ Tryd.func22 (by kernel_rfl) rfl #[.agg #[.string t515, .int .i64 t516, .string t517, .int .i64 t518, .int .i64 t519, .int .i64 t520, .int .i64 t521, .int .i64 t522]] (by rfl) rfl rfl u14_4 ?_
   with_reducible refine (spec_IsDevice.calls k t515 t516 t517 t518 t519 t520 t521 t522 t536 _ A8.out).mono ?_
   rintro e w21 ⟨rfl, hb⟩
   refine ⟨_, rfl, ?_⟩
   have n0_ := am (blk_below (g := gb523) (o := zo3 t515 t516 t517 t518 t519 t520 t521 t522) u14_1 hb)
   have n1_ := am (blk_below (g := gb534) (o := zo3 t525 t526 t527 t528 t529 t530 t531 t532) u14_2 hb)
   have n2_ := am (below_step u14_0 hb)
   clear BK523 BK534 HB
   have BK523 := n0_
   have BK534 := n1_
   have HB := n2_
   clear n0_ n1_ n2_
   (try clear hb)
   (try clear hb2)
   (try clear hk)
   (try clear hi)
   refine hK.out _ _ ⟨(blk_cell BK523.out 0).trans rfl, (blk_cell BK523.out 1).trans rfl, (blk_cell BK523.out 2).trans rfl, (blk_cell BK523.out 3).trans rfl, (blk_cell BK523.out 4).trans rfl, (blk_cell BK523.out 5).trans rfl, (blk_cell BK523.out 6).trans rfl, (blk_cell BK523.out 7).trans rfl⟩ (fun hHeld => ?_)
   clear hK K
   refine norm_ (a' := ?_) ?_ ?_
   rotate_left
   ·show Act.put _ (some 22) _ = _
    simp only [Act.put, List.setIfInBounds_toArray, List.set_cons_zero, List.set_cons_succ, i64_w, i32_w]
    rfl
   refine pure_ (i := 4) (N := some 23) (v := ?_) (a' := ?_) #[true, true, true, true, true] rfl rfl (by kernel_rfl) (fun _ _ _ h => h) (Or.inl ⟨by rfl, ?_⟩) ?_ ?_
   rotate_left
   ·intro w'
    exact gs
   rotate_left
   ·exact ap
   refine done_ (by kernel_rfl) ?_
   try go_wp2
   go_ret
   exact ⟨by first | rfl | (simp [*] <;> rfl), s14_1⟩
  ·rw [if_neg c9] at H
   have c9b0 : (t535 != t536) = false := by simpa using c9
   (try (have c9b1 : decide (t535 = t536) = true := by simpa using c9))
   (try (have c9b2 : (t535 == t536) = true := by simpa using c9))
   clear c9
   have HC22 := am H
   clear H
   go_enter Tryd.func4, Tryd.ntmps4
   try go_wp2_with (first | ((with_reducible refine gate_callee (f := 9) rfl ?_); refine goesL_ (some 10) rfl rfl Tryd.func9 (by kernel_rfl) rfl #[.slice A0 l0.length c0] rfl u14_4 ?_; (with_reducible refine (laws_big.calls _ _ l0 false _ ?side1 ?side2 A2.out).mono ?_); (case side1 => exact y14_1); (case side2 => exact HC0.out); rintro e w' ⟨rfl, ⟨nd, rfl⟩⟩; refine ⟨_, rfl, ?_⟩) | ((with_reducible refine gate_callee (f := 18) rfl ?_); refine goesL_ (some 12) rfl rfl Tryd.func18 (by kernel_rfl) rfl #[.slice A0 l0.length c0] rfl u14_4 ?_; (with_reducible refine (spec_DrawFormatDevice.calls k _ _ l0 t515 t516 t517 t518 t519 t520 t521 t522 _ ?side1 ?side2 A4.out).mono ?_); (case side1 => exact y14_1); (case side2 => exact HC0.out); rintro e w23 ⟨rfl, hb⟩; refine ⟨_, rfl, ?_⟩; have n0_ := am (below_step u14_6 hb); clear HB; have HB := n0_; clear n0_; (try clear hb); (try clear hb2); (try clear hk); (try clear hi)) | ((with_reducible refine gate_dst (N := 3) rfl ?_); refine box_event ?hg (N := 3) ?hd (cs := #[.string (⟨#[]⟩ : ByteArray), .int .i64 0, .string (⟨#[]⟩ : ByteArray), .int .i64 0, .int .i64 0, .int .i64 0, .int .i64 0, .int .i64 0]) (t := 38) ?hr ?_; (case hd => rfl); (case hg => rfl); (case hr => exact gq); intro gb523 hg w24 hbox hb; have n0_ := am (below_step u14_6 hb); have n1_ := am (hbox); have n2_ := bsw w hg (below_size u14_6); have n3_ := bsw w hg (below_size u14_6); clear HB; have HB := n0_; have BK523 := n1_; have GW523 := n2_; have GE523 := n3_; clear n0_ n1_ n2_ n3_ hb hbox hg; obtain ⟨hcz25_0, hcz25_1, hcz25_2, hcz25_3, hcz25_4, hcz25_5, hcz25_6, hcz25_7, hfz25_0, hfz25_1, hfz25_2, hfz25_3, hfz25_4, hfz25_5, hfz25_6, hfz25_7⟩ := cf8 BK523.out) | ((with_reducible refine gate_callee (f := 20) rfl ?_); refine goesL_ (some 15) rfl rfl Tryd.func20 (by kernel_rfl) rfl #[.agg #[.string t515, .int .i64 t516, .string t517, .int .i64 t518, .int .i64 t519, .int .i64 t520, .int .i64 t521, .int .i64 t522]] rfl u14_4 ?_; (with_reducible refine (impl_FormatDevice.calls k t515 t516 t517 t518 t519 t520 t521 t522 t524 _ A5.out).mono ?_); rintro e w26 ⟨rfl, hb⟩; refine ⟨_, rfl, ?_⟩; have n0_ := am (blk_below (g := gb523) (o := zo3 t515 t516 t517 t518 t519 t520 t521 t522) u14_3 hb); have n1_ := am (below_step u14_5 hb); clear BK523 HB; have BK523 := n0_; have HB := n1_; clear n0_ n1_; (try clear hb); (try clear hb2); (try clear hk); (try clear hi)) | ((with_reducible refine gate_callee (f := 19) rfl ?_); refine goesL_ (some 16) rfl rfl Tryd.func19 (by kernel_rfl) rfl #[.string t524] rfl u14_4 ?_; (with_reducible refine (impl_ParseDevice.calls k t524 t525 t526 t527 t528 t529 t530 t531 t532 t533 _ A6.out).mono ?_); rintro e w27 ⟨rfl, hb⟩; refine ⟨_, rfl, ?_⟩; have n0_ := am (blk_below (g := gb523) (o := zo3 t515 t516 t517 t518 t519 t520 t521 t522) u14_1 hb); have n1_ := am (below_step u14_5 hb); clear BK523 HB; have BK523 := n0_; have HB := n1_; clear n0_ n1_; (try clear hb); (try clear hb2); (try clear hk); (try clear hi)) | ((with_reducible refine gate_dst (N := 4) rfl ?_); refine box_event ?hg (N := 4) ?hd (cs := #[.string (⟨#[]⟩ : ByteArray), .int .i64 0, .string (⟨#[]⟩ : ByteArray), .int .i64 0, .int .i64 0, .int .i64 0, .int .i64 0, .int .i64 0]) (t := 38) ?hr ?_; (case hd => rfl); (case hg => rfl); (case hr => exact gq); intro gb534 hg w28 hbox hb; have n0_ := am (blk_below (g := gb523) (o := zo3 t515 t516 t517 t518 t519 t520 t521 t522) u14_1 hb); have n1_ := am (below_step u14_5 hb); have n2_ := am (hbox); have n3_ := bsw w hg (below_size u14_5); have n4_ := bsw w hg (below_size u14_5); have n5_ := am ((by rw [hg]; exact Nat.ne_of_lt (blk_lt (g := gb523) (o := zo3 t515 t516 t517 t518 t519 t520 t521 t522) u14_1) : gb523 ≠ gb534)); have n6_ := am ((by rw [hg]; exact Nat.ne_of_gt (blk_lt (g := gb523) (o := zo3 t515 t516 t517 t518 t519 t520 t521 t522) u14_1) : gb534 ≠ gb523)); clear BK523 HB; have BK523 := n0_; have HB := n1_; have BK534 := n2_; have GW534 := n3_; have GE534 := n4_; have NB523_534 := n5_; have NB534_523 := n6_; clear n0_ n1_ n2_ n3_ n4_ n5_ n6_ hb hbox hg; have hnb29 := NB534_523.out; have hnc29 := NB523_534.out; obtain ⟨hcz30_0, hcz30_1, hcz30_2, hcz30_3, hcz30_4, hcz30_5, hcz30_6, hcz30_7, hfz30_0, hfz30_1, hfz30_2, hfz30_3, hfz30_4, hfz30_5, hfz30_6, hfz30_7⟩ := cf8 BK534.out))
   have n0_ : Aside0 (((((((((w28.setCell ⟨gb534, 0, none⟩ (.string t525)).setCell ⟨gb534, 1, none⟩ (.int .i64 t526)).setCell ⟨gb534, 2, none⟩ (.string t527)).setCell ⟨gb534, 3, none⟩ (.int .i64 t528)).setCell ⟨gb534, 4, none⟩ (.int .i64 t529)).setCell ⟨gb534, 5, none⟩ (.int .i64 t530)).setCell ⟨gb534, 6, none⟩ (.int .i64 t531)).setCell ⟨gb534, 7, none⟩ (.int .i64 t532)).heap[gb523]? = some (.cells #[.string t515, .int .i64 t516, .string t517, .int .i64 t518, .int .i64 t519, .int .i64 t520, .int .i64 t521, .int .i64 t522] 38 (0, 0))) := ⟨by (with_reducible repeat (first | refine bN ?_ _ | refine bD ?_ | refine bA ?_ _)); refine blk_far ?_ NB523_534.out _; (with_reducible repeat (first | refine bN ?_ _ | refine bD ?_ | refine bA ?_ _)); refine blk_far ?_ NB523_534.out _; (with_reducible repeat (first | refine bN ?_ _ | refine bD ?_ | refine bA ?_ _)); refine blk_far ?_ NB523_534.out _; (with_reducible repeat (first | refine bN ?_ _ | refine bD ?_ | refine bA ?_ _)); refine blk_far ?_ NB523_534.out _; (with_reducible repeat (first | refine bN ?_ _ | refine bD ?_ | refine bA ?_ _)); refine blk_far ?_ NB523_534.out _; (with_reducible repeat (first | refine bN ?_ _ | refine bD ?_ | refine bA ?_ _)); refine blk_far ?_ NB523_534.out _; (with_reducible repeat (first | refine bN ?_ _ | refine bD ?_ | refine bA ?_ _)); refine blk_far ?_ NB523_534.out _; (with_reducible repeat (first | refine bN ?_ _ | refine bD ?_ | refine bA ?_ _)); refine blk_far ?_ NB523_534.out _; exact bd BK523.out⟩
   have n1_ : Aside0 (((((((((w28.setCell ⟨gb534, 0, none⟩ (.string t525)).setCell ⟨gb534, 1, none⟩ (.int .i64 t526)).setCell ⟨gb534, 2, none⟩ (.string t527)).setCell ⟨gb534, 3, none⟩ (.int .i64 t528)).setCell ⟨gb534, 4, none⟩ (.int .i64 t529)).setCell ⟨gb534, 5, none⟩ (.int .i64 t530)).setCell ⟨gb534, 6, none⟩ (.int .i64 t531)).setCell ⟨gb534, 7, none⟩ (.int .i64 t532)).heap[gb534]? = some (.cells #[.string t525, .int .i64 t526, .string t527, .int .i64 t528, .int .i64 t529, .int .i64 t530, .int .i64 t531, .int .i64 t532] 38 (0, 0))) := ⟨by (with_reducible repeat (first | refine bN ?_ _ | refine bD ?_ | refine bA ?_ _)); refine blk_put (cs := zr6 t525 t526 t527 t528 t529 t530 t531 0) ?_ 7 _ rfl; refine blk_put (cs := zr6 t525 t526 t527 t528 t529 t530 0 0) ?_ 6 _ rfl; refine blk_put (cs := zr6 t525 t526 t527 t528 t529 0 0 0) ?_ 5 _ rfl; refine blk_put (cs := zr6 t525 t526 t527 t528 0 0 0 0) ?_ 4 _ rfl; refine blk_put (cs := zr6 t525 t526 t527 0 0 0 0 0) ?_ 3 _ rfl; refine blk_put (cs := zr6 t525 t526 (⟨#[]⟩ : ByteArray) 0 0 0 0 0) ?_ 2 _ rfl; (with_reducible repeat (first | refine bN ?_ _ | refine bD ?_ | refine bA ?_ _)); refine blk_put (cs := zr6 t525 0 (⟨#[]⟩ : ByteArray) 0 0 0 0 0) ?_ 1 _ rfl; (with_reducible repeat (first | refine bN ?_ _ | refine bD ?_ | refine bA ?_ _)); refine blk_put (cs := zr6 (⟨#[]⟩ : ByteArray) 0 (⟨#[]⟩ : ByteArray) 0 0 0 0 0) ?_ 0 _ rfl; exact bd BK534.out⟩
   have n2_ : Aside0 (Below w.heap.size w ((((((((w28.setCell ⟨gb534, 0, none⟩ (.string t525)).setCell ⟨gb534, 1, none⟩ (.int .i64 t526)).setCell ⟨gb534, 2, none⟩ (.string t527)).setCell ⟨gb534, 3, none⟩ (.int .i64 t528)).setCell ⟨gb534, 4, none⟩ (.int .i64 t529)).setCell ⟨gb534, 5, none⟩ (.int .i64 t530)).setCell ⟨gb534, 6, none⟩ (.int .i64 t531)).setCell ⟨gb534, 7, none⟩ (.int .i64 t532))) := ⟨s14_1⟩
   (try clear BK523)
   (try clear BK534)
   (try clear HB)
   (try simp only [show ∀ (w_ : World) (n_ : Nat) (a_ : Addr) (v_ : Value), (w_.drewN n_).setCell a_ v_ = (w_.setCell a_ v_).drewN n_ from fun _ _ _ _ => rfl, show ∀ (w_ : World) (a_ : Addr) (v_ : Value), w_.drew.setCell a_ v_ = (w_.setCell a_ v_).drew from fun _ _ _ => rfl])
   generalize ((((((((w28.setCell ⟨gb534, 0, none⟩ (.string t525)).setCell ⟨gb534, 1, none⟩ (.int .i64 t526)).setCell ⟨gb534, 2, none⟩ (.string t527)).setCell ⟨gb534, 3, none⟩ (.int .i64 t528)).setCell ⟨gb534, 4, none⟩ (.int .i64 t529)).setCell ⟨gb534, 5, none⟩ (.int .i64 t530)).setCell ⟨gb534, 6, none⟩ (.int .i64 t531)).setCell ⟨gb534, 7, none⟩ (.int .i64 t532)) = w31 at n0_ n1_ n2_ ⊢
   have BK523 := n0_
   have BK534 := n1_
   have HB := n2_
   clear n0_ n1_ n2_
   have n0_ := am (blk_drew BK523.out)
   have n1_ := am (blk_drew BK534.out)
   have n2_ := am (below_drew1 HB.out)
   clear BK523 BK534 HB
   have BK523 := n0_
   have BK534 := n1_
   have HB := n2_
   clear n0_ n1_ n2_
   refine start_ (n := 5) (S := fun w' => zc8 w' gb523 t515 t516 t517 t518 t519 t520 t521 t522) (ds := []) #[false, false, false, false, false] (by kernel_rfl) rfl rfl ⟨(blk_cell BK523.out 0).trans rfl, (blk_cell BK523.out 1).trans rfl, (blk_cell BK523.out 2).trans rfl, (blk_cell BK523.out 3).trans rfl, (blk_cell BK523.out 4).trans rfl, (blk_cell BK523.out 5).trans rfl, (blk_cell BK523.out 6).trans rfl, (blk_cell BK523.out 7).trans rfl⟩ (fun hHeld => ?_)
   generalize w31.drew = w32 at BK523 BK534 HB hHeld ⊢
   refine take_ (i := 0) (N := some 19) (v := ?_) (a' := ?_) #[true, false, false, false, false] rfl rfl (by kernel_rfl) (fun _ _ _ h => h) (Or.inl ⟨by rfl, ?_⟩) hHeld ?_ ?_
   rotate_left
   ·rintro w' ⟨s0, s1, s2, s3, s4, s5, s6, s7⟩
    exact gs
   rotate_left
   ·exact ap
   refine take_ (i := 2) (N := some 21) (v := ?_) (a' := ?_) #[true, false, true, false, false] rfl rfl (by kernel_rfl) (fun _ _ _ h => h) (Or.inl ⟨by rfl, ?_⟩) hHeld ?_ ?_
   rotate_left
   ·rintro w' ⟨s0, s1, s2, s3, s4, s5, s6, s7⟩
    exact gs
   rotate_left
   ·exact ap
   refine one_ (i := 1) (N := some 20) #[true, true, true, false, false] rfl rfl (by kernel_rfl) (by decide) (fun K hK => ?_)
   refine goes_ Tryd.func21 (by kernel_rfl) rfl #[.agg #[.string t515, .int .i64 t516, .string t517, .int .i64 t518, .int .i64 t519, .int .i64 t520, .int .i64 t521, .int .i64 t522]] (by rfl) rfl rfl u14_4 ?_
   with_reducible refine (impl_IsDevice.calls k t515 t516 t517 t518 t519 t520 t521 t522 t535 _ A7.out).mono ?_
   rintro e w33 ⟨rfl, hb⟩
   refine ⟨_, rfl, ?_⟩
   have n0_ := am (blk_below (g := gb523) (o := zo3 t515 t516 t517 t518 t519 t520 t521 t522) u14_1 hb)
   have n1_ := am (blk_below (g := gb534) (o := zo3 t525 t526 t527 t528 t529 t530 t531 t532) u14_2 hb)
   have n2_ := am (below_step u14_0 hb)
   clear BK523 BK534 HB
   have BK523 := n0_
   have BK534 := n1_
   have HB := n2_
   clear n0_ n1_ n2_
   (try clear hb)
   (try clear hb2)
   (try clear hk)
   (try clear hi)
   refine hK.out _ _ ⟨(blk_cell BK523.out 0).trans rfl, (blk_cell BK523.out 1).trans rfl, (blk_cell BK523.out 2).trans rfl, (blk_cell BK523.out 3).trans rfl, (blk_cell BK523.out 4).trans rfl, (blk_cell BK523.out 5).trans rfl, (blk_cell BK523.out 6).trans rfl, (blk_cell BK523.out 7).trans rfl⟩ (fun hHeld => ?_)
   clear hK K
   refine norm_ (a' := ?_) ?_ ?_
   rotate_left
   ·show Act.put _ (some 20) _ = _
    simp only [Act.put, List.setIfInBounds_toArray, List.set_cons_zero, List.set_cons_succ, i64_w, i32_w]
    rfl
   refine one_ (i := 3) (N := some 22) #[true, true, true, true, false] rfl rfl (by kernel_rfl) (by decide) (fun K hK => ?_)
   refine goes_ Tryd.func22 (by kernel_rfl) rfl #[.agg #[.string t515, .int .i64 t516, .string t517, .int .i64 t518, .int .i64 t519, .int .i64 t520, .int .i64 t521, .int .i64 t522]] (by rfl) rfl rfl u14_4 ?_
   with_reducible refine (spec_IsDevice.calls k t515 t516 t517 t518 t519 t520 t521 t522 t536 _ A8.out).mono ?_
   rintro e w34 ⟨rfl, hb⟩
   refine ⟨_, rfl, ?_⟩
   have n0_ := am (blk_below (g := gb523) (o := zo3 t515 t516 t517 t518 t519 t520 t521 t522) u14_1 hb)
   have n1_ := am (blk_below (g := gb534) (o := zo3 t525 t526 t527 t528 t529 t530 t531 t532) u14_2 hb)
   have n2_ := am (below_step u14_0 hb)
   clear BK523 BK534 HB
   have BK523 := n0_
   have BK534 := n1_
   have HB := n2_
   clear n0_ n1_ n2_
   (try clear hb)
   (try clear hb2)
   (try clear hk)
   (try clear hi)
   refine hK.out _ _ ⟨(blk_cell BK523.out 0).trans rfl, (blk_cell BK523.out 1).trans rfl, (blk_cell BK523.out 2).trans rfl, (blk_cell BK523.out 3).trans rfl, (blk_cell BK523.out 4).trans rfl, (blk_cell BK523.out 5).trans rfl, (blk_cell BK523.out 6).trans rfl, (blk_cell BK523.out 7).trans rfl⟩ (fun hHeld => ?_)
   clear hK K
   refine norm_ (a' := ?_) ?_ ?_
   rotate_left
   ·show Act.put _ (some 22) _ = _
    simp only [Act.put, List.setIfInBounds_toArray, List.set_cons_zero, List.set_cons_succ, i64_w, i32_w]
    rfl
   refine pure_ (i := 4) (N := some 23) (v := ?_) (a' := ?_) #[true, true, true, true, true] rfl rfl (by kernel_rfl) (fun _ _ _ h => h) (Or.inl ⟨by rfl, ?_⟩) ?_ ?_
   rotate_left
   ·intro w'
    exact gs
   rotate_left
   ·exact ap
   refine done_ (by kernel_rfl) ?_
   go_upto_region 7 with (fail)
   go_cut [35] (fun v35 wc => ∃ (kq : Nat) (x35_21 : Bool), v35 = .bool x35_21 ∧ Aside0 (laws_FnDeviceText.j0 kq l0 x35_21 = some r) ∧ Aside0 (kq ≤ k) ∧ Aside0 (wc.heap[gb523]? = some (.cells #[.string t515, .int .i64 t516, .string t517, .int .i64 t518, .int .i64 t519, .int .i64 t520, .int .i64 t521, .int .i64 t522] 38 (0, 0))) ∧ Aside0 (wc.heap[gb534]? = some (.cells #[.string t525, .int .i64 t526, .string t527, .int .i64 t528, .int .i64 t529, .int .i64 t530, .int .i64 t531, .int .i64 t532] 38 (0, 0))) ∧ Aside0 (Below w.heap.size w wc))
   case first =>
    have H := HC22.out
    clear HC22
    replace H := ob H
    obtain ⟨t537, A350, H⟩ := H
    replace H : (if (t533 != t537) = true then (laws_FnDeviceText.j0 k l0 true) else (if t533 = true then (laws_FnDeviceText.j0 k l0 (!(t525.toList == t515.toList) || (!(t526 == t516) || (!(t527.toList == t517.toList) || ((!(t528 == t518) || (!(t529 == t519))) || (!(t530 == t520) || (!(t531 == t521) || (!(t532 == t522))))))))) else (laws_FnDeviceText.j0 k l0 false))) = some r := H
    have A35 := am A350
    clear A350
    by_cases c36 : (t533 != t537) = true
    ·rw [if_pos c36] at H
     have c36b0 : (t533 != t537) = true := c36
     (try (have c36b1 : decide (t533 = t537) = false := by simpa using c36))
     (try (have c36b2 : (t533 == t537) = false := by simpa using c36))
     (try (have c36b3 : ¬ (t533 = t537) := by simpa using c36))
     clear c36
     (first | rw [c36b0] | (simp only [i64_w, i32_w]; rw [c36b0]) | skip)
     have H' := am H
     clear H
     have hnb37 := NB523_534.out
     have hnc37 := NB534_523.out
     obtain ⟨hcz38_0, hcz38_1, hcz38_2, hcz38_3, hcz38_4, hcz38_5, hcz38_6, hcz38_7, hfz38_0, hfz38_1, hfz38_2, hfz38_3, hfz38_4, hfz38_5, hfz38_6, hfz38_7⟩ := cf8 BK523.out
     go_wp2_with (first | ((with_reducible refine gate_callee (f := 21) rfl ?_); refine goesL_ (some 26) rfl rfl Tryd.func21 (by kernel_rfl) rfl #[.agg #[.string t515, .int .i64 t516, .string t517, .int .i64 t518, .int .i64 t519, .int .i64 t520, .int .i64 t521, .int .i64 t522]] rfl u14_4 ?_; (with_reducible refine (impl_IsDevice.calls k t515 t516 t517 t518 t519 t520 t521 t522 t537 _ A35.out).mono ?_); rintro e w39 ⟨rfl, hb⟩; refine ⟨_, rfl, ?_⟩; have n0_ := am (blk_below (g := gb523) (o := zo3 t515 t516 t517 t518 t519 t520 t521 t522) u14_1 hb); have n1_ := am (blk_below (g := gb534) (o := zo3 t525 t526 t527 t528 t529 t530 t531 t532) u14_2 hb); have n2_ := am (below_step u14_0 hb); clear BK523 BK534 HB; have BK523 := n0_; have BK534 := n1_; have HB := n2_; clear n0_ n1_ n2_; (try clear hb); (try clear hb2); (try clear hk); (try clear hi)))
     go_meet
     case rel => exact ⟨_, (true), (by first | rfl | (simp; done) | (simp [*]; done)), H', ⟨by first | omega | exact Nat.le_refl _⟩, ⟨bd BK523.out⟩, ⟨bd BK534.out⟩, ⟨s14_1⟩⟩
    ·rw [if_neg c36] at H
     have c36b0 : (t533 != t537) = false := by simpa using c36
     (try (have c36b1 : decide (t533 = t537) = true := by simpa using c36))
     (try (have c36b2 : (t533 == t537) = true := by simpa using c36))
     clear c36
     (first | rw [c36b0] | (simp only [i64_w, i32_w]; rw [c36b0]) | skip)
     by_cases c40 : t533 = true
     ·subst c40
      have H1 : (laws_FnDeviceText.j0 k l0 (!(t525.toList == t515.toList) || (!(t526 == t516) || (!(t527.toList == t517.toList) || ((!(t528 == t518) || (!(t529 == t519))) || (!(t530 == t520) || (!(t531 == t521) || (!(t532 == t522))))))))) = some r := by rw [if_pos rfl] at H; exact H
      clear H
      have H := H1
      clear H1
      have H' := am H
      clear H
      have hnb41 := NB523_534.out
      have hnc41 := NB534_523.out
      obtain ⟨hcz42_0, hcz42_1, hcz42_2, hcz42_3, hcz42_4, hcz42_5, hcz42_6, hcz42_7, hfz42_0, hfz42_1, hfz42_2, hfz42_3, hfz42_4, hfz42_5, hfz42_6, hfz42_7⟩ := cf8 BK523.out
      go_wp2_with (first | ((with_reducible refine gate_callee (f := 21) rfl ?_); refine goesL_ (some 26) rfl rfl Tryd.func21 (by kernel_rfl) rfl #[.agg #[.string t515, .int .i64 t516, .string t517, .int .i64 t518, .int .i64 t519, .int .i64 t520, .int .i64 t521, .int .i64 t522]] rfl u14_4 ?_; (with_reducible refine (impl_IsDevice.calls k t515 t516 t517 t518 t519 t520 t521 t522 t537 _ A35.out).mono ?_); rintro e w43 ⟨rfl, hb⟩; refine ⟨_, rfl, ?_⟩; have n0_ := am (blk_below (g := gb523) (o := zo3 t515 t516 t517 t518 t519 t520 t521 t522) u14_1 hb); have n1_ := am (blk_below (g := gb534) (o := zo3 t525 t526 t527 t528 t529 t530 t531 t532) u14_2 hb); have n2_ := am (below_step u14_0 hb); clear BK523 BK534 HB; have BK523 := n0_; have BK534 := n1_; have HB := n2_; clear n0_ n1_ n2_; (try clear hb); (try clear hb2); (try clear hk); (try clear hi); obtain ⟨hcz44_0, hcz44_1, hcz44_2, hcz44_3, hcz44_4, hcz44_5, hcz44_6, hcz44_7, hfz44_0, hfz44_1, hfz44_2, hfz44_3, hfz44_4, hfz44_5, hfz44_6, hfz44_7⟩ := cf8 BK534.out; obtain ⟨hcz45_0, hcz45_1, hcz45_2, hcz45_3, hcz45_4, hcz45_5, hcz45_6, hcz45_7, hfz45_0, hfz45_1, hfz45_2, hfz45_3, hfz45_4, hfz45_5, hfz45_6, hfz45_7⟩ := cf8 BK523.out))
      go_meet
      case rel => exact ⟨_, ((!(t525.toList == t515.toList) || (!(t526 == t516) || (!(t527.toList == t517.toList) || ((!(t528 == t518) || (!(t529 == t519))) || (!(t530 == t520) || (!(t531 == t521) || (!(t532 == t522))))))))), (by first | rfl | (simp; done) | (simp [*]; done)), H', ⟨by first | omega | exact Nat.le_refl _⟩, ⟨bd BK523.out⟩, ⟨bd BK534.out⟩, ⟨s14_1⟩⟩
     ·replace c40 := Bool.eq_false_iff.mpr c40
      subst c40
      have H1 : (laws_FnDeviceText.j0 k l0 false) = some r := by rw [if_neg (show ¬ (false = true) by decide)] at H; exact H
      clear H
      have H := H1
      clear H1
      have H' := am H
      clear H
      have hnb46 := NB523_534.out
      have hnc46 := NB534_523.out
      obtain ⟨hcz47_0, hcz47_1, hcz47_2, hcz47_3, hcz47_4, hcz47_5, hcz47_6, hcz47_7, hfz47_0, hfz47_1, hfz47_2, hfz47_3, hfz47_4, hfz47_5, hfz47_6, hfz47_7⟩ := cf8 BK523.out
      go_wp2_with (first | ((with_reducible refine gate_callee (f := 21) rfl ?_); refine goesL_ (some 26) rfl rfl Tryd.func21 (by kernel_rfl) rfl #[.agg #[.string t515, .int .i64 t516, .string t517, .int .i64 t518, .int .i64 t519, .int .i64 t520, .int .i64 t521, .int .i64 t522]] rfl u14_4 ?_; (with_reducible refine (impl_IsDevice.calls k t515 t516 t517 t518 t519 t520 t521 t522 t537 _ A35.out).mono ?_); rintro e w48 ⟨rfl, hb⟩; refine ⟨_, rfl, ?_⟩; have n0_ := am (blk_below (g := gb523) (o := zo3 t515 t516 t517 t518 t519 t520 t521 t522) u14_1 hb); have n1_ := am (blk_below (g := gb534) (o := zo3 t525 t526 t527 t528 t529 t530 t531 t532) u14_2 hb); have n2_ := am (below_step u14_0 hb); clear BK523 BK534 HB; have BK523 := n0_; have BK534 := n1_; have HB := n2_; clear n0_ n1_ n2_; (try clear hb); (try clear hb2); (try clear hk); (try clear hi)))
      go_meet
      case rel => exact ⟨_, (false), (by first | rfl | (simp; done) | (simp [*]; done)), H', ⟨by first | omega | exact Nat.le_refl _⟩, ⟨bd BK523.out⟩, ⟨bd BK534.out⟩, ⟨s14_1⟩⟩
   case rest =>
    clear HC22
    try clear c1
    try clear c2
    try clear p2
    try clear c3
    try clear c4
    try clear c9
    try clear c9b0
    try clear c9b1
    try clear c9b2
    try clear c16
    try clear c18
    try clear c19
    try clear c20
    try clear c21
    try clear c22
    try clear c29
    try clear c36
    try clear c36b0
    try clear c36b1
    try clear c36b2
    try clear c37
    try clear c40
    try clear c41
    try clear c46
    try clear hcz12_0
    try clear hcz12_1
    try clear hcz12_2
    try clear hcz12_3
    try clear hcz12_4
    try clear hcz12_5
    try clear hcz12_6
    try clear hcz12_7
    try clear hcz17_0
    try clear hcz17_1
    try clear hcz17_2
    try clear hcz17_3
    try clear hcz17_4
    try clear hcz17_5
    try clear hcz17_6
    try clear hcz17_7
    try clear hcz25_0
    try clear hcz25_1
    try clear hcz25_2
    try clear hcz25_3
    try clear hcz25_4
    try clear hcz25_5
    try clear hcz25_6
    try clear hcz25_7
    try clear hcz30_0
    try clear hcz30_1
    try clear hcz30_2
    try clear hcz30_3
    try clear hcz30_4
    try clear hcz30_5
    try clear hcz30_6
    try clear hcz30_7
    try clear hcz38_0
    try clear hcz38_1
    try clear hcz38_2
    try clear hcz38_3
    try clear hcz38_4
    try clear hcz38_5
    try clear hcz38_6
    try clear hcz38_7
    try clear hcz42_0
    try clear hcz42_1
    try clear hcz42_2
    try clear hcz42_3
    try clear hcz42_4
    try clear hcz42_5
    try clear hcz42_6
    try clear hcz42_7
    try clear hcz44_0
    try clear hcz44_1
    try clear hcz44_2
    try clear hcz44_3
    try clear hcz44_4
    try clear hcz44_5
    try clear hcz44_6
    try clear hcz44_7
    try clear hcz45_0
    try clear hcz45_1
    try clear hcz45_2
    try clear hcz45_3
    try clear hcz45_4
    try clear hcz45_5
    try clear hcz45_6
    try clear hcz45_7
    try clear hcz47_0
    try clear hcz47_1
    try clear hcz47_2
    try clear hcz47_3
    try clear hcz47_4
    try clear hcz47_5
    try clear hcz47_6
    try clear hcz47_7
    try clear hfz12_0
    try clear hfz12_1
    try clear hfz12_2
    try clear hfz12_3
    try clear hfz12_4
    try clear hfz12_5
    try clear hfz12_6
    try clear hfz12_7
    try clear hfz17_0
    try clear hfz17_1
    try clear hfz17_2
    try clear hfz17_3
    try clear hfz17_4
    try clear hfz17_5
    try clear hfz17_6
    try clear hfz17_7
    try clear hfz25_0
    try clear hfz25_1
    try clear hfz25_2
    try clear hfz25_3
    try clear hfz25_4
    try clear hfz25_5
    try clear hfz25_6
    try clear hfz25_7
    try clear hfz30_0
    try clear hfz30_1
    try clear hfz30_2
    try clear hfz30_3
    try clear hfz30_4
    try clear hfz30_5
    try clear hfz30_6
    try clear hfz30_7
    try clear hfz38_0
    try clear hfz38_1
    try clear hfz38_2
    try clear hfz38_3
    try clear hfz38_4
    try clear hfz38_5
    try clear hfz38_6
    try clear hfz38_7
    try clear hfz42_0
    try clear hfz42_1
    try clear hfz42_2
    try clear hfz42_3
    try clear hfz42_4
    try clear hfz42_5
    try clear hfz42_6
    try clear hfz42_7
    try clear hfz44_0
    try clear hfz44_1
    try clear hfz44_2
    try clear hfz44_3
    try clear hfz44_4
    try clear hfz44_5
    try clear hfz44_6
    try clear hfz44_7
    try clear hfz45_0
    try clear hfz45_1
    try clear hfz45_2
    try clear hfz45_3
    try clear hfz45_4
    try clear hfz45_5
    try clear hfz45_6
    try clear hfz45_7
    try clear hfz47_0
    try clear hfz47_1
    try clear hfz47_2
    try clear hfz47_3
    try clear hfz47_4
    try clear hfz47_5
    try clear hfz47_6
    try clear hfz47_7
    obtain ⟨kq, x35_21, rfl, HA, HJ21, BK523, BK534, HB⟩ := hcut
    cases kq with
    | zero => exact absurd HA.out (by simp [laws_FnDeviceText.j0])
    | succ kj21 =>
     have H := HA.out
     clear HA
     simp only [laws_FnDeviceText.j0] at H
     by_cases c49 : x35_21 = true
     ·subst c49
      have H1 : (some false) = some r := by rw [if_pos rfl] at H; exact H
      clear H
      have H := H1
      clear H1
      obtain rfl := oi H
      go_wp2
      go_ret
      exact ⟨by first | rfl | (simp [*] <;> rfl), s14_1⟩
     ·replace c49 := Bool.eq_false_iff.mpr c49
      subst c49
      have H1 : ((spec_DrawParseDevice.f kj21 l0).bind fun t538 => ((impl_ParseDevice.f kj21 t538).bind fun bt539 => (if bt539.2.2.2.2.2.2.2.2 = true then ((impl_FormatDevice.f kj21 bt539.1 bt539.2.1 bt539.2.2.1 bt539.2.2.2.1 bt539.2.2.2.2.1 bt539.2.2.2.2.2.1 bt539.2.2.2.2.2.2.1 bt539.2.2.2.2.2.2.2.1).bind fun t549 => (some (t549.toList == t538.toList))) else (some true)))) = some r := by rw [if_neg (show ¬ (false = true) by decide)] at H; exact H
      clear H
      have H := H1
      clear H1
      replace H := ob H
      obtain ⟨t538, A500, H⟩ := H
      replace H : ((impl_ParseDevice.f kj21 t538).bind fun bt539 => (if bt539.2.2.2.2.2.2.2.2 = true then ((impl_FormatDevice.f kj21 bt539.1 bt539.2.1 bt539.2.2.1 bt539.2.2.2.1 bt539.2.2.2.2.1 bt539.2.2.2.2.2.1 bt539.2.2.2.2.2.2.1 bt539.2.2.2.2.2.2.2.1).bind fun t549 => (some (t549.toList == t538.toList))) else (some true))) = some r := H
      have A50 := am A500
      clear A500
      replace H := ob H
      obtain ⟨⟨t539, t540, t541, t542, t543, t544, t545, t546, t547⟩, A510, H⟩ := H
      replace H : (if t547 = true then ((impl_FormatDevice.f kj21 t539 t540 t541 t542 t543 t544 t545 t546).bind fun t549 => (some (t549.toList == t538.toList))) else (some true)) = some r := H
      have A51 := am A510
      clear A510
      by_cases c52 : t547 = true
      ·subst c52
       have H1 : ((impl_FormatDevice.f kj21 t539 t540 t541 t542 t543 t544 t545 t546).bind fun t549 => (some (t549.toList == t538.toList))) = some r := by rw [if_pos rfl] at H; exact H
       clear H
       have H := H1
       clear H1
       replace H := ob H
       obtain ⟨t549, A530, H⟩ := H
       replace H : (some (t549.toList == t538.toList)) = some r := H
       have A53 := am A530
       clear A530
       obtain rfl := oi H
       go_wp2_with (first | ((with_reducible refine gate_callee (f := 23) rfl ?_); refine goesL_ (some 37) rfl rfl Tryd.func23 (by kernel_rfl) rfl #[.slice A0 l0.length c0] rfl u14_4 ?_; (with_reducible refine (spec_DrawParseDevice.calls kj21 _ _ l0 t538 _ ?side1 ?side2 A50.out).mono ?_); (case side1 => exact y14_0); (case side2 => exact HC0.out); rintro e w54 ⟨rfl, hb⟩; refine ⟨_, rfl, ?_⟩; have n0_ := am (blk_below (g := gb523) (o := zo3 t515 t516 t517 t518 t519 t520 t521 t522) u14_1 hb); have n1_ := am (blk_below (g := gb534) (o := zo3 t525 t526 t527 t528 t529 t530 t531 t532) u14_2 hb); have n2_ := am (below_step u14_0 hb); clear BK523 BK534 HB; have BK523 := n0_; have BK534 := n1_; have HB := n2_; clear n0_ n1_ n2_; (try clear hb); (try clear hb2); (try clear hk); (try clear hi)) | ((with_reducible refine gate_callee (f := 19) rfl ?_); refine goesL_ (some 40) rfl rfl Tryd.func19 (by kernel_rfl) rfl #[.string t538] rfl u14_4 ?_; (with_reducible refine (impl_ParseDevice.calls kj21 t538 t539 t540 t541 t542 t543 t544 t545 t546 true _ A51.out).mono ?_); rintro e w55 ⟨rfl, hb⟩; refine ⟨_, rfl, ?_⟩; have n0_ := am (blk_below (g := gb523) (o := zo3 t515 t516 t517 t518 t519 t520 t521 t522) u14_1 hb); have n1_ := am (blk_below (g := gb534) (o := zo3 t525 t526 t527 t528 t529 t530 t531 t532) u14_2 hb); have n2_ := am (below_step u14_0 hb); clear BK523 BK534 HB; have BK523 := n0_; have BK534 := n1_; have HB := n2_; clear n0_ n1_ n2_; (try clear hb); (try clear hb2); (try clear hk); (try clear hi)) | ((with_reducible refine gate_dst (N := 7) rfl ?_); refine box_event ?hg (N := 7) ?hd (cs := #[.string (⟨#[]⟩ : ByteArray), .int .i64 0, .string (⟨#[]⟩ : ByteArray), .int .i64 0, .int .i64 0, .int .i64 0, .int .i64 0, .int .i64 0]) (t := 38) ?hr ?_; (case hd => rfl); (case hg => rfl); (case hr => exact gq); intro gb548 hg w56 hbox hb; have n0_ := am (blk_below (g := gb523) (o := zo3 t515 t516 t517 t518 t519 t520 t521 t522) u14_1 hb); have n1_ := am (blk_below (g := gb534) (o := zo3 t525 t526 t527 t528 t529 t530 t531 t532) u14_2 hb); have n2_ := am (below_step u14_0 hb); have n3_ := am (hbox); have n4_ := bsw w hg (below_size u14_0); have n5_ := bsw w hg (below_size u14_0); have n6_ := am ((by rw [hg]; exact Nat.ne_of_lt (blk_lt (g := gb523) (o := zo3 t515 t516 t517 t518 t519 t520 t521 t522) u14_1) : gb523 ≠ gb548)); have n7_ := am ((by rw [hg]; exact Nat.ne_of_gt (blk_lt (g := gb523) (o := zo3 t515 t516 t517 t518 t519 t520 t521 t522) u14_1) : gb548 ≠ gb523)); have n8_ := am ((by rw [hg]; exact Nat.ne_of_lt (blk_lt (g := gb534) (o := zo3 t525 t526 t527 t528 t529 t530 t531 t532) u14_2) : gb534 ≠ gb548)); have n9_ := am ((by rw [hg]; exact Nat.ne_of_gt (blk_lt (g := gb534) (o := zo3 t525 t526 t527 t528 t529 t530 t531 t532) u14_2) : gb548 ≠ gb534)); clear BK523 BK534 HB; have BK523 := n0_; have BK534 := n1_; have HB := n2_; have BK548 := n3_; have GW548 := n4_; have GE548 := n5_; have NB523_548 := n6_; have NB548_523 := n7_; have NB534_548 := n8_; have NB548_534 := n9_; clear n0_ n1_ n2_ n3_ n4_ n5_ n6_ n7_ n8_ n9_ hb hbox hg; have hnb57 := NB548_523.out; have hnc57 := NB523_548.out; have hnb58 := NB548_534.out; have hnc58 := NB534_548.out; obtain ⟨hcz59_0, hcz59_1, hcz59_2, hcz59_3, hcz59_4, hcz59_5, hcz59_6, hcz59_7, hfz59_0, hfz59_1, hfz59_2, hfz59_3, hfz59_4, hfz59_5, hfz59_6, hfz59_7⟩ := cf8 BK548.out) | (go_at_call 20; (with_reducible refine (impl_FormatDevice.calls kj21 t539 t540 t541 t542 t543 t544 t545 t546 t549 _ A53.out).mono ?_); rintro e w60 ⟨rfl, hb⟩; have n0_ := am (blk_below (g := gb523) (o := zo3 t515 t516 t517 t518 t519 t520 t521 t522) (by (with_reducible repeat (first | refine bN ?_ _ | refine bD ?_ | refine bA ?_ _)); refine blk_far ?_ NB523_548.out _; (with_reducible repeat (first | refine bN ?_ _ | refine bD ?_ | refine bA ?_ _)); refine blk_far ?_ NB523_548.out _; (with_reducible repeat (first | refine bN ?_ _ | refine bD ?_ | refine bA ?_ _)); refine blk_far ?_ NB523_548.out _; (with_reducible repeat (first | refine bN ?_ _ | refine bD ?_ | refine bA ?_ _)); refine blk_far ?_ NB523_548.out _; (with_reducible repeat (first | refine bN ?_ _ | refine bD ?_ | refine bA ?_ _)); refine blk_far ?_ NB523_548.out _; (with_reducible repeat (first | refine bN ?_ _ | refine bD ?_ | refine bA ?_ _)); refine blk_far ?_ NB523_548.out _; (with_reducible repeat (first | refine bN ?_ _ | refine bD ?_ | refine bA ?_ _)); refine blk_far ?_ NB523_548.out _; (with_reducible repeat (first | refine bN ?_ _ | refine bD ?_ | refine bA ?_ _)); refine blk_far ?_ NB523_548.out _; exact bd BK523.out) hb); have n1_ := am (blk_below (g := gb534) (o := zo3 t525 t526 t527 t528 t529 t530 t531 t532) (by (with_reducible repeat (first | refine bN ?_ _ | refine bD ?_ | refine bA ?_ _)); refine blk_far ?_ NB534_548.out _; (with_reducible repeat (first | refine bN ?_ _ | refine bD ?_ | refine bA ?_ _)); refine blk_far ?_ NB534_548.out _; (with_reducible repeat (first | refine bN ?_ _ | refine bD ?_ | refine bA ?_ _)); refine blk_far ?_ NB534_548.out _; (with_reducible repeat (first | refine bN ?_ _ | refine bD ?_ | refine bA ?_ _)); refine blk_far ?_ NB534_548.out _; (with_reducible repeat (first | refine bN ?_ _ | refine bD ?_ | refine bA ?_ _)); refine blk_far ?_ NB534_548.out _; (with_reducible repeat (first | refine bN ?_ _ | refine bD ?_ | refine bA ?_ _)); refine blk_far ?_ NB534_548.out _; (with_reducible repeat (first | refine bN ?_ _ | refine bD ?_ | refine bA ?_ _)); refine blk_far ?_ NB534_548.out _; (with_reducible repeat (first | refine bN ?_ _ | refine bD ?_ | refine bA ?_ _)); refine blk_far ?_ NB534_548.out _; exact bd BK534.out) hb); have n2_ := am (blk_below (g := gb548) (o := zo3 t539 t540 t541 t542 t543 t544 t545 t546) (by (with_reducible repeat (first | refine bN ?_ _ | refine bD ?_ | refine bA ?_ _)); refine blk_put (cs := zr6 t539 t540 t541 t542 t543 t544 t545 0) ?_ 7 _ rfl; refine blk_put (cs := zr6 t539 t540 t541 t542 t543 t544 0 0) ?_ 6 _ rfl; refine blk_put (cs := zr6 t539 t540 t541 t542 t543 0 0 0) ?_ 5 _ rfl; refine blk_put (cs := zr6 t539 t540 t541 t542 0 0 0 0) ?_ 4 _ rfl; refine blk_put (cs := zr6 t539 t540 t541 0 0 0 0 0) ?_ 3 _ rfl; refine blk_put (cs := zr6 t539 t540 (⟨#[]⟩ : ByteArray) 0 0 0 0 0) ?_ 2 _ rfl; (with_reducible repeat (first | refine bN ?_ _ | refine bD ?_ | refine bA ?_ _)); refine blk_put (cs := zr6 t539 0 (⟨#[]⟩ : ByteArray) 0 0 0 0 0) ?_ 1 _ rfl; (with_reducible repeat (first | refine bN ?_ _ | refine bD ?_ | refine bA ?_ _)); refine blk_put (cs := zr6 (⟨#[]⟩ : ByteArray) 0 (⟨#[]⟩ : ByteArray) 0 0 0 0 0) ?_ 0 _ rfl; exact bd BK548.out) hb); have n3_ := am (below_step (by repeat (first | (with_reducible first | exact HB.out | apply below_alloc | apply pw_below_drewN | apply below_drew1 | refine below_set ?_ GE523.out | refine below_set ?_ GE534.out | refine below_set ?_ GE548.out) | exact HB.out)) hb); clear BK523 BK534 BK548 HB; have BK523 := n0_; have BK534 := n1_; have BK548 := n2_; have HB := n3_; clear n0_ n1_ n2_ n3_; (try clear hb); (try clear hb2); (try clear hk); (try clear hi)))
       go_ret
       exact ⟨by first | rfl | (simp [*] <;> rfl), s14_0⟩
      ·replace c52 := Bool.eq_false_iff.mpr c52
       subst c52
       have H1 : (some true) = some r := by rw [if_neg (show ¬ (false = true) by decide)] at H; exact H
       clear H
       have H := H1
       clear H1
       obtain rfl := oi H
       go_wp2_with (first | ((with_reducible refine gate_callee (f := 23) rfl ?_); refine goesL_ (some 37) rfl rfl Tryd.func23 (by kernel_rfl) rfl #[.slice A0 l0.length c0] rfl u14_4 ?_; (with_reducible refine (spec_DrawParseDevice.calls kj21 _ _ l0 t538 _ ?side1 ?side2 A50.out).mono ?_); (case side1 => exact y14_0); (case side2 => exact HC0.out); rintro e w61 ⟨rfl, hb⟩; refine ⟨_, rfl, ?_⟩; have n0_ := am (blk_below (g := gb523) (o := zo3 t515 t516 t517 t518 t519 t520 t521 t522) u14_1 hb); have n1_ := am (blk_below (g := gb534) (o := zo3 t525 t526 t527 t528 t529 t530 t531 t532) u14_2 hb); have n2_ := am (below_step u14_0 hb); clear BK523 BK534 HB; have BK523 := n0_; have BK534 := n1_; have HB := n2_; clear n0_ n1_ n2_; (try clear hb); (try clear hb2); (try clear hk); (try clear hi)) | ((with_reducible refine gate_callee (f := 19) rfl ?_); refine goesL_ (some 40) rfl rfl Tryd.func19 (by kernel_rfl) rfl #[.string t538] rfl u14_4 ?_; (with_reducible refine (impl_ParseDevice.calls kj21 t538 t539 t540 t541 t542 t543 t544 t545 t546 false _ A51.out).mono ?_); rintro e w62 ⟨rfl, hb⟩; refine ⟨_, rfl, ?_⟩; have n0_ := am (blk_below (g := gb523) (o := zo3 t515 t516 t517 t518 t519 t520 t521 t522) u14_1 hb); have n1_ := am (blk_below (g := gb534) (o := zo3 t525 t526 t527 t528 t529 t530 t531 t532) u14_2 hb); have n2_ := am (below_step u14_0 hb); clear BK523 BK534 HB; have BK523 := n0_; have BK534 := n1_; have HB := n2_; clear n0_ n1_ n2_; (try clear hb); (try clear hb2); (try clear hk); (try clear hi)) | ((with_reducible refine gate_dst (N := 7) rfl ?_); refine box_event ?hg (N := 7) ?hd (cs := #[.string (⟨#[]⟩ : ByteArray), .int .i64 0, .string (⟨#[]⟩ : ByteArray), .int .i64 0, .int .i64 0, .int .i64 0, .int .i64 0, .int .i64 0]) (t := 38) ?hr ?_; (case hd => rfl); (case hg => rfl); (case hr => exact gq); intro gb548 hg w63 hbox hb; have n0_ := am (blk_below (g := gb523) (o := zo3 t515 t516 t517 t518 t519 t520 t521 t522) u14_1 hb); have n1_ := am (blk_below (g := gb534) (o := zo3 t525 t526 t527 t528 t529 t530 t531 t532) u14_2 hb); have n2_ := am (below_step u14_0 hb); have n3_ := am (hbox); have n4_ := bsw w hg (below_size u14_0); have n5_ := bsw w hg (below_size u14_0); have n6_ := am ((by rw [hg]; exact Nat.ne_of_lt (blk_lt (g := gb523) (o := zo3 t515 t516 t517 t518 t519 t520 t521 t522) u14_1) : gb523 ≠ gb548)); have n7_ := am ((by rw [hg]; exact Nat.ne_of_gt (blk_lt (g := gb523) (o := zo3 t515 t516 t517 t518 t519 t520 t521 t522) u14_1) : gb548 ≠ gb523)); have n8_ := am ((by rw [hg]; exact Nat.ne_of_lt (blk_lt (g := gb534) (o := zo3 t525 t526 t527 t528 t529 t530 t531 t532) u14_2) : gb534 ≠ gb548)); have n9_ := am ((by rw [hg]; exact Nat.ne_of_gt (blk_lt (g := gb534) (o := zo3 t525 t526 t527 t528 t529 t530 t531 t532) u14_2) : gb548 ≠ gb534)); clear BK523 BK534 HB; have BK523 := n0_; have BK534 := n1_; have HB := n2_; have BK548 := n3_; have GW548 := n4_; have GE548 := n5_; have NB523_548 := n6_; have NB548_523 := n7_; have NB534_548 := n8_; have NB548_534 := n9_; clear n0_ n1_ n2_ n3_ n4_ n5_ n6_ n7_ n8_ n9_ hb hbox hg; have hnb64 := NB548_523.out; have hnc64 := NB523_548.out; have hnb65 := NB548_534.out; have hnc65 := NB534_548.out; obtain ⟨hcz66_0, hcz66_1, hcz66_2, hcz66_3, hcz66_4, hcz66_5, hcz66_6, hcz66_7, hfz66_0, hfz66_1, hfz66_2, hfz66_3, hfz66_4, hfz66_5, hfz66_6, hfz66_7⟩ := cf8 BK548.out))
       go_ret
       exact ⟨by first | rfl | (simp [*] <;> rfl), s14_0⟩

end Go.Proofs.YthofcclbkihemaaDoor.MFnDeviceText
