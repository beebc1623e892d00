-- Written by a program for this claim.
import Derived.Test.YthofcclbkihemaaDoorMFnExactParseDevicex0
import Derived.Test.YthofcclbkihemaaDoorMFnExactParseDevicex10
import Derived.Test.YthofcclbkihemaaDoorMFnExactParseDevicex12
namespace Go.Proofs.YthofcclbkihemaaDoor.MFnExactParseDevice
open Go.RowKit Go.Proofs.YthofcclbkihemaaDoorW.PrintWords Go.Proofs.YthofcclbkihemaaDoorW.PrintLast Go.Proofs.YthofcclbkihemaaDoorW.PrintMore
attribute [local go_sem] max2_int min2_int max_two min_two max_three min_three max_four min_four
set_option linter.unusedVariables false
set_option linter.unusedSimpArgs false
set_option maxHeartbeats 8000000
set_option maxRecDepth 100000

theorem s13_0 {p : Prop} (h : p := by repeat (first | (with_reducible first | exact HB.out | apply below_alloc | apply pw_below_drewN | apply below_drew1 | refine below_set ?_ GE284.out | refine below_set ?_ GE289.out) | exact HB.out)) : p := h
theorem s13_1 {p : Prop} (h : p := by repeat (first | (with_reducible first | exact HB.out | apply below_alloc | apply pw_below_drewN | apply below_drew1 | refine below_set ?_ GE284.out) | exact HB.out)) : p := h
theorem s13_2 {p : Prop} (h : p := by repeat (first | (with_reducible first | exact HB.out | apply below_alloc | apply pw_below_drewN | apply below_drew1) | exact HB.out)) : p := h
theorem u13_0 {p : Prop} (h : p := by repeat (first | (with_reducible first | exact HB.out | apply below_alloc | apply pw_below_drewN | apply below_drew1 | refine below_set ?_ GE284.out) | exact HB.out)) : p := h
theorem u13_1 {p : Prop} (h : p := by exact bd BK284.out) : p := h
theorem u13_2 {p : Prop} (h : p := by repeat (first | (with_reducible first | exact HB.out | apply below_alloc | apply pw_below_drewN | apply below_drew1) | exact HB.out)) : p := h
theorem u13_3 {p : Prop} (h : p := by (try simp only [List.map_toArray, List.map_cons, List.map_nil]); first | done | rfl) : p := h
theorem u13_4 {p : Prop} (h : p := by first | rfl | (simp; done) | (simp [*]; done)) : p := h
theorem u13_5 {p : Prop} (h : p := by (with_reducible repeat (first | refine bN ?_ _ | refine bD ?_ | refine bA ?_ _)); refine blk_far ?_ NB284_289.out _; (with_reducible repeat (first | refine bN ?_ _ | refine bD ?_ | refine bA ?_ _)); refine blk_far ?_ NB284_289.out _; exact bd BK284.out) : p := h
theorem u13_6 {p : Prop} (h : p := by (with_reducible repeat (first | refine bN ?_ _ | refine bD ?_ | refine bA ?_ _)); refine blk_put (cs := zr4 t285 0) ?_ 1 _ rfl; refine blk_put (cs := zr4 0 0) ?_ 0 _ rfl; exact bd BK289.out) : p := h
/-! ### spec_ParseMeasure: function 62 -/
mutual
def spec_ParseMeasure.j0 : Nat → ByteArray → ByteArray → Bool → Option (Int × Bool)
 | 0, _, _, _ => none
 | k + 1, x0, x4, x5 => if x5 = true then (if 1 ≤ (x4.size : Int) then (spec_ParseMeasure.j1 k x0 (x4.extract 1 x4.size) x5) else (none)) else (spec_ParseMeasure.j1 k x0 x4 x5)
def spec_ParseMeasure.j1 : Nat → ByteArray → ByteArray → Bool → Option (Int × Bool)
 | 0, _, _, _ => none
 | k + 1, x0, x4, x5 => (spec_ParseNumber.f k x4).bind fun bt280 => (spec_ParseMeasure.l0 k x0 x5 bt280.1 bt280.2 0)
def spec_ParseMeasure.l0 : Nat → ByteArray → Bool → Int → Bool → Int → Option (Int × Bool)
 | 0, _, _, _, _, _ => none
 | k + 1, x0, x5, x6, x7, x8 => if x8 < 8 then (spec_ParseMeasure.j3 k x0 x5 x6 x7 x8 x7) else (spec_ParseMeasure.j3 k x0 x5 x6 x7 x8 false)
def spec_ParseMeasure.j3 : Nat → ByteArray → Bool → Int → Bool → Int → Bool → Option (Int × Bool)
 | 0, _, _, _, _, _, _ => none
 | k + 1, x0, x5, x6, x7, x8, x34 => if x34 = true then (if x5 = true then ((spec_FormatMeasure.f k (wrap64 (-(wrap64 ((wrap64 (8 * x6)) + x8))))).bind fun t282 => (if t282.toList = x0.toList then (some (wrap64 (-(wrap64 ((wrap64 (8 * x6)) + x8))), true)) else (spec_ParseMeasure.l0 k x0 x5 x6 x7 (wrap64 (x8 + 1))))) else ((spec_FormatMeasure.f k (wrap64 ((wrap64 (8 * x6)) + x8))).bind fun t283 => (if t283.toList = x0.toList then (some (wrap64 ((wrap64 (8 * x6)) + x8), true)) else (spec_ParseMeasure.l0 k x0 x5 x6 x7 (wrap64 (x8 + 1)))))) else (some (0, false))
end
def spec_ParseMeasure.f (k : Nat) (a0 : ByteArray) : Option (Int × Bool) := (spec_SplitAt.f k a0 (⟨#[46]⟩ : ByteArray)).bind fun t276 => (if 0 < (t276.length : Int) then (if ((rdOf ByteArray.empty t276 0).size : Int) > 0 then (if 0 < ((rdOf ByteArray.empty t276 0).size : Int) then (spec_ParseMeasure.j0 k a0 (rdOf ByteArray.empty t276 0) ((bt (rdOf ByteArray.empty t276 0) 0) == 45)) else (none)) else (spec_ParseMeasure.j0 k a0 (rdOf ByteArray.empty t276 0) false)) else (none))
theorem spec_ParseMeasure.mono_l : ∀ k, (∀ y0 y1 y2, LeO (spec_ParseMeasure.j0 k y0 y1 y2) (spec_ParseMeasure.j0 (k + 1) y0 y1 y2)) ∧ (∀ y0 y1 y2, LeO (spec_ParseMeasure.j1 k y0 y1 y2) (spec_ParseMeasure.j1 (k + 1) y0 y1 y2)) ∧ (∀ y0 y1 y2 y3 y4, LeO (spec_ParseMeasure.l0 k y0 y1 y2 y3 y4) (spec_ParseMeasure.l0 (k + 1) y0 y1 y2 y3 y4)) ∧ (∀ y0 y1 y2 y3 y4 y5, LeO (spec_ParseMeasure.j3 k y0 y1 y2 y3 y4 y5) (spec_ParseMeasure.j3 (k + 1) y0 y1 y2 y3 y4 y5))
 | 0 => ⟨fun _ _ _ r h => by simp [spec_ParseMeasure.j0] at h, fun _ _ _ r h => by simp [spec_ParseMeasure.j1] at h, fun _ _ _ _ _ r h => by simp [spec_ParseMeasure.l0] at h, fun _ _ _ _ _ _ r h => by simp [spec_ParseMeasure.j3] at h⟩
 | k + 1 => by
  obtain ⟨ih0, ih1, ih2, ih3⟩ := spec_ParseMeasure.mono_l k
  refine ⟨?_, ?_, ?_, ?_⟩
  ·intro y0 y1 y2
   unfold spec_ParseMeasure.j0
   repeat' first
   | (with_reducible exact ih0 _ _ _)
   | (with_reducible exact ih1 _ _ _)
   | (with_reducible exact ih2 _ _ _ _ _)
   | (with_reducible exact ih3 _ _ _ _ _ _)
   | (with_reducible exact spec_FormatMeasure.mono _ _)
   | (with_reducible exact spec_ParseNumber.mono _ _)
   | (with_reducible exact spec_SplitAt.mono _ _ _)
   | (with_reducible exact LeO.refl _)
   | (with_reducible exact LeO.none _)
   | (with_reducible refine LeO.ite ?_ ?_)
   | (with_reducible refine LeO.bind ?_ (fun _ => ?_))
  ·intro y0 y1 y2
   unfold spec_ParseMeasure.j1
   repeat' first
   | (with_reducible exact ih0 _ _ _)
   | (with_reducible exact ih1 _ _ _)
   | (with_reducible exact ih2 _ _ _ _ _)
   | (with_reducible exact ih3 _ _ _ _ _ _)
   | (with_reducible exact spec_FormatMeasure.mono _ _)
   | (with_reducible exact spec_ParseNumber.mono _ _)
   | (with_reducible exact spec_SplitAt.mono _ _ _)
   | (with_reducible exact LeO.refl _)
   | (with_reducible exact LeO.none _)
   | (with_reducible refine LeO.ite ?_ ?_)
   | (with_reducible refine LeO.bind ?_ (fun _ => ?_))
  ·intro y0 y1 y2 y3 y4
   unfold spec_ParseMeasure.l0
   repeat' first
   | (with_reducible exact ih0 _ _ _)
   | (with_reducible exact ih1 _ _ _)
   | (with_reducible exact ih2 _ _ _ _ _)
   | (with_reducible exact ih3 _ _ _ _ _ _)
   | (with_reducible exact spec_FormatMeasure.mono _ _)
   | (with_reducible exact spec_ParseNumber.mono _ _)
   | (with_reducible exact spec_SplitAt.mono _ _ _)
   | (with_reducible exact LeO.refl _)
   | (with_reducible exact LeO.none _)
   | (with_reducible refine LeO.ite ?_ ?_)
   | (with_reducible refine LeO.bind ?_ (fun _ => ?_))
  ·intro y0 y1 y2 y3 y4 y5
   unfold spec_ParseMeasure.j3
   repeat' first
   | (with_reducible exact ih0 _ _ _)
   | (with_reducible exact ih1 _ _ _)
   | (with_reducible exact ih2 _ _ _ _ _)
   | (with_reducible exact ih3 _ _ _ _ _ _)
   | (with_reducible exact spec_FormatMeasure.mono _ _)
   | (with_reducible exact spec_ParseNumber.mono _ _)
   | (with_reducible exact spec_SplitAt.mono _ _ _)
   | (with_reducible exact LeO.refl _)
   | (with_reducible exact LeO.none _)
   | (with_reducible refine LeO.ite ?_ ?_)
   | (with_reducible refine LeO.bind ?_ (fun _ => ?_))
theorem spec_ParseMeasure.mono : ∀ a0 k, LeO (spec_ParseMeasure.f k a0) (spec_ParseMeasure.f (k + 1) a0) := by
 intro a0 k
 obtain ⟨ih0, ih1, ih2, ih3⟩ := spec_ParseMeasure.mono_l k
 unfold spec_ParseMeasure.f
 repeat' first
   | (with_reducible exact ih0 _ _ _)
   | (with_reducible exact ih1 _ _ _)
   | (with_reducible exact ih2 _ _ _ _ _)
   | (with_reducible exact ih3 _ _ _ _ _ _)
   | (with_reducible exact spec_FormatMeasure.mono _ _)
   | (with_reducible exact spec_ParseNumber.mono _ _)
   | (with_reducible exact spec_SplitAt.mono _ _ _)
   | (with_reducible exact LeO.refl _)
   | (with_reducible exact LeO.none _)
   | (with_reducible refine LeO.ite ?_ ?_)
   | (with_reducible refine LeO.bind ?_ (fun _ => ?_))
theorem spec_ParseMeasure.calls (k : Nat) (a0 : ByteArray) (r1 : Int) (r2 : Bool) (w : World) (h : spec_ParseMeasure.f k a0 = some (r1, r2)) :
  Calls Tryd.prog 62 #[.string a0] w fun e w' => e = .returned (.tuple #[.int .i64 r1, .bool r2]) ∧ Below w.heap.size w w' := by
 have HB := am (Below.refl w.heap.size w)
 have H : ((spec_SplitAt.f k a0 (⟨#[46]⟩ : ByteArray)).bind fun t276 => (if 0 < (t276.length : Int) then (if ((rdOf ByteArray.empty t276 0).size : Int) > 0 then (if 0 < ((rdOf ByteArray.empty t276 0).size : Int) then (spec_ParseMeasure.j0 k a0 (rdOf ByteArray.empty t276 0) ((bt (rdOf ByteArray.empty t276 0) 0) == 45)) else (none)) else (spec_ParseMeasure.j0 k a0 (rdOf ByteArray.empty t276 0) false)) else (none))) = some (r1, r2) := h
 clear h
 replace H := ob H
 obtain ⟨t276, A20, H⟩ := H
 replace H : (if 0 < (t276.length : Int) then (if ((rdOf ByteArray.empty t276 0).size : Int) > 0 then (if 0 < ((rdOf ByteArray.empty t276 0).size : Int) then (spec_ParseMeasure.j0 k a0 (rdOf ByteArray.empty t276 0) ((bt (rdOf ByteArray.empty t276 0) 0) == 45)) else (none)) else (spec_ParseMeasure.j0 k a0 (rdOf ByteArray.empty t276 0) false)) else (none)) = some (r1, r2) := H
 have A2 := am A20
 clear A20
 by_cases c3 : 0 < (t276.length : Int)
 ·rw [if_pos c3] at H
  have c3b0 : decide (0 < (t276.length : Int)) = true := decide_eq_true c3
  have c3b1 : decide (0 < t276.length) = true := decide_eq_true (by omega)
  clear c3
  have HC4 := am H
  clear H
  go_enter Tryd.func62, Tryd.ntmps62
  go_upto_region 2 with (first | ((with_reducible refine gate_callee (f := 61) rfl ?_); refine goesL_ (some 11) rfl rfl Tryd.func61 (by kernel_rfl) rfl #[.string a0, .string (⟨#[46]⟩ : ByteArray)] rfl u13_3 ?_; (with_reducible refine (spec_SplitAt.calls k a0 (⟨#[46]⟩ : ByteArray) t276 _ A2.out).mono ?_); rintro e w5 ⟨v277, rfl, ho0, hb⟩; refine ⟨_, rfl, ?_⟩; have n0_ := am (Kd.R_lower ho0 (below_size u13_2)); have n1_ := am (below_step u13_2 hb); clear HB; have HO278 := n0_; have HB := n1_; clear n0_ n1_; (try clear hb); (try clear hb2); (try clear hk); (try clear hi); (try clear ho0); obtain ⟨Ao6, co6, eo6⟩ := Kd.R_slice HO278.out; subst eo6; have p279 : 0 ≤ (0 : Int) := (by omega); have q279 : 0 < (t276.length : Int) := od (by assumption); obtain ⟨ad279, e279, hx279_0⟩ := Kd.at_string (Kd.R_reads' HO278.out).2.2 0 p279 q279; cases e279; have qi279 : (0 < t276.length) = True := eq_true (by omega); (try rw [show ((0 : Int)).toNat = 0 from rfl] at hx279_0); (try rw [Addr.add_zero'] at hx279_0); replace p279 := eq_true p279; replace q279 := eq_true q279))
  (try simp only [Act.put, List.setIfInBounds_toArray, List.set_cons_zero, List.set_cons_succ])
  go_cut [5] (fun v5 wc => ∃ (kq : Nat) (x5_3 : Bool), v5 = .bool x5_3 ∧ Aside0 (spec_ParseMeasure.j0 kq a0 (rdOf ByteArray.empty t276 0) x5_3 = some (r1, r2)) ∧ Aside0 (kq ≤ k) ∧ Aside0 (Below w.heap.size w wc))
  case first =>
   have H := HC4.out
   clear HC4
   by_cases c7 : ((rdOf ByteArray.empty t276 0).size : Int) > 0
   ·rw [if_pos c7] at H
    have c7b0 : decide (0 < ((rdOf ByteArray.empty t276 0).size : Int)) = true := decide_eq_true c7
    have c7b1 : decide (0 < (rdOf ByteArray.empty t276 0).size) = true := decide_eq_true (by omega)
    clear c7
    (first | rw [c7b0] | (simp only [i64_w, i32_w]; rw [c7b0]) | skip)
    by_cases c8 : 0 < ((rdOf ByteArray.empty t276 0).size : Int)
    ·rw [if_pos c8] at H
     have c8b0 : decide (0 < ((rdOf ByteArray.empty t276 0).size : Int)) = true := decide_eq_true c8
     have c8b1 : decide (0 < (rdOf ByteArray.empty t276 0).size) = true := decide_eq_true (by omega)
     clear c8
     have H' := am H
     clear H
     have p9 : 0 ≤ (0 : Int) := (by omega)
     have q9 : 0 < (rdOf ByteArray.empty t276 0).size := (by have : (0 : Int) < ((rdOf ByteArray.empty t276 0).size : Int) := od (by assumption); omega)
     have hx9 : ∀ h : 0 < (rdOf ByteArray.empty t276 0).size, (((rdOf ByteArray.empty t276 0)[0]'h).toNat : Int) = bt (rdOf ByteArray.empty t276 0) 0 := bt_at (rdOf ByteArray.empty t276 0) 0
     clear p9
     have qi9 : (0 < ((rdOf ByteArray.empty t276 0).size : Int)) = True := eq_true (od (by assumption))
     replace q9 := eq_true q9
     go_wp2
     go_meet
     case rel => exact ⟨_, (((bt (rdOf ByteArray.empty t276 0) 0) == 45)), u13_4, H', ⟨by first | omega | exact Nat.le_refl _⟩, ⟨s13_2⟩⟩
    ·rw [if_neg c8] at H
     exact absurd H (by simp)
   ·rw [if_neg c7] at H
    have c7b0 : decide (0 < ((rdOf ByteArray.empty t276 0).size : Int)) = false := decide_eq_false c7
    have c7b1 : decide (0 < (rdOf ByteArray.empty t276 0).size) = false := decide_eq_false (by omega)
    clear c7
    (first | rw [c7b0] | (simp only [i64_w, i32_w]; rw [c7b0]) | skip)
    have H' := am H
    clear H
    go_wp2
    go_meet
    case rel => exact ⟨_, (false), u13_4, H', ⟨by first | omega | exact Nat.le_refl _⟩, ⟨s13_2⟩⟩
  case rest =>
   clear HC4
   try clear p2
   try clear q2
   try clear hx2
   try clear qi2
   try clear c3
   try clear c3b0
   try clear c3b1
   try clear c6
   try clear c7
   try clear c7b0
   try clear c7b1
   try clear c8
   try clear c8b0
   try clear c8b1
   try clear p9
   try clear q9
   try clear hx9
   try clear qi9
   try clear hx279_0
   try clear p279
   try clear p9
   try clear q279
   try clear q9
   obtain ⟨kq, x5_3, rfl, HA, HJ3, HB⟩ := hcut
   cases kq with
   | zero => exact absurd HA.out (by simp [spec_ParseMeasure.j0])
   | succ kj3 =>
    have H := HA.out
    clear HA
    simp only [spec_ParseMeasure.j0] at H
    have HC10 := am H
    clear H
    go_upto_if 22 with (fail)
    go_cut [4] (fun v4 wc => ∃ (kq : Nat) (x4_9 : ByteArray), v4 = .string x4_9 ∧ Aside0 (spec_ParseMeasure.j1 kq a0 x4_9 x5_3 = some (r1, r2)) ∧ Aside0 (kq ≤ kj3) ∧ Aside0 (Below w.heap.size w wc))
    case first =>
     have H := HC10.out
     clear HC10
     by_cases c11 : x5_3 = true
     ·subst c11
      have H1 : (if 1 ≤ ((rdOf ByteArray.empty t276 0).size : Int) then (spec_ParseMeasure.j1 kj3 a0 ((rdOf ByteArray.empty t276 0).extract 1 (rdOf ByteArray.empty t276 0).size) true) else (none)) = some (r1, r2) := by rw [if_pos rfl] at H; exact H
      clear H
      have H := H1
      clear H1
      by_cases c12 : 1 ≤ ((rdOf ByteArray.empty t276 0).size : Int)
      ·rw [if_pos c12] at H
       have c12b0 := eq_true c12
       have c12b1 : decide (1 ≤ ((rdOf ByteArray.empty t276 0).size : Int)) = true := decide_eq_true c12
       clear c12
       have H' := am H
       clear H
       go_wp2
       go_meet
       case rel => exact ⟨_, ((rdOf ByteArray.empty t276 0).extract 1 (rdOf ByteArray.empty t276 0).size), u13_4, H', ⟨by have := HJ3.out; first | omega | exact Nat.le_refl _⟩, ⟨s13_2⟩⟩
      ·rw [if_neg c12] at H
       exact absurd H (by simp)
     ·replace c11 := Bool.eq_false_iff.mpr c11
      subst c11
      have H1 : (spec_ParseMeasure.j1 kj3 a0 (rdOf ByteArray.empty t276 0) false) = some (r1, r2) := by rw [if_neg (show ¬ (false = true) by decide)] at H; exact H
      clear H
      have H := H1
      clear H1
      have H' := am H
      clear H
      go_wp2
      go_meet
      case rel => exact ⟨_, ((rdOf ByteArray.empty t276 0)), u13_4, H', ⟨by have := HJ3.out; first | omega | exact Nat.le_refl _⟩, ⟨s13_2⟩⟩
    case rest =>
     clear HC10
     try clear c1
     try clear p2
     try clear q2
     try clear hx2
     try clear qi2
     try clear c3
     try clear c3b0
     try clear c3b1
     try clear c6
     try clear c7
     try clear c7b0
     try clear c7b1
     try clear c8
     try clear c8b0
     try clear c8b1
     try clear p9
     try clear q9
     try clear hx9
     try clear qi9
     try clear c11
     try clear c12
     try clear c12b0
     try clear c12b1
     try clear hx279_0
     try clear p2
     try clear p279
     try clear p9
     try clear q2
     try clear q279
     try clear q9
     obtain ⟨kq, x4_9, rfl, HA, HJ9, HB⟩ := hcut
     cases kq with
     | zero => exact absurd HA.out (by simp [spec_ParseMeasure.j1])
     | succ kj9 =>
      have H := HA.out
      clear HA
      simp only [spec_ParseMeasure.j1] at H
      replace H := ob H
      obtain ⟨⟨t280, t281⟩, A130, H⟩ := H
      replace H : (spec_ParseMeasure.l0 kj9 a0 x5_3 t280 t281 0) = some (r1, r2) := H
      have A13 := am A130
      clear A130
      have H' := am H
      clear H
      go_wp2_with (first | ((with_reducible refine gate_callee (f := 63) rfl ?_); refine goesL_ (some 27) rfl rfl Tryd.func63 (by kernel_rfl) rfl #[.string x4_9] rfl u13_3 ?_; (with_reducible refine (spec_ParseNumber.calls kj9 x4_9 t280 t281 _ A13.out).mono ?_); rintro e w14 ⟨rfl, hb⟩; refine ⟨_, rfl, ?_⟩; have n0_ := am (below_step u13_2 hb); clear HB; have HB := n0_; clear n0_; (try clear hb); (try clear hb2); (try clear hk); (try clear hi)))
      go_loopg [8] kj9 (fun kq v8 w' => ∃ (x8_3 : Int), v8 = .int .i64 x8_3 ∧ Aside0 (spec_ParseMeasure.l0 kq a0 x5_3 t280 t281 x8_3 = some (r1, r2)) ∧ Aside0 (kq ≤ kj9) ∧ Aside0 (Below w.heap.size w w'))
      case atStart => exact ⟨(0), u13_4, H', ⟨Nat.le_refl _⟩, ⟨s13_2⟩⟩
      case round =>
       clear H'
       try clear c1
       try clear p2
       try clear q2
       try clear hx2
       try clear qi2
       try clear c3
       try clear c3b0
       try clear c3b1
       try clear c6
       try clear c7
       try clear c7b0
       try clear c7b1
       try clear c8
       try clear c8b0
       try clear c8b1
       try clear p9
       try clear q9
       try clear hx9
       try clear qi9
       try clear c11
       try clear c12
       try clear c12b0
       try clear c12b1
       try clear hx279_0
       try clear p2
       try clear p279
       try clear p9
       try clear q2
       try clear q279
       try clear q9
       obtain ⟨x8_3, rfl, HA, HK3, HB⟩ := hrel
       cases gk with
       | zero => exact absurd HA.out (by simp [spec_ParseMeasure.l0])
       | succ k3 =>
        have H := HA.out
        clear HA
        simp only [spec_ParseMeasure.l0] at H
        have HC15 := am H
        clear H
        go_upto_region 7 with (fail)
        go_cut [34] (fun v34 wc => ∃ (kq : Nat) (x34_14 : Bool), v34 = .bool x34_14 ∧ Aside0 (spec_ParseMeasure.j3 kq a0 x5_3 t280 t281 x8_3 x34_14 = some (r1, r2)) ∧ Aside0 (kq ≤ k3) ∧ Aside0 (Below w.heap.size w wc))
        case first =>
         have H := HC15.out
         clear HC15
         by_cases c16 : x8_3 < 8
         ·rw [if_pos c16] at H
          have c16b0 : decide (x8_3 < 8) = true := decide_eq_true c16
          clear c16
          (first | rw [c16b0] | (simp only [i64_w, i32_w]; rw [c16b0]) | skip)
          have H' := am H
          clear H
          go_wp2
          go_meet
          case rel => exact ⟨_, (t281), u13_4, H', ⟨by have := HJ3.out; have := HJ9.out; have := HK3.out; first | omega | exact Nat.le_refl _⟩, ⟨s13_2⟩⟩
         ·rw [if_neg c16] at H
          have c16b0 : decide (x8_3 < 8) = false := decide_eq_false c16
          clear c16
          (first | rw [c16b0] | (simp only [i64_w, i32_w]; rw [c16b0]) | skip)
          have H' := am H
          clear H
          go_wp2
          go_meet
          case rel => exact ⟨_, (false), u13_4, H', ⟨by have := HJ3.out; have := HJ9.out; have := HK3.out; first | omega | exact Nat.le_refl _⟩, ⟨s13_2⟩⟩
        case rest =>
         clear HC15
         try clear c1
         try clear p2
         try clear q2
         try clear hx2
         try clear qi2
         try clear c3
         try clear c3b0
         try clear c3b1
         try clear c6
         try clear c7
         try clear c7b0
         try clear c7b1
         try clear c8
         try clear c8b0
         try clear c8b1
         try clear p9
         try clear q9
         try clear hx9
         try clear qi9
         try clear c11
         try clear c12
         try clear c12b0
         try clear c12b1
         try clear c16
         try clear c16b0
         try clear hx279_0
         try clear p2
         try clear p279
         try clear p9
         try clear q2
         try clear q279
         try clear q9
         obtain ⟨kq, x34_14, rfl, HA, HJ14, HB⟩ := hcut
         cases kq with
         | zero => exact absurd HA.out (by simp [spec_ParseMeasure.j3])
         | succ kj14 =>
          have H := HA.out
          clear HA
          simp only [spec_ParseMeasure.j3] at H
          by_cases c17 : x34_14 = true
          ·subst c17
           have H1 : (if x5_3 = true then ((spec_FormatMeasure.f kj14 (wrap64 (-(wrap64 ((wrap64 (8 * t280)) + x8_3))))).bind fun t282 => (if t282.toList = a0.toList then (some (wrap64 (-(wrap64 ((wrap64 (8 * t280)) + x8_3))), true)) else (spec_ParseMeasure.l0 kj14 a0 x5_3 t280 t281 (wrap64 (x8_3 + 1))))) else ((spec_FormatMeasure.f kj14 (wrap64 ((wrap64 (8 * t280)) + x8_3))).bind fun t283 => (if t283.toList = a0.toList then (some (wrap64 ((wrap64 (8 * t280)) + x8_3), true)) else (spec_ParseMeasure.l0 kj14 a0 x5_3 t280 t281 (wrap64 (x8_3 + 1)))))) = some (r1, r2) := by rw [if_pos rfl] at H; exact H
           clear H
           have H := H1
           clear H1
           by_cases c18 : x5_3 = true
           ·subst c18
            have H1 : ((spec_FormatMeasure.f kj14 (wrap64 (-(wrap64 ((wrap64 (8 * t280)) + x8_3))))).bind fun t282 => (if t282.toList = a0.toList then (some (wrap64 (-(wrap64 ((wrap64 (8 * t280)) + x8_3))), true)) else (spec_ParseMeasure.l0 kj14 a0 true t280 t281 (wrap64 (x8_3 + 1))))) = some (r1, r2) := by rw [if_pos rfl] at H; exact H
            clear H
            have H := H1
            clear H1
            replace H := ob H
            obtain ⟨t282, A190, H⟩ := H
            replace H : (if t282.toList = a0.toList then (some (wrap64 (-(wrap64 ((wrap64 (8 * t280)) + x8_3))), true)) else (spec_ParseMeasure.l0 kj14 a0 true t280 t281 (wrap64 (x8_3 + 1)))) = some (r1, r2) := H
            have A19 := am A190
            clear A190
            by_cases c20 : t282.toList = a0.toList
            ·rw [if_pos c20] at H
             have c20b0 : (t282.toList == a0.toList) = true := beq_iff_eq.mpr c20
             have c20b1 : (t282.toList != a0.toList) = false := bne_eq_false_iff_eq.mpr c20
             clear c20
             simp only [Option.some.injEq, Prod.mk.injEq] at H
             obtain ⟨rfl, rfl⟩ := H
             go_wp2_with (first | ((with_reducible refine gate_callee (f := 67) rfl ?_); refine goesL_ (some 45) rfl rfl Tryd.func67 (by kernel_rfl) rfl #[.int .i64 (wrap64 (-(wrap64 ((wrap64 (8 * t280)) + x8_3))))] rfl u13_3 ?_; (with_reducible refine (spec_FormatMeasure.calls kj14 (wrap64 (-(wrap64 ((wrap64 (8 * t280)) + x8_3)))) t282 _ A19.out).mono ?_); rintro e w21 ⟨rfl, hb⟩; refine ⟨_, rfl, ?_⟩; have n0_ := am (below_step u13_2 hb); clear HB; have HB := n0_; clear n0_; (try clear hb); (try clear hb2); (try clear hk); (try clear hi)))
             go_ret2
             exact ⟨by first | rfl | (simp [*] <;> rfl), s13_2⟩
            ·rw [if_neg c20] at H
             have c20b0 : (t282.toList == a0.toList) = false := beq_eq_false_iff_ne.mpr c20
             have c20b1 : (t282.toList != a0.toList) = true := bne_iff_ne.mpr c20
             have H' := am H
             clear H
             go_wp2_with (first | ((with_reducible refine gate_callee (f := 67) rfl ?_); refine goesL_ (some 45) rfl rfl Tryd.func67 (by kernel_rfl) rfl #[.int .i64 (wrap64 (-(wrap64 ((wrap64 (8 * t280)) + x8_3))))] rfl u13_3 ?_; (with_reducible refine (spec_FormatMeasure.calls kj14 (wrap64 (-(wrap64 ((wrap64 (8 * t280)) + x8_3)))) t282 _ A19.out).mono ?_); rintro e w22 ⟨rfl, hb⟩; refine ⟨_, rfl, ?_⟩; have n0_ := am (below_step u13_2 hb); clear HB; have HB := n0_; clear n0_; (try clear hb); (try clear hb2); (try clear hk); (try clear hi)))
             go_roundg kj14
             case measure => have := HJ3.out; have := HJ9.out; have := HK3.out; have := HJ14.out; omega
             case rel => exact ⟨(wrap64 (x8_3 + 1)), u13_4, H', ⟨by have := HJ3.out; have := HJ9.out; have := HK3.out; have := HJ14.out; omega⟩, ⟨s13_2⟩⟩
           ·replace c18 := Bool.eq_false_iff.mpr c18
            subst c18
            have H1 : ((spec_FormatMeasure.f kj14 (wrap64 ((wrap64 (8 * t280)) + x8_3))).bind fun t283 => (if t283.toList = a0.toList then (some (wrap64 ((wrap64 (8 * t280)) + x8_3), true)) else (spec_ParseMeasure.l0 kj14 a0 false t280 t281 (wrap64 (x8_3 + 1))))) = some (r1, r2) := by rw [if_neg (show ¬ (false = true) by decide)] at H; exact H
            clear H
            have H := H1
            clear H1
            replace H := ob H
            obtain ⟨t283, A230, H⟩ := H
            replace H : (if t283.toList = a0.toList then (some (wrap64 ((wrap64 (8 * t280)) + x8_3), true)) else (spec_ParseMeasure.l0 kj14 a0 false t280 t281 (wrap64 (x8_3 + 1)))) = some (r1, r2) := H
            have A23 := am A230
            clear A230
            by_cases c24 : t283.toList = a0.toList
            ·rw [if_pos c24] at H
             have c24b0 : (t283.toList == a0.toList) = true := beq_iff_eq.mpr c24
             have c24b1 : (t283.toList != a0.toList) = false := bne_eq_false_iff_eq.mpr c24
             clear c24
             simp only [Option.some.injEq, Prod.mk.injEq] at H
             obtain ⟨rfl, rfl⟩ := H
             go_wp2_with (first | ((with_reducible refine gate_callee (f := 67) rfl ?_); refine goesL_ (some 45) rfl rfl Tryd.func67 (by kernel_rfl) rfl #[.int .i64 (wrap64 ((wrap64 (8 * t280)) + x8_3))] rfl u13_3 ?_; (with_reducible refine (spec_FormatMeasure.calls kj14 (wrap64 ((wrap64 (8 * t280)) + x8_3)) t283 _ A23.out).mono ?_); rintro e w25 ⟨rfl, hb⟩; refine ⟨_, rfl, ?_⟩; have n0_ := am (below_step u13_2 hb); clear HB; have HB := n0_; clear n0_; (try clear hb); (try clear hb2); (try clear hk); (try clear hi)))
             go_ret2
             exact ⟨by first | rfl | (simp [*] <;> rfl), s13_2⟩
            ·rw [if_neg c24] at H
             have c24b0 : (t283.toList == a0.toList) = false := beq_eq_false_iff_ne.mpr c24
             have c24b1 : (t283.toList != a0.toList) = true := bne_iff_ne.mpr c24
             have H' := am H
             clear H
             go_wp2_with (first | ((with_reducible refine gate_callee (f := 67) rfl ?_); refine goesL_ (some 45) rfl rfl Tryd.func67 (by kernel_rfl) rfl #[.int .i64 (wrap64 ((wrap64 (8 * t280)) + x8_3))] rfl u13_3 ?_; (with_reducible refine (spec_FormatMeasure.calls kj14 (wrap64 ((wrap64 (8 * t280)) + x8_3)) t283 _ A23.out).mono ?_); rintro e w26 ⟨rfl, hb⟩; refine ⟨_, rfl, ?_⟩; have n0_ := am (below_step u13_2 hb); clear HB; have HB := n0_; clear n0_; (try clear hb); (try clear hb2); (try clear hk); (try clear hi)))
             go_roundg kj14
             case measure => have := HJ3.out; have := HJ9.out; have := HK3.out; have := HJ14.out; omega
             case rel => exact ⟨(wrap64 (x8_3 + 1)), u13_4, H', ⟨by have := HJ3.out; have := HJ9.out; have := HK3.out; have := HJ14.out; omega⟩, ⟨s13_2⟩⟩
          ·replace c17 := Bool.eq_false_iff.mpr c17
           subst c17
           have H1 : (some (0, false)) = some (r1, r2) := by rw [if_neg (show ¬ (false = true) by decide)] at H; exact H
           clear H
           have H := H1
           clear H1
           simp only [Option.some.injEq, Prod.mk.injEq] at H
           obtain ⟨rfl, rfl⟩ := H
           go_wp2
           go_ret2
           exact ⟨by first | rfl | (simp [*] <;> rfl), s13_2⟩
 ·rw [if_neg c3] at H
  exact absurd H (by simp)

/-! ### spec_ParsePlace: function 64 -/
mutual
def spec_ParsePlace.l0 : Nat → ByteArray → Int → Option (Int × Int × Bool)
 | 0, _, _ => none
 | k + 1, x0, x4 => if (wrap64 (x4 + 1)) < (x0.size : Int) then (if 0 ≤ x4 then (if x4 ≤ (x0.size : Int) then ((spec_ParseMeasure.f k (x0.extract 0 (x4 : Int).toNat)).bind fun bt285 => (if x4 < (x0.size : Int) then (if (bt x0 x4) = 43 then (spec_ParsePlace.j1 k x0 x4 bt285.1 bt285.2 (wrap64 (x4 + 1))) else (spec_ParsePlace.j1 k x0 x4 bt285.1 bt285.2 x4)) else (none))) else (none)) else (none)) else (some (0, 0, false))
def spec_ParsePlace.j1 : Nat → ByteArray → Int → Int → Bool → Int → Option (Int × Int × Bool)
 | 0, _, _, _, _, _ => none
 | k + 1, x0, x4, x5, x6, x7 => if 0 ≤ x7 then (if x7 ≤ (wrap64 ((x0.size : Int) - 1)) then (if (wrap64 ((x0.size : Int) - 1)) ≤ (x0.size : Int) then ((spec_ParseMeasure.f k (x0.extract (x7 : Int).toNat ((wrap64 ((x0.size : Int) - 1)) : Int).toNat)).bind fun bt287 => (if x6 = true then (if bt287.2 = true then ((spec_FormatPlace.f k x5 bt287.1).bind fun t290 => (if t290.toList = x0.toList then (some (x5, bt287.1, true)) else (spec_ParsePlace.l0 k x0 (wrap64 (x4 + 1))))) else (spec_ParsePlace.l0 k x0 (wrap64 (x4 + 1)))) else (spec_ParsePlace.l0 k x0 (wrap64 (x4 + 1))))) else (none)) else (none)) else (none)
end
def spec_ParsePlace.f (k : Nat) (a0 : ByteArray) : Option (Int × Int × Bool) := spec_ParsePlace.l0 k a0 1
theorem spec_ParsePlace.mono_l : ∀ k, (∀ y0 y1, LeO (spec_ParsePlace.l0 k y0 y1) (spec_ParsePlace.l0 (k + 1) y0 y1)) ∧ (∀ y0 y1 y2 y3 y4, LeO (spec_ParsePlace.j1 k y0 y1 y2 y3 y4) (spec_ParsePlace.j1 (k + 1) y0 y1 y2 y3 y4))
 | 0 => ⟨fun _ _ r h => by simp [spec_ParsePlace.l0] at h, fun _ _ _ _ _ r h => by simp [spec_ParsePlace.j1] at h⟩
 | k + 1 => by
  obtain ⟨ih0, ih1⟩ := spec_ParsePlace.mono_l k
  refine ⟨?_, ?_⟩
  ·intro y0 y1
   unfold spec_ParsePlace.l0
   repeat' first
   | (with_reducible exact ih0 _ _)
   | (with_reducible exact ih1 _ _ _ _ _)
   | (with_reducible exact spec_FormatPlace.mono _ _ _)
   | (with_reducible exact spec_ParseMeasure.mono _ _)
   | (with_reducible exact LeO.refl _)
   | (with_reducible exact LeO.none _)
   | (with_reducible refine LeO.ite ?_ ?_)
   | (with_reducible refine LeO.bind ?_ (fun _ => ?_))
  ·intro y0 y1 y2 y3 y4
   unfold spec_ParsePlace.j1
   repeat' first
   | (with_reducible exact ih0 _ _)
   | (with_reducible exact ih1 _ _ _ _ _)
   | (with_reducible exact spec_FormatPlace.mono _ _ _)
   | (with_reducible exact spec_ParseMeasure.mono _ _)
   | (with_reducible exact LeO.refl _)
   | (with_reducible exact LeO.none _)
   | (with_reducible refine LeO.ite ?_ ?_)
   | (with_reducible refine LeO.bind ?_ (fun _ => ?_))
theorem spec_ParsePlace.mono : ∀ a0 k, LeO (spec_ParsePlace.f k a0) (spec_ParsePlace.f (k + 1) a0) := by
 intro a0 k
 obtain ⟨ih0, ih1⟩ := spec_ParsePlace.mono_l k
 unfold spec_ParsePlace.f
 repeat' first
   | (with_reducible exact ih0 _ _)
   | (with_reducible exact ih1 _ _ _ _ _)
   | (with_reducible exact spec_FormatPlace.mono _ _ _)
   | (with_reducible exact spec_ParseMeasure.mono _ _)
   | (with_reducible exact LeO.refl _)
   | (with_reducible exact LeO.none _)
   | (with_reducible refine LeO.ite ?_ ?_)
   | (with_reducible refine LeO.bind ?_ (fun _ => ?_))
theorem spec_ParsePlace.calls (k : Nat) (a0 : ByteArray) (r1 : Int) (r2 : Int) (r3 : Bool) (w : World) (h : spec_ParsePlace.f k a0 = some (r1, r2, r3)) :
  Calls Tryd.prog 64 #[.string a0] w fun e w' => e = .returned (.tuple #[.agg #[.int .i64 r1, .int .i64 r2], .bool r3]) ∧ Below w.heap.size w w' := by
 have hu36 := Tryd.underlying36
 have HB := am (Below.refl w.heap.size w)
 have H : (spec_ParsePlace.l0 k a0 1) = some (r1, r2, r3) := h
 clear h
 have H' := am H
 clear H
 go_enter Tryd.func64, Tryd.ntmps64
 go_wp2_with (first | ((with_reducible refine gate_dst (N := 2) rfl ?_); refine box_event ?hg (N := 2) ?hd (cs := #[.int .i64 0, .int .i64 0]) (t := 36) ?hr ?_; (case hd => rfl); (case hg => rfl); (case hr => exact gq); intro gb284 hg w2 hbox hb; have n0_ := am (below_step u13_2 hb); have n1_ := am (hbox); have n2_ := bsw w hg (below_size u13_2); have n3_ := bsw w hg (below_size u13_2); clear HB; have HB := n0_; have BK284 := n1_; have GW284 := n2_; have GE284 := n3_; clear n0_ n1_ n2_ n3_ hb hbox hg))
 go_loopg [4] k (fun kq v4 w' => ∃ (x4_1 : Int) (x285000_1 : Int) (x285001_1 : Int), v4 = .int .i64 x4_1 ∧ Aside0 (spec_ParsePlace.l0 kq a0 x4_1 = some (r1, r2, r3)) ∧ Aside0 (kq ≤ k) ∧ Aside0 (w'.heap[gb284]? = some (.cells #[.int .i64 x285000_1, .int .i64 x285001_1] 36 (0, 0))) ∧ Aside0 (Below w.heap.size w w'))
 case atStart => exact ⟨(1), (0), (0), u13_4, H', ⟨Nat.le_refl _⟩, ⟨bd BK284.out⟩, ⟨s13_1⟩⟩
 case round =>
  clear H'
  try clear p2
  obtain ⟨x4_1, x285000_1, x285001_1, rfl, HA, HK1, BK284, HB⟩ := hrel
  cases gk with
  | zero => exact absurd HA.out (by simp [spec_ParsePlace.l0])
  | succ k1 =>
   have H := HA.out
   clear HA
   simp only [spec_ParsePlace.l0] at H
   by_cases c3 : (wrap64 (x4_1 + 1)) < (a0.size : Int)
   ·rw [if_pos c3] at H
    have c3b0 : decide ((wrap64 (x4_1 + 1)) < (a0.size : Int)) = true := decide_eq_true c3
    clear c3
    by_cases c4 : 0 ≤ x4_1
    ·rw [if_pos c4] at H
     have c4b0 := eq_true c4
     have c4b1 : decide (0 ≤ x4_1) = true := decide_eq_true c4
     clear c4
     by_cases c5 : x4_1 ≤ (a0.size : Int)
     ·rw [if_pos c5] at H
      have c5b0 := eq_true c5
      have c5b1 : decide (x4_1 ≤ (a0.size : Int)) = true := decide_eq_true c5
      clear c5
      replace H := ob H
      obtain ⟨⟨t285, t286⟩, A60, H⟩ := H
      replace H : (if x4_1 < (a0.size : Int) then (if (bt a0 x4_1) = 43 then (spec_ParsePlace.j1 k1 a0 x4_1 t285 t286 (wrap64 (x4_1 + 1))) else (spec_ParsePlace.j1 k1 a0 x4_1 t285 t286 x4_1)) else (none)) = some (r1, r2, r3) := H
      have A6 := am A60
      clear A60
      by_cases c7 : x4_1 < (a0.size : Int)
      ·rw [if_pos c7] at H
       have c7b0 : decide (x4_1 < (a0.size : Int)) = true := decide_eq_true c7
       clear c7
       have HC9 := am H
       clear H
       go_upto_if 29 with (first | ((with_reducible refine gate_callee (f := 62) rfl ?_); refine goesL_ (some 22) rfl rfl Tryd.func62 (by kernel_rfl) rfl #[.string (a0.extract 0 (x4_1 : Int).toNat)] rfl u13_3 ?_; (with_reducible refine (spec_ParseMeasure.calls k1 (a0.extract 0 (x4_1 : Int).toNat) t285 t286 _ A6.out).mono ?_); rintro e w10 ⟨rfl, hb⟩; refine ⟨_, rfl, ?_⟩; have n0_ := am (blk_below (g := gb284) (o := zo2 x285000_1 x285001_1) u13_1 hb); have n1_ := am (below_step u13_0 hb); clear BK284 HB; have BK284 := n0_; have HB := n1_; clear n0_ n1_; (try clear hb); (try clear hb2); (try clear hk); (try clear hi); have p8 : 0 ≤ (x4_1 : Int) := od (by assumption); have q8 : x4_1 < (a0.size : Int) := od (by assumption); have hx8 := bt_at a0 x4_1; replace p8 := eq_true p8; replace q8 := eq_true q8))
       (try simp only [Act.put, List.setIfInBounds_toArray, List.set_cons_zero, List.set_cons_succ])
       go_cut [7] (fun v7 wc => ∃ (kq : Nat) (x7_8 : Int), v7 = .int .i64 x7_8 ∧ Aside0 (spec_ParsePlace.j1 kq a0 x4_1 t285 t286 x7_8 = some (r1, r2, r3)) ∧ Aside0 (kq ≤ k1) ∧ Aside0 (wc.heap[gb284]? = some (.cells #[.int .i64 x285000_1, .int .i64 x285001_1] 36 (0, 0))) ∧ Aside0 (Below w.heap.size w wc))
       case first =>
        have H := HC9.out
        clear HC9
        by_cases c11 : (bt a0 x4_1) = 43
        ·rw [if_pos c11] at H
         have c11b0 : ((bt a0 x4_1) == 43) = true := beq_iff_eq.mpr c11
         have c11b1 : ((bt a0 x4_1) != 43) = false := bne_eq_false_iff_eq.mpr c11
         clear c11
         (first | rw [c11b0] | (simp only [i64_w, i32_w]; rw [c11b0]) | skip)
         have H' := am H
         clear H
         go_wp2
         go_meet
         case rel => exact ⟨_, (wrap64 (x4_1 + 1)), u13_4, H', ⟨by have := HK1.out; first | omega | exact Nat.le_refl _⟩, ⟨bd BK284.out⟩, ⟨s13_1⟩⟩
        ·rw [if_neg c11] at H
         have c11b0 : ((bt a0 x4_1) == 43) = false := beq_eq_false_iff_ne.mpr c11
         have c11b1 : ((bt a0 x4_1) != 43) = true := bne_iff_ne.mpr c11
         (first | rw [c11b0] | (simp only [i64_w, i32_w]; rw [c11b0]) | skip)
         have H' := am H
         clear H
         go_wp2
         go_meet
         case rel => exact ⟨_, (x4_1), u13_4, H', ⟨by have := HK1.out; first | omega | exact Nat.le_refl _⟩, ⟨bd BK284.out⟩, ⟨s13_1⟩⟩
       case rest =>
        clear HC9
        try clear c1
        try clear p2
        try clear c3
        try clear c3b0
        try clear c4
        try clear c4b0
        try clear c4b1
        try clear c5
        try clear c5b0
        try clear c5b1
        try clear c6
        try clear p6
        try clear c7
        try clear c7b0
        try clear p8
        try clear q8
        try clear hx8
        try clear c11
        try clear c11b0
        try clear c11b1
        try clear p2
        try clear p8
        try clear q8
        obtain ⟨kq, x7_8, rfl, HA, HJ8, BK284, HB⟩ := hcut
        cases kq with
        | zero => exact absurd HA.out (by simp [spec_ParsePlace.j1])
        | succ kj8 =>
         have H := HA.out
         clear HA
         simp only [spec_ParsePlace.j1] at H
         by_cases c12 : 0 ≤ x7_8
         ·rw [if_pos c12] at H
          have c12b0 := eq_true c12
          have c12b1 : decide (0 ≤ x7_8) = true := decide_eq_true c12
          clear c12
          by_cases c13 : x7_8 ≤ (wrap64 ((a0.size : Int) - 1))
          ·rw [if_pos c13] at H
           have c13b0 := eq_true c13
           have c13b1 : decide (x7_8 ≤ (wrap64 ((a0.size : Int) - 1))) = true := decide_eq_true c13
           clear c13
           by_cases c14 : (wrap64 ((a0.size : Int) - 1)) ≤ (a0.size : Int)
           ·rw [if_pos c14] at H
            have c14b0 := eq_true c14
            have c14b1 : decide ((wrap64 ((a0.size : Int) - 1)) ≤ (a0.size : Int)) = true := decide_eq_true c14
            clear c14
            replace H := ob H
            obtain ⟨⟨t287, t288⟩, A150, H⟩ := H
            replace H : (if t286 = true then (if t288 = true then ((spec_FormatPlace.f kj8 t285 t287).bind fun t290 => (if t290.toList = a0.toList then (some (t285, t287, true)) else (spec_ParsePlace.l0 kj8 a0 (wrap64 (x4_1 + 1))))) else (spec_ParsePlace.l0 kj8 a0 (wrap64 (x4_1 + 1)))) else (spec_ParsePlace.l0 kj8 a0 (wrap64 (x4_1 + 1)))) = some (r1, r2, r3) := H
            have A15 := am A150
            clear A150
            by_cases c16 : t286 = true
            ·subst c16
             have H1 : (if t288 = true then ((spec_FormatPlace.f kj8 t285 t287).bind fun t290 => (if t290.toList = a0.toList then (some (t285, t287, true)) else (spec_ParsePlace.l0 kj8 a0 (wrap64 (x4_1 + 1))))) else (spec_ParsePlace.l0 kj8 a0 (wrap64 (x4_1 + 1)))) = some (r1, r2, r3) := by rw [if_pos rfl] at H; exact H
             clear H
             have H := H1
             clear H1
             by_cases c17 : t288 = true
             ·subst c17
              have H1 : ((spec_FormatPlace.f kj8 t285 t287).bind fun t290 => (if t290.toList = a0.toList then (some (t285, t287, true)) else (spec_ParsePlace.l0 kj8 a0 (wrap64 (x4_1 + 1))))) = some (r1, r2, r3) := by rw [if_pos rfl] at H; exact H
              clear H
              have H := H1
              clear H1
              replace H := ob H
              obtain ⟨t290, A180, H⟩ := H
              replace H : (if t290.toList = a0.toList then (some (t285, t287, true)) else (spec_ParsePlace.l0 kj8 a0 (wrap64 (x4_1 + 1)))) = some (r1, r2, r3) := H
              have A18 := am A180
              clear A180
              by_cases c19 : t290.toList = a0.toList
              ·rw [if_pos c19] at H
               have c19b0 : (t290.toList == a0.toList) = true := beq_iff_eq.mpr c19
               have c19b1 : (t290.toList != a0.toList) = false := bne_eq_false_iff_eq.mpr c19
               clear c19
               simp only [Option.some.injEq, Prod.mk.injEq] at H
               obtain ⟨rfl, rfl, rfl⟩ := H
               go_wp2_with (first | ((with_reducible refine gate_callee (f := 62) rfl ?_); refine goesL_ (some 39) rfl rfl Tryd.func62 (by kernel_rfl) rfl #[.string (a0.extract (x7_8 : Int).toNat ((wrap64 ((a0.size : Int) - 1)) : Int).toNat)] rfl u13_3 ?_; (with_reducible refine (spec_ParseMeasure.calls kj8 (a0.extract (x7_8 : Int).toNat ((wrap64 ((a0.size : Int) - 1)) : Int).toNat) t287 true _ A15.out).mono ?_); rintro e w20 ⟨rfl, hb⟩; refine ⟨_, rfl, ?_⟩; have n0_ := am (blk_below (g := gb284) (o := zo2 x285000_1 x285001_1) u13_1 hb); have n1_ := am (below_step u13_0 hb); clear BK284 HB; have BK284 := n0_; have HB := n1_; clear n0_ n1_; (try clear hb); (try clear hb2); (try clear hk); (try clear hi)) | ((with_reducible refine gate_dst (N := 10) rfl ?_); refine box_event ?hg (N := 10) ?hd (cs := #[.int .i64 0, .int .i64 0]) (t := 36) ?hr ?_; (case hd => rfl); (case hg => rfl); (case hr => exact gq); intro gb289 hg w21 hbox hb; have n0_ := am (blk_below (g := gb284) (o := zo2 x285000_1 x285001_1) u13_1 hb); have n1_ := am (below_step u13_0 hb); have n2_ := am (hbox); have n3_ := bsw w hg (below_size u13_0); have n4_ := bsw w hg (below_size u13_0); have n5_ := am ((by rw [hg]; exact Nat.ne_of_lt (blk_lt (g := gb284) (o := zo2 x285000_1 x285001_1) u13_1) : gb284 ≠ gb289)); have n6_ := am ((by rw [hg]; exact Nat.ne_of_gt (blk_lt (g := gb284) (o := zo2 x285000_1 x285001_1) u13_1) : gb289 ≠ gb284)); clear BK284 HB; have BK284 := n0_; have HB := n1_; have BK289 := n2_; have GW289 := n3_; have GE289 := n4_; have NB284_289 := n5_; have NB289_284 := n6_; clear n0_ n1_ n2_ n3_ n4_ n5_ n6_ hb hbox hg; have hnb22 := NB289_284.out; have hnc22 := NB284_289.out; obtain ⟨hcz23_0, hcz23_1, hfz23_0, hfz23_1⟩ := cf2 BK289.out) | (go_at_call 68; (with_reducible refine (spec_FormatPlace.calls kj8 t285 t287 t290 _ A18.out).mono ?_); rintro e w24 ⟨rfl, hb⟩; have n0_ := am (blk_below (g := gb284) (o := zo2 x285000_1 x285001_1) u13_5 hb); have n1_ := am (blk_below (g := gb289) (o := zo2 t285 t287) u13_6 hb); have n2_ := am (below_step (by repeat (first | (with_reducible first | exact HB.out | apply below_alloc | apply pw_below_drewN | apply below_drew1 | refine below_set ?_ GE284.out | refine below_set ?_ GE289.out) | exact HB.out)) hb); clear BK284 BK289 HB; have BK284 := n0_; have BK289 := n1_; have HB := n2_; clear n0_ n1_ n2_; (try clear hb); (try clear hb2); (try clear hk); (try clear hi); obtain ⟨hcz25_0, hcz25_1, hfz25_0, hfz25_1⟩ := cf2 BK289.out; obtain ⟨hcz26_0, hcz26_1, hfz26_0, hfz26_1⟩ := cf2 BK284.out))
               refine bodyPost_ret (results_ct rfl _ _ gb284 36 #[.int .i64 t285, .int .i64 t287] (0, 0) _ rfl (by (with_reducible repeat (first | refine bN ?_ _ | refine bD ?_ | refine bA ?_ _)); refine blk_put (cs := zr4 t285 x285001_1) ?_ 1 _ rfl; refine blk_put (cs := zr4 x285000_1 x285001_1) ?_ 0 _ rfl; exact bd BK284.out) Tryd.underlying36 rfl (by kernel_rfl)) rfl ?_
               exact ⟨by first | rfl | (simp [*] <;> rfl), s13_0⟩
              ·rw [if_neg c19] at H
               have c19b0 : (t290.toList == a0.toList) = false := beq_eq_false_iff_ne.mpr c19
               have c19b1 : (t290.toList != a0.toList) = true := bne_iff_ne.mpr c19
               have H' := am H
               clear H
               go_wp2_with (first | ((with_reducible refine gate_callee (f := 62) rfl ?_); refine goesL_ (some 39) rfl rfl Tryd.func62 (by kernel_rfl) rfl #[.string (a0.extract (x7_8 : Int).toNat ((wrap64 ((a0.size : Int) - 1)) : Int).toNat)] rfl u13_3 ?_; (with_reducible refine (spec_ParseMeasure.calls kj8 (a0.extract (x7_8 : Int).toNat ((wrap64 ((a0.size : Int) - 1)) : Int).toNat) t287 true _ A15.out).mono ?_); rintro e w27 ⟨rfl, hb⟩; refine ⟨_, rfl, ?_⟩; have n0_ := am (blk_below (g := gb284) (o := zo2 x285000_1 x285001_1) u13_1 hb); have n1_ := am (below_step u13_0 hb); clear BK284 HB; have BK284 := n0_; have HB := n1_; clear n0_ n1_; (try clear hb); (try clear hb2); (try clear hk); (try clear hi)) | ((with_reducible refine gate_dst (N := 10) rfl ?_); refine box_event ?hg (N := 10) ?hd (cs := #[.int .i64 0, .int .i64 0]) (t := 36) ?hr ?_; (case hd => rfl); (case hg => rfl); (case hr => exact gq); intro gb289 hg w28 hbox hb; have n0_ := am (blk_below (g := gb284) (o := zo2 x285000_1 x285001_1) u13_1 hb); have n1_ := am (below_step u13_0 hb); have n2_ := am (hbox); have n3_ := bsw w hg (below_size u13_0); have n4_ := bsw w hg (below_size u13_0); have n5_ := am ((by rw [hg]; exact Nat.ne_of_lt (blk_lt (g := gb284) (o := zo2 x285000_1 x285001_1) u13_1) : gb284 ≠ gb289)); have n6_ := am ((by rw [hg]; exact Nat.ne_of_gt (blk_lt (g := gb284) (o := zo2 x285000_1 x285001_1) u13_1) : gb289 ≠ gb284)); clear BK284 HB; have BK284 := n0_; have HB := n1_; have BK289 := n2_; have GW289 := n3_; have GE289 := n4_; have NB284_289 := n5_; have NB289_284 := n6_; clear n0_ n1_ n2_ n3_ n4_ n5_ n6_ hb hbox hg; have hnb29 := NB289_284.out; have hnc29 := NB284_289.out; obtain ⟨hcz30_0, hcz30_1, hfz30_0, hfz30_1⟩ := cf2 BK289.out) | (go_at_call 68; (with_reducible refine (spec_FormatPlace.calls kj8 t285 t287 t290 _ A18.out).mono ?_); rintro e w31 ⟨rfl, hb⟩; have n0_ := am (blk_below (g := gb284) (o := zo2 x285000_1 x285001_1) u13_5 hb); have n1_ := am (blk_below (g := gb289) (o := zo2 t285 t287) u13_6 hb); have n2_ := am (below_step (by repeat (first | (with_reducible first | exact HB.out | apply below_alloc | apply pw_below_drewN | apply below_drew1 | refine below_set ?_ GE284.out | refine below_set ?_ GE289.out) | exact HB.out)) hb); clear BK284 BK289 HB; have BK284 := n0_; have BK289 := n1_; have HB := n2_; clear n0_ n1_ n2_; (try clear hb); (try clear hb2); (try clear hk); (try clear hi)))
               go_roundg kj8
               case measure => have := HK1.out; have := HJ8.out; omega
               case rel => exact ⟨(wrap64 (x4_1 + 1)), (x285000_1), (x285001_1), u13_4, H', ⟨by have := HK1.out; have := HJ8.out; omega⟩, ⟨bd BK284.out⟩, ⟨s13_0⟩⟩
             ·replace c17 := Bool.eq_false_iff.mpr c17
              subst c17
              have H1 : (spec_ParsePlace.l0 kj8 a0 (wrap64 (x4_1 + 1))) = some (r1, r2, r3) := by rw [if_neg (show ¬ (false = true) by decide)] at H; exact H
              clear H
              have H := H1
              clear H1
              have H' := am H
              clear H
              go_wp2_with (first | ((with_reducible refine gate_callee (f := 62) rfl ?_); refine goesL_ (some 39) rfl rfl Tryd.func62 (by kernel_rfl) rfl #[.string (a0.extract (x7_8 : Int).toNat ((wrap64 ((a0.size : Int) - 1)) : Int).toNat)] rfl u13_3 ?_; (with_reducible refine (spec_ParseMeasure.calls kj8 (a0.extract (x7_8 : Int).toNat ((wrap64 ((a0.size : Int) - 1)) : Int).toNat) t287 false _ A15.out).mono ?_); rintro e w32 ⟨rfl, hb⟩; refine ⟨_, rfl, ?_⟩; have n0_ := am (blk_below (g := gb284) (o := zo2 x285000_1 x285001_1) u13_1 hb); have n1_ := am (below_step u13_0 hb); clear BK284 HB; have BK284 := n0_; have HB := n1_; clear n0_ n1_; (try clear hb); (try clear hb2); (try clear hk); (try clear hi)) | ((with_reducible refine gate_dst (N := 10) rfl ?_); refine box_event ?hg (N := 10) ?hd (cs := #[.int .i64 0, .int .i64 0]) (t := 36) ?hr ?_; (case hd => rfl); (case hg => rfl); (case hr => exact gq); intro gb289 hg w33 hbox hb; have n0_ := am (blk_below (g := gb284) (o := zo2 x285000_1 x285001_1) u13_1 hb); have n1_ := am (below_step u13_0 hb); have n2_ := am (hbox); have n3_ := bsw w hg (below_size u13_0); have n4_ := bsw w hg (below_size u13_0); have n5_ := am ((by rw [hg]; exact Nat.ne_of_lt (blk_lt (g := gb284) (o := zo2 x285000_1 x285001_1) u13_1) : gb284 ≠ gb289)); have n6_ := am ((by rw [hg]; exact Nat.ne_of_gt (blk_lt (g := gb284) (o := zo2 x285000_1 x285001_1) u13_1) : gb289 ≠ gb284)); clear BK284 HB; have BK284 := n0_; have HB := n1_; have BK289 := n2_; have GW289 := n3_; have GE289 := n4_; have NB284_289 := n5_; have NB289_284 := n6_; clear n0_ n1_ n2_ n3_ n4_ n5_ n6_ hb hbox hg; have hnb34 := NB289_284.out; have hnc34 := NB284_289.out; obtain ⟨hcz35_0, hcz35_1, hfz35_0, hfz35_1⟩ := cf2 BK289.out))
              go_roundg kj8
              case measure => have := HK1.out; have := HJ8.out; omega
              case rel => exact ⟨(wrap64 (x4_1 + 1)), (x285000_1), (x285001_1), u13_4, H', ⟨by have := HK1.out; have := HJ8.out; omega⟩, ⟨by (with_reducible repeat (first | refine bN ?_ _ | refine bD ?_ | refine bA ?_ _)); refine blk_far ?_ NB284_289.out _; (with_reducible repeat (first | refine bN ?_ _ | refine bD ?_ | refine bA ?_ _)); refine blk_far ?_ NB284_289.out _; exact bd BK284.out⟩, ⟨s13_0⟩⟩
            ·replace c16 := Bool.eq_false_iff.mpr c16
             subst c16
             have H1 : (spec_ParsePlace.l0 kj8 a0 (wrap64 (x4_1 + 1))) = some (r1, r2, r3) := by rw [if_neg (show ¬ (false = true) by decide)] at H; exact H
             clear H
             have H := H1
             clear H1
             have H' := am H
             clear H
             go_wp2_with (first | ((with_reducible refine gate_callee (f := 62) rfl ?_); refine goesL_ (some 39) rfl rfl Tryd.func62 (by kernel_rfl) rfl #[.string (a0.extract (x7_8 : Int).toNat ((wrap64 ((a0.size : Int) - 1)) : Int).toNat)] rfl u13_3 ?_; (with_reducible refine (spec_ParseMeasure.calls kj8 (a0.extract (x7_8 : Int).toNat ((wrap64 ((a0.size : Int) - 1)) : Int).toNat) t287 t288 _ A15.out).mono ?_); rintro e w36 ⟨rfl, hb⟩; refine ⟨_, rfl, ?_⟩; have n0_ := am (blk_below (g := gb284) (o := zo2 x285000_1 x285001_1) u13_1 hb); have n1_ := am (below_step u13_0 hb); clear BK284 HB; have BK284 := n0_; have HB := n1_; clear n0_ n1_; (try clear hb); (try clear hb2); (try clear hk); (try clear hi)) | ((with_reducible refine gate_dst (N := 10) rfl ?_); refine box_event ?hg (N := 10) ?hd (cs := #[.int .i64 0, .int .i64 0]) (t := 36) ?hr ?_; (case hd => rfl); (case hg => rfl); (case hr => exact gq); intro gb289 hg w37 hbox hb; have n0_ := am (blk_below (g := gb284) (o := zo2 x285000_1 x285001_1) u13_1 hb); have n1_ := am (below_step u13_0 hb); have n2_ := am (hbox); have n3_ := bsw w hg (below_size u13_0); have n4_ := bsw w hg (below_size u13_0); have n5_ := am ((by rw [hg]; exact Nat.ne_of_lt (blk_lt (g := gb284) (o := zo2 x285000_1 x285001_1) u13_1) : gb284 ≠ gb289)); have n6_ := am ((by rw [hg]; exact Nat.ne_of_gt (blk_lt (g := gb284) (o := zo2 x285000_1 x285001_1) u13_1) : gb289 ≠ gb284)); clear BK284 HB; have BK284 := n0_; have HB := n1_; have BK289 := n2_; have GW289 := n3_; have GE289 := n4_; have NB284_289 := n5_; have NB289_284 := n6_; clear n0_ n1_ n2_ n3_ n4_ n5_ n6_ hb hbox hg; have hnb38 := NB289_284.out; have hnc38 := NB284_289.out; obtain ⟨hcz39_0, hcz39_1, hfz39_0, hfz39_1⟩ := cf2 BK289.out))
             go_roundg kj8
             case measure => have := HK1.out; have := HJ8.out; omega
             case rel => exact ⟨(wrap64 (x4_1 + 1)), (x285000_1), (x285001_1), u13_4, H', ⟨by have := HK1.out; have := HJ8.out; omega⟩, ⟨by (with_reducible repeat (first | refine bN ?_ _ | refine bD ?_ | refine bA ?_ _)); refine blk_far ?_ NB284_289.out _; (with_reducible repeat (first | refine bN ?_ _ | refine bD ?_ | refine bA ?_ _)); refine blk_far ?_ NB284_289.out _; exact bd BK284.out⟩, ⟨s13_0⟩⟩
           ·rw [if_neg c14] at H
            exact absurd H (by simp)
          ·rw [if_neg c13] at H
           exact absurd H (by simp)
         ·rw [if_neg c12] at H
          exact absurd H (by simp)
      ·rw [if_neg c7] at H
       exact absurd H (by simp)
     ·rw [if_neg c5] at H
      exact absurd H (by simp)
    ·rw [if_neg c4] at H
     exact absurd H (by simp)
   ·rw [if_neg c3] at H
    have c3b0 : decide ((wrap64 (x4_1 + 1)) < (a0.size : Int)) = false := decide_eq_false c3
    clear c3
    simp only [Option.some.injEq, Prod.mk.injEq] at H
    obtain ⟨rfl, rfl, rfl⟩ := H
    obtain ⟨hcz40_0, hcz40_1, hfz40_0, hfz40_1⟩ := cf2 BK284.out
    go_wp2
    refine bodyPost_ret (results_ct rfl _ _ gb284 36 #[.int .i64 0, .int .i64 0] (0, 0) _ rfl (by (with_reducible repeat (first | refine bN ?_ _ | refine bD ?_ | refine bA ?_ _)); refine blk_put (cs := zr4 0 x285001_1) ?_ 1 _ rfl; refine blk_put (cs := zr4 x285000_1 x285001_1) ?_ 0 _ rfl; exact bd BK284.out) Tryd.underlying36 rfl (by kernel_rfl)) rfl ?_
    exact ⟨by first | rfl | (simp [*] <;> rfl), s13_1⟩

end Go.Proofs.YthofcclbkihemaaDoor.MFnExactParseDevice
