-- Written by a program for this claim.
import Derived.Test.YthofcclbkihemaaDoorMFnExactParseDevicex0
import Derived.Test.YthofcclbkihemaaDoorMFnExactParseDevicex1
namespace Go.Proofs.YthofcclbkihemaaDoor.MFnExactParseDevice
open Go.RowKit Go.Proofs.YthofcclbkihemaaDoorW.PrintWords Go.Proofs.YthofcclbkihemaaDoorW.PrintLast Go.Proofs.YthofcclbkihemaaDoorW.PrintMore
attribute [local go_sem] max2_int min2_int max_two min_two max_three min_three max_four min_four
set_option linter.unusedVariables false
set_option linter.unusedSimpArgs false
set_option maxHeartbeats 8000000
set_option maxRecDepth 100000

attribute [local go_sem high] eqA38
theorem s2_0 {p : Prop} (h : p := by repeat (first | (with_reducible first | exact HB.out | apply below_alloc | apply pw_below_drewN | apply below_drew1 | refine below_set ?_ GE104.out) | exact HB.out)) : p := h
theorem s2_1 {p : Prop} (h : p := by repeat (first | (with_reducible first | exact HB.out | apply below_alloc | apply pw_below_drewN | apply below_drew1 | refine below_set ?_ GE111.out) | exact HB.out)) : p := h
theorem s2_2 {p : Prop} (h : p := by repeat (first | (with_reducible first | exact HB.out | apply below_alloc | apply pw_below_drewN | apply below_drew1 | refine below_set ?_ GE114.out) | exact HB.out)) : p := h
theorem s2_3 {p : Prop} (h : p := by repeat (first | exact Drawn0.refl _ | apply Drawn0.step)) : p := h
theorem v2_0 {p : Prop} (h : p := by assumption) : p := h
theorem u2_0 {p : Prop} (h : p := by repeat (first | (with_reducible first | exact HB.out | apply below_alloc | apply pw_below_drewN | apply below_drew1 | refine below_set ?_ (Aside0.out v2_0)) | exact HB.out)) : p := h
theorem u2_1 {p : Prop} (h : p := by repeat (first | (with_reducible first | exact HB.out | apply below_alloc | apply pw_below_drewN | apply below_drew1) | exact HB.out)) : p := h
theorem u2_2 {p : Prop} (h : p := by (try simp only [List.map_toArray, List.map_cons, List.map_nil]); first | done | rfl) : p := h
theorem u2_4 {p : Prop} (h : p := by repeat (first | (with_reducible first | exact HB.out | apply below_alloc | apply pw_below_drewN | apply below_drew1 | refine below_set ?_ GE114.out) | exact HB.out)) : p := h
theorem u2_5 {p : Prop} (h : p := by exact bd BK114.out) : p := h
/-! ### impl_isWithin: function 41 -/
def impl_isWithin.f (a0 : Int) (a1 : Int) (a2 : Int) : Option (Bool) := if a1 ≤ a0 then (some (decide (a0 ≤ a2))) else (some false)
theorem impl_isWithin.calls (a0 : Int) (a1 : Int) (a2 : Int) (r : Bool) (w : World) (h : impl_isWithin.f a0 a1 a2 = some r) :
  Calls Tryd.prog 41 #[.int .i64 a0, .int .i64 a1, .int .i64 a2] w fun e w' => e = .returned (.bool r) ∧ Drawn0 w w' := by
 have H : (if a1 ≤ a0 then (some (decide (a0 ≤ a2))) else (some false)) = some r := h
 clear h
 by_cases c4 : a1 ≤ a0
 ·rw [if_pos c4] at H
  have c4b0 : decide (a1 ≤ a0) = true := decide_eq_true c4
  clear c4
  obtain rfl := oi H
  go_enter Tryd.func41, Tryd.ntmps41
  go_wp2
  go_ret
  exact ⟨by first | rfl | (simp; done) | (simp [*]; done), s2_3⟩
 ·rw [if_neg c4] at H
  have c4b0 : decide (a1 ≤ a0) = false := decide_eq_false c4
  clear c4
  obtain rfl := oi H
  go_enter Tryd.func41, Tryd.ntmps41
  go_wp2
  go_ret
  exact ⟨by first | rfl | (simp; done) | (simp [*]; done), s2_3⟩

/-! ### impl_IsName: function 42 -/
def impl_IsName.l0 : Nat → ByteArray → Int → Int → Option (Bool)
 | 0, _, _, _ => none
 | k + 1, x0, x6, x7 => if x7 < x6 then (if 0 ≤ x7 then (if x7 < (x0.size : Int) then (if (bt x0 x7) ≥ 97 then (if ((bt x0 x7) ≤ 122) then (impl_IsName.l0 k x0 x6 (wrap64 (x7 + 1))) else (if x7 = 0 then (some false) else (if (bt x0 x7) < 48 then (some false) else (if (bt x0 x7) > 57 then (some false) else (impl_IsName.l0 k x0 x6 (wrap64 (x7 + 1))))))) else (if x7 = 0 then (some false) else (if (bt x0 x7) < 48 then (some false) else (if (bt x0 x7) > 57 then (some false) else (impl_IsName.l0 k x0 x6 (wrap64 (x7 + 1))))))) else (none)) else (none)) else ((impl_isWithin.f (x0.size : Int) 1 8).bind fun t101 => (some t101))
def impl_IsName.f (k : Nat) (a0 : ByteArray) : Option (Bool) := impl_IsName.l0 k a0 (a0.size : Int) 0
theorem impl_IsName.mono_l : ∀ k, (∀ y0 y1 y2, LeO (impl_IsName.l0 k y0 y1 y2) (impl_IsName.l0 (k + 1) y0 y1 y2))
 | 0 => fun _ _ _ r h => by simp [impl_IsName.l0] at h
 | k + 1 => by
  have ih0 := impl_IsName.mono_l k
  ·intro y0 y1 y2
   unfold impl_IsName.l0
   repeat' first
   | (with_reducible exact ih0 _ _ _)
   | (with_reducible exact LeO.refl _)
   | (with_reducible exact LeO.none _)
   | (with_reducible refine LeO.ite ?_ ?_)
   | (with_reducible refine LeO.bind ?_ (fun _ => ?_))
theorem impl_IsName.mono : ∀ a0 k, LeO (impl_IsName.f k a0) (impl_IsName.f (k + 1) a0) := by
 intro a0 k
 have ih0 := impl_IsName.mono_l k
 unfold impl_IsName.f
 repeat' first
   | (with_reducible exact ih0 _ _ _)
   | (with_reducible exact LeO.refl _)
   | (with_reducible exact LeO.none _)
   | (with_reducible refine LeO.ite ?_ ?_)
   | (with_reducible refine LeO.bind ?_ (fun _ => ?_))
theorem impl_IsName.calls (k : Nat) (a0 : ByteArray) (r : Bool) (w : World) (h : impl_IsName.f k a0 = some r) :
  Calls Tryd.prog 42 #[.string a0] w fun e w' => e = .returned (.bool r) ∧ Drawn0 w w' := by
 have H : (impl_IsName.l0 k a0 (a0.size : Int) 0) = some r := h
 clear h
 have H' := am H
 clear H
 go_enter Tryd.func42, Tryd.ntmps42
 go_wp2
 go_loopg [7] k (fun kq v7 w' => ∃ (x7_1 : Int), v7 = .int .i64 x7_1 ∧ Aside0 (impl_IsName.l0 kq a0 (a0.size : Int) x7_1 = some r) ∧ Aside0 (kq ≤ k) ∧ Drawn0 w w')
 case atStart => exact ⟨(0), (by first | rfl | (simp; done) | (simp [*]; done)), H', ⟨Nat.le_refl _⟩, s2_3⟩
 case round =>
  clear H'
  obtain ⟨x7_1, rfl, HA, HK1, ⟨m1, rfl⟩⟩ := hrel
  cases gk with
  | zero => exact absurd HA.out (by simp [impl_IsName.l0])
  | succ k1 =>
   have H := HA.out
   clear HA
   simp only [impl_IsName.l0] at H
   by_cases c2 : x7_1 < (a0.size : Int)
   ·rw [if_pos c2] at H
    have c2b0 : decide (x7_1 < (a0.size : Int)) = true := decide_eq_true c2
    clear c2
    by_cases c3 : 0 ≤ x7_1
    ·rw [if_pos c3] at H
     have c3b0 : decide (0 ≤ x7_1) = true := decide_eq_true c3
     clear c3
     by_cases c4 : x7_1 < (a0.size : Int)
     ·rw [if_pos c4] at H
      have c4b0 : decide (x7_1 < (a0.size : Int)) = true := decide_eq_true c4
      clear c4
      by_cases c6 : (bt a0 x7_1) ≥ 97
      ·rw [if_pos c6] at H
       have c6b0 : decide (97 ≤ (bt a0 x7_1)) = true := decide_eq_true c6
       clear c6
       by_cases c8 : ((bt a0 x7_1) ≤ 122)
       ·rw [if_pos c8] at H
        have c8b0 : decide ((bt a0 x7_1) ≤ 122) = true := decide_eq_true c8
        clear c8
        have H' := am H
        clear H
        have p5 : 0 ≤ (x7_1 : Int) := od v2_0
        have q5 : x7_1 < (a0.size : Int) := od v2_0
        have hx5 := bt_at a0 x7_1
        replace p5 := eq_true p5
        replace q5 := eq_true q5
        have p7 : 0 ≤ (x7_1 : Int) := od v2_0
        have q7 : x7_1 < (a0.size : Int) := od v2_0
        have hx7 := bt_at a0 x7_1
        replace p7 := eq_true p7
        replace q7 := eq_true q7
        go_wp2
        go_roundg k1
        case measure => have := HK1.out; omega
        case rel => exact ⟨(wrap64 (x7_1 + 1)), (by first | rfl | (simp; done) | (simp [*]; done)), H', ⟨by have := HK1.out; omega⟩, s2_3⟩
       ·rw [if_neg c8] at H
        have c8b0 : decide ((bt a0 x7_1) ≤ 122) = false := decide_eq_false c8
        clear c8
        by_cases c9 : x7_1 = 0
        ·rw [if_pos c9] at H
         have c9b0 : (x7_1 == 0) = true := beq_iff_eq.mpr c9
         have c9b1 : (x7_1 != 0) = false := bne_eq_false_iff_eq.mpr c9
         clear c9
         obtain rfl := oi H
         have p5 : 0 ≤ (x7_1 : Int) := od v2_0
         have q5 : x7_1 < (a0.size : Int) := od v2_0
         have hx5 := bt_at a0 x7_1
         replace p5 := eq_true p5
         replace q5 := eq_true q5
         have p7 : 0 ≤ (x7_1 : Int) := od v2_0
         have q7 : x7_1 < (a0.size : Int) := od v2_0
         have hx7 := bt_at a0 x7_1
         replace p7 := eq_true p7
         replace q7 := eq_true q7
         go_wp2
         go_ret
         exact ⟨by first | rfl | (simp; done) | (simp [*]; done), s2_3⟩
        ·rw [if_neg c9] at H
         have c9b0 : (x7_1 == 0) = false := beq_eq_false_iff_ne.mpr c9
         have c9b1 : (x7_1 != 0) = true := bne_iff_ne.mpr c9
         by_cases c11 : (bt a0 x7_1) < 48
         ·rw [if_pos c11] at H
          have c11b0 : decide ((bt a0 x7_1) < 48) = true := decide_eq_true c11
          clear c11
          obtain rfl := oi H
          have p5 : 0 ≤ (x7_1 : Int) := od v2_0
          have q5 : x7_1 < (a0.size : Int) := od v2_0
          have hx5 := bt_at a0 x7_1
          replace p5 := eq_true p5
          replace q5 := eq_true q5
          have p7 : 0 ≤ (x7_1 : Int) := od v2_0
          have q7 : x7_1 < (a0.size : Int) := od v2_0
          have hx7 := bt_at a0 x7_1
          replace p7 := eq_true p7
          replace q7 := eq_true q7
          have p10 : 0 ≤ (x7_1 : Int) := od v2_0
          have q10 : x7_1 < (a0.size : Int) := od v2_0
          have hx10 := bt_at a0 x7_1
          replace p10 := eq_true p10
          replace q10 := eq_true q10
          go_wp2
          go_ret
          exact ⟨by first | rfl | (simp; done) | (simp [*]; done), s2_3⟩
         ·rw [if_neg c11] at H
          have c11b0 : decide ((bt a0 x7_1) < 48) = false := decide_eq_false c11
          clear c11
          by_cases c13 : (bt a0 x7_1) > 57
          ·rw [if_pos c13] at H
           have c13b0 : decide (57 < (bt a0 x7_1)) = true := decide_eq_true c13
           clear c13
           obtain rfl := oi H
           have p5 : 0 ≤ (x7_1 : Int) := od v2_0
           have q5 : x7_1 < (a0.size : Int) := od v2_0
           have hx5 := bt_at a0 x7_1
           replace p5 := eq_true p5
           replace q5 := eq_true q5
           have p7 : 0 ≤ (x7_1 : Int) := od v2_0
           have q7 : x7_1 < (a0.size : Int) := od v2_0
           have hx7 := bt_at a0 x7_1
           replace p7 := eq_true p7
           replace q7 := eq_true q7
           have p10 : 0 ≤ (x7_1 : Int) := od v2_0
           have q10 : x7_1 < (a0.size : Int) := od v2_0
           have hx10 := bt_at a0 x7_1
           replace p10 := eq_true p10
           replace q10 := eq_true q10
           have p12 : 0 ≤ (x7_1 : Int) := od v2_0
           have q12 : x7_1 < (a0.size : Int) := od v2_0
           have hx12 := bt_at a0 x7_1
           replace p12 := eq_true p12
           replace q12 := eq_true q12
           go_wp2
           go_ret
           exact ⟨by first | rfl | (simp; done) | (simp [*]; done), s2_3⟩
          ·rw [if_neg c13] at H
           have c13b0 : decide (57 < (bt a0 x7_1)) = false := decide_eq_false c13
           clear c13
           have H' := am H
           clear H
           have p5 : 0 ≤ (x7_1 : Int) := od v2_0
           have q5 : x7_1 < (a0.size : Int) := od v2_0
           have hx5 := bt_at a0 x7_1
           replace p5 := eq_true p5
           replace q5 := eq_true q5
           have p7 : 0 ≤ (x7_1 : Int) := od v2_0
           have q7 : x7_1 < (a0.size : Int) := od v2_0
           have hx7 := bt_at a0 x7_1
           replace p7 := eq_true p7
           replace q7 := eq_true q7
           have p10 : 0 ≤ (x7_1 : Int) := od v2_0
           have q10 : x7_1 < (a0.size : Int) := od v2_0
           have hx10 := bt_at a0 x7_1
           replace p10 := eq_true p10
           replace q10 := eq_true q10
           have p12 : 0 ≤ (x7_1 : Int) := od v2_0
           have q12 : x7_1 < (a0.size : Int) := od v2_0
           have hx12 := bt_at a0 x7_1
           replace p12 := eq_true p12
           replace q12 := eq_true q12
           go_wp2
           go_roundg k1
           case measure => have := HK1.out; omega
           case rel => exact ⟨(wrap64 (x7_1 + 1)), (by first | rfl | (simp; done) | (simp [*]; done)), H', ⟨by have := HK1.out; omega⟩, s2_3⟩
      ·rw [if_neg c6] at H
       have c6b0 : decide (97 ≤ (bt a0 x7_1)) = false := decide_eq_false c6
       clear c6
       by_cases c14 : x7_1 = 0
       ·rw [if_pos c14] at H
        have c14b0 : (x7_1 == 0) = true := beq_iff_eq.mpr c14
        have c14b1 : (x7_1 != 0) = false := bne_eq_false_iff_eq.mpr c14
        clear c14
        obtain rfl := oi H
        have p5 : 0 ≤ (x7_1 : Int) := od v2_0
        have q5 : x7_1 < (a0.size : Int) := od v2_0
        have hx5 := bt_at a0 x7_1
        replace p5 := eq_true p5
        replace q5 := eq_true q5
        go_wp2
        go_ret
        exact ⟨by first | rfl | (simp; done) | (simp [*]; done), s2_3⟩
       ·rw [if_neg c14] at H
        have c14b0 : (x7_1 == 0) = false := beq_eq_false_iff_ne.mpr c14
        have c14b1 : (x7_1 != 0) = true := bne_iff_ne.mpr c14
        by_cases c16 : (bt a0 x7_1) < 48
        ·rw [if_pos c16] at H
         have c16b0 : decide ((bt a0 x7_1) < 48) = true := decide_eq_true c16
         clear c16
         obtain rfl := oi H
         have p5 : 0 ≤ (x7_1 : Int) := od v2_0
         have q5 : x7_1 < (a0.size : Int) := od v2_0
         have hx5 := bt_at a0 x7_1
         replace p5 := eq_true p5
         replace q5 := eq_true q5
         have p15 : 0 ≤ (x7_1 : Int) := od v2_0
         have q15 : x7_1 < (a0.size : Int) := od v2_0
         have hx15 := bt_at a0 x7_1
         replace p15 := eq_true p15
         replace q15 := eq_true q15
         go_wp2
         go_ret
         exact ⟨by first | rfl | (simp; done) | (simp [*]; done), s2_3⟩
        ·rw [if_neg c16] at H
         have c16b0 : decide ((bt a0 x7_1) < 48) = false := decide_eq_false c16
         clear c16
         by_cases c18 : (bt a0 x7_1) > 57
         ·rw [if_pos c18] at H
          have c18b0 : decide (57 < (bt a0 x7_1)) = true := decide_eq_true c18
          clear c18
          obtain rfl := oi H
          have p5 : 0 ≤ (x7_1 : Int) := od v2_0
          have q5 : x7_1 < (a0.size : Int) := od v2_0
          have hx5 := bt_at a0 x7_1
          replace p5 := eq_true p5
          replace q5 := eq_true q5
          have p15 : 0 ≤ (x7_1 : Int) := od v2_0
          have q15 : x7_1 < (a0.size : Int) := od v2_0
          have hx15 := bt_at a0 x7_1
          replace p15 := eq_true p15
          replace q15 := eq_true q15
          have p17 : 0 ≤ (x7_1 : Int) := od v2_0
          have q17 : x7_1 < (a0.size : Int) := od v2_0
          have hx17 := bt_at a0 x7_1
          replace p17 := eq_true p17
          replace q17 := eq_true q17
          go_wp2
          go_ret
          exact ⟨by first | rfl | (simp; done) | (simp [*]; done), s2_3⟩
         ·rw [if_neg c18] at H
          have c18b0 : decide (57 < (bt a0 x7_1)) = false := decide_eq_false c18
          clear c18
          have H' := am H
          clear H
          have p5 : 0 ≤ (x7_1 : Int) := od v2_0
          have q5 : x7_1 < (a0.size : Int) := od v2_0
          have hx5 := bt_at a0 x7_1
          replace p5 := eq_true p5
          replace q5 := eq_true q5
          have p15 : 0 ≤ (x7_1 : Int) := od v2_0
          have q15 : x7_1 < (a0.size : Int) := od v2_0
          have hx15 := bt_at a0 x7_1
          replace p15 := eq_true p15
          replace q15 := eq_true q15
          have p17 : 0 ≤ (x7_1 : Int) := od v2_0
          have q17 : x7_1 < (a0.size : Int) := od v2_0
          have hx17 := bt_at a0 x7_1
          replace p17 := eq_true p17
          replace q17 := eq_true q17
          go_wp2
          go_roundg k1
          case measure => have := HK1.out; omega
          case rel => exact ⟨(wrap64 (x7_1 + 1)), (by first | rfl | (simp; done) | (simp [*]; done)), H', ⟨by have := HK1.out; omega⟩, s2_3⟩
     ·rw [if_neg c4] at H
      exact absurd H (by simp)
    ·rw [if_neg c3] at H
     exact absurd H (by simp)
   ·rw [if_neg c2] at H
    have c2b0 : decide (x7_1 < (a0.size : Int)) = false := decide_eq_false c2
    clear c2
    replace H := ob H
    obtain ⟨t101, A190, H⟩ := H
    replace H : (some t101) = some r := H
    have A19 := am A190
    clear A190
    obtain rfl := oi H
    go_wp2_with (first | ((with_reducible refine gate_callee (f := 41) rfl ?_); refine goesL_ (some 41) rfl rfl Tryd.func41 (by kernel_rfl) rfl #[.int .i64 (a0.size : Int), .int .i64 1, .int .i64 8] rfl u2_2 ?_; (with_reducible refine (impl_isWithin.calls (a0.size : Int) 1 8 t101 _ A19.out).mono ?_); rintro e w' ⟨rfl, ⟨nd, rfl⟩⟩; refine ⟨_, rfl, ?_⟩))
    go_ret
    exact ⟨by first | rfl | (simp; done) | (simp [*]; done), s2_3⟩

/-! ### impl_isSupply: function 55 -/
def impl_isSupply.f (a0 : Int) : Option (Bool) := (impl_isWithin.f a0 0 512).bind fun t102 => (some t102)
theorem impl_isSupply.calls (a0 : Int) (r : Bool) (w : World) (h : impl_isSupply.f a0 = some r) :
  Calls Tryd.prog 55 #[.int .i64 a0] w fun e w' => e = .returned (.bool r) ∧ Drawn0 w w' := by
 have H : ((impl_isWithin.f a0 0 512).bind fun t102 => (some t102)) = some r := h
 clear h
 replace H := ob H
 obtain ⟨t102, A20, H⟩ := H
 replace H : (some t102) = some r := H
 have A2 := am A20
 clear A20
 obtain rfl := oi H
 go_enter Tryd.func55, Tryd.ntmps55
 go_wp2_with (first | ((with_reducible refine gate_callee (f := 41) rfl ?_); refine goesL_ (some 4) rfl rfl Tryd.func41 (by kernel_rfl) rfl #[.int .i64 a0, .int .i64 0, .int .i64 512] rfl u2_2 ?_; (with_reducible refine (impl_isWithin.calls a0 0 512 t102 _ A2.out).mono ?_); rintro e w' ⟨rfl, ⟨nd, rfl⟩⟩; refine ⟨_, rfl, ?_⟩))
 go_ret
 exact ⟨by first | rfl | (simp; done) | (simp [*]; done), s2_3⟩

/-! ### impl_IsHeading: function 88 -/
def impl_IsHeading.f (a0 : Int) : Option (Bool) := (impl_isWithin.f a0 0 3).bind fun t103 => (some t103)
theorem impl_IsHeading.calls (a0 : Int) (r : Bool) (w : World) (h : impl_IsHeading.f a0 = some r) :
  Calls Tryd.prog 88 #[.int .i64 a0] w fun e w' => e = .returned (.bool r) ∧ Drawn0 w w' := by
 have H : ((impl_isWithin.f a0 0 3).bind fun t103 => (some t103)) = some r := h
 clear h
 replace H := ob H
 obtain ⟨t103, A20, H⟩ := H
 replace H : (some t103) = some r := H
 have A2 := am A20
 clear A20
 obtain rfl := oi H
 go_enter Tryd.func88, Tryd.ntmps88
 go_wp2_with (first | ((with_reducible refine gate_callee (f := 41) rfl ?_); refine goesL_ (some 4) rfl rfl Tryd.func41 (by kernel_rfl) rfl #[.int .i64 a0, .int .i64 0, .int .i64 3] rfl u2_2 ?_; (with_reducible refine (impl_isWithin.calls a0 0 3 t103 _ A2.out).mono ?_); rintro e w' ⟨rfl, ⟨nd, rfl⟩⟩; refine ⟨_, rfl, ?_⟩))
 go_ret
 exact ⟨by first | rfl | (simp; done) | (simp [*]; done), s2_3⟩

/-! ### impl_IsJet: function 56 -/
def impl_IsJet.f (a0_0 : Int) (a0_1 : Int) (a0_2 : Int) (a0_3 : Int) (a0_4 : Int) : Option (Bool) := (impl_isWithin.f a0_0 (-1024) 1024).bind fun t105 => (if t105 = true then ((impl_isWithin.f a0_1 (-1024) 1024).bind fun t106 => (if t106 = true then ((impl_IsHeading.f a0_2).bind fun t107 => (if t107 = true then ((impl_isWithin.f a0_3 0 16).bind fun t108 => (if t108 = true then ((impl_isWithin.f a0_4 1 32).bind fun t109 => (some t109)) else (some false))) else (some false))) else (some false))) else (some false))
theorem impl_IsJet.calls (a0_0 : Int) (a0_1 : Int) (a0_2 : Int) (a0_3 : Int) (a0_4 : Int) (r : Bool) (w : World) (h : impl_IsJet.f a0_0 a0_1 a0_2 a0_3 a0_4 = some r) :
  Calls Tryd.prog 56 #[.agg #[.int .i64 a0_0, .int .i64 a0_1, .int .i64 a0_2, .int .i64 a0_3, .int .i64 a0_4]] w fun e w' => e = .returned (.bool r) ∧ Below w.heap.size w w' := by
 have hu79 := Tryd.underlying79
 have HB := am (Below.refl w.heap.size w)
 have H : ((impl_isWithin.f a0_0 (-1024) 1024).bind fun t105 => (if t105 = true then ((impl_isWithin.f a0_1 (-1024) 1024).bind fun t106 => (if t106 = true then ((impl_IsHeading.f a0_2).bind fun t107 => (if t107 = true then ((impl_isWithin.f a0_3 0 16).bind fun t108 => (if t108 = true then ((impl_isWithin.f a0_4 1 32).bind fun t109 => (some t109)) else (some false))) else (some false))) else (some false))) else (some false))) = some r := h
 clear h
 replace H := ob H
 obtain ⟨t105, A20, H⟩ := H
 replace H : (if t105 = true then ((impl_isWithin.f a0_1 (-1024) 1024).bind fun t106 => (if t106 = true then ((impl_IsHeading.f a0_2).bind fun t107 => (if t107 = true then ((impl_isWithin.f a0_3 0 16).bind fun t108 => (if t108 = true then ((impl_isWithin.f a0_4 1 32).bind fun t109 => (some t109)) else (some false))) else (some false))) else (some false))) else (some false)) = some r := H
 have A2 := am A20
 clear A20
 by_cases c3 : t105 = true
 ·subst c3
  have H1 : ((impl_isWithin.f a0_1 (-1024) 1024).bind fun t106 => (if t106 = true then ((impl_IsHeading.f a0_2).bind fun t107 => (if t107 = true then ((impl_isWithin.f a0_3 0 16).bind fun t108 => (if t108 = true then ((impl_isWithin.f a0_4 1 32).bind fun t109 => (some t109)) else (some false))) else (some false))) else (some false))) = some r := by rw [if_pos rfl] at H; exact H
  clear H
  have H := H1
  clear H1
  replace H := ob H
  obtain ⟨t106, A40, H⟩ := H
  replace H : (if t106 = true then ((impl_IsHeading.f a0_2).bind fun t107 => (if t107 = true then ((impl_isWithin.f a0_3 0 16).bind fun t108 => (if t108 = true then ((impl_isWithin.f a0_4 1 32).bind fun t109 => (some t109)) else (some false))) else (some false))) else (some false)) = some r := H
  have A4 := am A40
  clear A40
  by_cases c5 : t106 = true
  ·subst c5
   have H1 : ((impl_IsHeading.f a0_2).bind fun t107 => (if t107 = true then ((impl_isWithin.f a0_3 0 16).bind fun t108 => (if t108 = true then ((impl_isWithin.f a0_4 1 32).bind fun t109 => (some t109)) else (some false))) else (some false))) = some r := by rw [if_pos rfl] at H; exact H
   clear H
   have H := H1
   clear H1
   replace H := ob H
   obtain ⟨t107, A60, H⟩ := H
   replace H : (if t107 = true then ((impl_isWithin.f a0_3 0 16).bind fun t108 => (if t108 = true then ((impl_isWithin.f a0_4 1 32).bind fun t109 => (some t109)) else (some false))) else (some false)) = some r := H
   have A6 := am A60
   clear A60
   by_cases c7 : t107 = true
   ·subst c7
    have H1 : ((impl_isWithin.f a0_3 0 16).bind fun t108 => (if t108 = true then ((impl_isWithin.f a0_4 1 32).bind fun t109 => (some t109)) else (some false))) = some r := by rw [if_pos rfl] at H; exact H
    clear H
    have H := H1
    clear H1
    replace H := ob H
    obtain ⟨t108, A80, H⟩ := H
    replace H : (if t108 = true then ((impl_isWithin.f a0_4 1 32).bind fun t109 => (some t109)) else (some false)) = some r := H
    have A8 := am A80
    clear A80
    by_cases c9 : t108 = true
    ·subst c9
     have H1 : ((impl_isWithin.f a0_4 1 32).bind fun t109 => (some t109)) = some r := by rw [if_pos rfl] at H; exact H
     clear H
     have H := H1
     clear H1
     replace H := ob H
     obtain ⟨t109, A100, H⟩ := H
     replace H : (some t109) = some r := H
     have A10 := am A100
     clear A100
     obtain rfl := oi H
     go_enter Tryd.func56, Tryd.ntmps56
     go_wp2_with (first | ((with_reducible refine gate_dst (N := 1) rfl ?_); refine box_event ?hg (N := 1) ?hd (cs := #[.int .i64 a0_0, .int .i64 a0_1, .int .i64 a0_2, .int .i64 a0_3, .int .i64 a0_4]) (t := 79) ?hr ?_; (case hd => rfl); (case hg => rfl); (case hr => exact gq); intro gb104 hg w11 hbox hb; have n0_ := am (below_step u2_0 hb); have n1_ := am (hbox); have n2_ := bsw w hg (below_size u2_0); have n3_ := bsw w hg (below_size u2_0); clear HB; have HB := n0_; have BK104 := n1_; have GW104 := n2_; have GE104 := n3_; clear n0_ n1_ n2_ n3_ hb hbox hg; obtain ⟨hcz12_0, hcz12_1, hcz12_2, hcz12_3, hcz12_4, hfz12_0, hfz12_1, hfz12_2, hfz12_3, hfz12_4⟩ := cf5 BK104.out) | ((with_reducible refine gate_callee (f := 41) rfl ?_); refine goesL_ (some 6) rfl rfl Tryd.func41 (by kernel_rfl) rfl #[.int .i64 a0_0, .int .i64 (-1024), .int .i64 1024] rfl u2_2 ?_; (with_reducible refine (impl_isWithin.calls a0_0 (-1024) 1024 true _ A2.out).mono ?_); rintro e w' ⟨rfl, ⟨nd, rfl⟩⟩; refine ⟨_, rfl, ?_⟩) | (go_at_call 41; (with_reducible refine (impl_isWithin.calls a0_1 (-1024) 1024 true _ A4.out).mono ?_); rintro e w' ⟨rfl, ⟨nd, rfl⟩⟩) | (go_at_call 88; (with_reducible refine (impl_IsHeading.calls a0_2 true _ A6.out).mono ?_); rintro e w' ⟨rfl, ⟨nd, rfl⟩⟩) | (go_at_call 41; (with_reducible refine (impl_isWithin.calls a0_3 0 16 true _ A8.out).mono ?_); rintro e w' ⟨rfl, ⟨nd, rfl⟩⟩) | (go_at_call 41; (with_reducible refine (impl_isWithin.calls a0_4 1 32 t109 _ A10.out).mono ?_); rintro e w' ⟨rfl, ⟨nd, rfl⟩⟩))
     go_ret
     exact ⟨by first | rfl | (simp [*] <;> rfl), s2_0⟩
    ·replace c9 := Bool.eq_false_iff.mpr c9
     subst c9
     have H1 : (some false) = some r := by rw [if_neg (show ¬ (false = true) by decide)] at H; exact H
     clear H
     have H := H1
     clear H1
     obtain rfl := oi H
     go_enter Tryd.func56, Tryd.ntmps56
     go_wp2_with (first | ((with_reducible refine gate_dst (N := 1) rfl ?_); refine box_event ?hg (N := 1) ?hd (cs := #[.int .i64 a0_0, .int .i64 a0_1, .int .i64 a0_2, .int .i64 a0_3, .int .i64 a0_4]) (t := 79) ?hr ?_; (case hd => rfl); (case hg => rfl); (case hr => exact gq); intro gb104 hg w13 hbox hb; have n0_ := am (below_step u2_0 hb); have n1_ := am (hbox); have n2_ := bsw w hg (below_size u2_0); have n3_ := bsw w hg (below_size u2_0); clear HB; have HB := n0_; have BK104 := n1_; have GW104 := n2_; have GE104 := n3_; clear n0_ n1_ n2_ n3_ hb hbox hg; obtain ⟨hcz14_0, hcz14_1, hcz14_2, hcz14_3, hcz14_4, hfz14_0, hfz14_1, hfz14_2, hfz14_3, hfz14_4⟩ := cf5 BK104.out) | ((with_reducible refine gate_callee (f := 41) rfl ?_); refine goesL_ (some 6) rfl rfl Tryd.func41 (by kernel_rfl) rfl #[.int .i64 a0_0, .int .i64 (-1024), .int .i64 1024] rfl u2_2 ?_; (with_reducible refine (impl_isWithin.calls a0_0 (-1024) 1024 true _ A2.out).mono ?_); rintro e w' ⟨rfl, ⟨nd, rfl⟩⟩; refine ⟨_, rfl, ?_⟩) | (go_at_call 41; (with_reducible refine (impl_isWithin.calls a0_1 (-1024) 1024 true _ A4.out).mono ?_); rintro e w' ⟨rfl, ⟨nd, rfl⟩⟩) | (go_at_call 88; (with_reducible refine (impl_IsHeading.calls a0_2 true _ A6.out).mono ?_); rintro e w' ⟨rfl, ⟨nd, rfl⟩⟩) | (go_at_call 41; (with_reducible refine (impl_isWithin.calls a0_3 0 16 false _ A8.out).mono ?_); rintro e w' ⟨rfl, ⟨nd, rfl⟩⟩))
     go_ret
     exact ⟨by first | rfl | (simp [*] <;> rfl), s2_0⟩
   ·replace c7 := Bool.eq_false_iff.mpr c7
    subst c7
    have H1 : (some false) = some r := by rw [if_neg (show ¬ (false = true) by decide)] at H; exact H
    clear H
    have H := H1
    clear H1
    obtain rfl := oi H
    go_enter Tryd.func56, Tryd.ntmps56
    go_wp2_with (first | ((with_reducible refine gate_dst (N := 1) rfl ?_); refine box_event ?hg (N := 1) ?hd (cs := #[.int .i64 a0_0, .int .i64 a0_1, .int .i64 a0_2, .int .i64 a0_3, .int .i64 a0_4]) (t := 79) ?hr ?_; (case hd => rfl); (case hg => rfl); (case hr => exact gq); intro gb104 hg w15 hbox hb; have n0_ := am (below_step u2_0 hb); have n1_ := am (hbox); have n2_ := bsw w hg (below_size u2_0); have n3_ := bsw w hg (below_size u2_0); clear HB; have HB := n0_; have BK104 := n1_; have GW104 := n2_; have GE104 := n3_; clear n0_ n1_ n2_ n3_ hb hbox hg; obtain ⟨hcz16_0, hcz16_1, hcz16_2, hcz16_3, hcz16_4, hfz16_0, hfz16_1, hfz16_2, hfz16_3, hfz16_4⟩ := cf5 BK104.out) | ((with_reducible refine gate_callee (f := 41) rfl ?_); refine goesL_ (some 6) rfl rfl Tryd.func41 (by kernel_rfl) rfl #[.int .i64 a0_0, .int .i64 (-1024), .int .i64 1024] rfl u2_2 ?_; (with_reducible refine (impl_isWithin.calls a0_0 (-1024) 1024 true _ A2.out).mono ?_); rintro e w' ⟨rfl, ⟨nd, rfl⟩⟩; refine ⟨_, rfl, ?_⟩) | (go_at_call 41; (with_reducible refine (impl_isWithin.calls a0_1 (-1024) 1024 true _ A4.out).mono ?_); rintro e w' ⟨rfl, ⟨nd, rfl⟩⟩) | (go_at_call 88; (with_reducible refine (impl_IsHeading.calls a0_2 false _ A6.out).mono ?_); rintro e w' ⟨rfl, ⟨nd, rfl⟩⟩))
    go_ret
    exact ⟨by first | rfl | (simp [*] <;> rfl), s2_0⟩
  ·replace c5 := Bool.eq_false_iff.mpr c5
   subst c5
   have H1 : (some false) = some r := by rw [if_neg (show ¬ (false = true) by decide)] at H; exact H
   clear H
   have H := H1
   clear H1
   obtain rfl := oi H
   go_enter Tryd.func56, Tryd.ntmps56
   go_wp2_with (first | ((with_reducible refine gate_dst (N := 1) rfl ?_); refine box_event ?hg (N := 1) ?hd (cs := #[.int .i64 a0_0, .int .i64 a0_1, .int .i64 a0_2, .int .i64 a0_3, .int .i64 a0_4]) (t := 79) ?hr ?_; (case hd => rfl); (case hg => rfl); (case hr => exact gq); intro gb104 hg w17 hbox hb; have n0_ := am (below_step u2_0 hb); have n1_ := am (hbox); have n2_ := bsw w hg (below_size u2_0); have n3_ := bsw w hg (below_size u2_0); clear HB; have HB := n0_; have BK104 := n1_; have GW104 := n2_; have GE104 := n3_; clear n0_ n1_ n2_ n3_ hb hbox hg; obtain ⟨hcz18_0, hcz18_1, hcz18_2, hcz18_3, hcz18_4, hfz18_0, hfz18_1, hfz18_2, hfz18_3, hfz18_4⟩ := cf5 BK104.out) | ((with_reducible refine gate_callee (f := 41) rfl ?_); refine goesL_ (some 6) rfl rfl Tryd.func41 (by kernel_rfl) rfl #[.int .i64 a0_0, .int .i64 (-1024), .int .i64 1024] rfl u2_2 ?_; (with_reducible refine (impl_isWithin.calls a0_0 (-1024) 1024 true _ A2.out).mono ?_); rintro e w' ⟨rfl, ⟨nd, rfl⟩⟩; refine ⟨_, rfl, ?_⟩) | (go_at_call 41; (with_reducible refine (impl_isWithin.calls a0_1 (-1024) 1024 false _ A4.out).mono ?_); rintro e w' ⟨rfl, ⟨nd, rfl⟩⟩))
   go_ret
   exact ⟨by first | rfl | (simp [*] <;> rfl), s2_0⟩
 ·replace c3 := Bool.eq_false_iff.mpr c3
  subst c3
  have H1 : (some false) = some r := by rw [if_neg (show ¬ (false = true) by decide)] at H; exact H
  clear H
  have H := H1
  clear H1
  obtain rfl := oi H
  go_enter Tryd.func56, Tryd.ntmps56
  go_wp2_with (first | ((with_reducible refine gate_dst (N := 1) rfl ?_); refine box_event ?hg (N := 1) ?hd (cs := #[.int .i64 a0_0, .int .i64 a0_1, .int .i64 a0_2, .int .i64 a0_3, .int .i64 a0_4]) (t := 79) ?hr ?_; (case hd => rfl); (case hg => rfl); (case hr => exact gq); intro gb104 hg w19 hbox hb; have n0_ := am (below_step u2_1 hb); have n1_ := am (hbox); have n2_ := bsw w hg (below_size u2_1); have n3_ := bsw w hg (below_size u2_1); clear HB; have HB := n0_; have BK104 := n1_; have GW104 := n2_; have GE104 := n3_; clear n0_ n1_ n2_ n3_ hb hbox hg; obtain ⟨hcz20_0, hcz20_1, hcz20_2, hcz20_3, hcz20_4, hfz20_0, hfz20_1, hfz20_2, hfz20_3, hfz20_4⟩ := cf5 BK104.out) | ((with_reducible refine gate_callee (f := 41) rfl ?_); refine goesL_ (some 6) rfl rfl Tryd.func41 (by kernel_rfl) rfl #[.int .i64 a0_0, .int .i64 (-1024), .int .i64 1024] rfl u2_2 ?_; (with_reducible refine (impl_isWithin.calls a0_0 (-1024) 1024 false _ A2.out).mono ?_); rintro e w' ⟨rfl, ⟨nd, rfl⟩⟩; refine ⟨_, rfl, ?_⟩))
  go_ret
  exact ⟨by first | rfl | (simp [*] <;> rfl), s2_0⟩

/-! ### impl_IsMeasure: function 77 -/
def impl_IsMeasure.f (a0 : Int) : Option (Bool) := (impl_isWithin.f a0 (-4096) 4096).bind fun t110 => (some t110)
theorem impl_IsMeasure.calls (a0 : Int) (r : Bool) (w : World) (h : impl_IsMeasure.f a0 = some r) :
  Calls Tryd.prog 77 #[.int .i64 a0] w fun e w' => e = .returned (.bool r) ∧ Drawn0 w w' := by
 have H : ((impl_isWithin.f a0 (-4096) 4096).bind fun t110 => (some t110)) = some r := h
 clear h
 replace H := ob H
 obtain ⟨t110, A20, H⟩ := H
 replace H : (some t110) = some r := H
 have A2 := am A20
 clear A20
 obtain rfl := oi H
 go_enter Tryd.func77, Tryd.ntmps77
 go_wp2_with (first | ((with_reducible refine gate_callee (f := 41) rfl ?_); refine goesL_ (some 4) rfl rfl Tryd.func41 (by kernel_rfl) rfl #[.int .i64 a0, .int .i64 (-4096), .int .i64 4096] rfl u2_2 ?_; (with_reducible refine (impl_isWithin.calls a0 (-4096) 4096 t110 _ A2.out).mono ?_); rintro e w' ⟨rfl, ⟨nd, rfl⟩⟩; refine ⟨_, rfl, ?_⟩))
 go_ret
 exact ⟨by first | rfl | (simp; done) | (simp [*]; done), s2_3⟩

/-! ### impl_IsPlace: function 57 -/
def impl_IsPlace.f (a0_0 : Int) (a0_1 : Int) : Option (Bool) := (impl_IsMeasure.f a0_0).bind fun t112 => (if t112 = true then ((impl_IsMeasure.f a0_1).bind fun t113 => (some t113)) else (some false))
theorem impl_IsPlace.calls (a0_0 : Int) (a0_1 : Int) (r : Bool) (w : World) (h : impl_IsPlace.f a0_0 a0_1 = some r) :
  Calls Tryd.prog 57 #[.agg #[.int .i64 a0_0, .int .i64 a0_1]] w fun e w' => e = .returned (.bool r) ∧ Below w.heap.size w w' := by
 have hu36 := Tryd.underlying36
 have HB := am (Below.refl w.heap.size w)
 have H : ((impl_IsMeasure.f a0_0).bind fun t112 => (if t112 = true then ((impl_IsMeasure.f a0_1).bind fun t113 => (some t113)) else (some false))) = some r := h
 clear h
 replace H := ob H
 obtain ⟨t112, A20, H⟩ := H
 replace H : (if t112 = true then ((impl_IsMeasure.f a0_1).bind fun t113 => (some t113)) else (some false)) = some r := H
 have A2 := am A20
 clear A20
 by_cases c3 : t112 = true
 ·subst c3
  have H1 : ((impl_IsMeasure.f a0_1).bind fun t113 => (some t113)) = some r := by rw [if_pos rfl] at H; exact H
  clear H
  have H := H1
  clear H1
  replace H := ob H
  obtain ⟨t113, A40, H⟩ := H
  replace H : (some t113) = some r := H
  have A4 := am A40
  clear A40
  obtain rfl := oi H
  go_enter Tryd.func57, Tryd.ntmps57
  go_wp2_with (first | ((with_reducible refine gate_dst (N := 1) rfl ?_); refine box_event ?hg (N := 1) ?hd (cs := #[.int .i64 a0_0, .int .i64 a0_1]) (t := 36) ?hr ?_; (case hd => rfl); (case hg => rfl); (case hr => exact gq); intro gb111 hg w5 hbox hb; have n0_ := am (below_step u2_0 hb); have n1_ := am (hbox); have n2_ := bsw w hg (below_size u2_0); have n3_ := bsw w hg (below_size u2_0); clear HB; have HB := n0_; have BK111 := n1_; have GW111 := n2_; have GE111 := n3_; clear n0_ n1_ n2_ n3_ hb hbox hg; obtain ⟨hcz6_0, hcz6_1, hfz6_0, hfz6_1⟩ := cf2 BK111.out) | ((with_reducible refine gate_callee (f := 77) rfl ?_); refine goesL_ (some 5) rfl rfl Tryd.func77 (by kernel_rfl) rfl #[.int .i64 a0_0] rfl u2_2 ?_; (with_reducible refine (impl_IsMeasure.calls a0_0 true _ A2.out).mono ?_); rintro e w' ⟨rfl, ⟨nd, rfl⟩⟩; refine ⟨_, rfl, ?_⟩) | (go_at_call 77; (with_reducible refine (impl_IsMeasure.calls a0_1 t113 _ A4.out).mono ?_); rintro e w' ⟨rfl, ⟨nd, rfl⟩⟩))
  go_ret
  exact ⟨by first | rfl | (simp [*] <;> rfl), s2_1⟩
 ·replace c3 := Bool.eq_false_iff.mpr c3
  subst c3
  have H1 : (some false) = some r := by rw [if_neg (show ¬ (false = true) by decide)] at H; exact H
  clear H
  have H := H1
  clear H1
  obtain rfl := oi H
  go_enter Tryd.func57, Tryd.ntmps57
  go_wp2_with (first | ((with_reducible refine gate_dst (N := 1) rfl ?_); refine box_event ?hg (N := 1) ?hd (cs := #[.int .i64 a0_0, .int .i64 a0_1]) (t := 36) ?hr ?_; (case hd => rfl); (case hg => rfl); (case hr => exact gq); intro gb111 hg w7 hbox hb; have n0_ := am (below_step u2_1 hb); have n1_ := am (hbox); have n2_ := bsw w hg (below_size u2_1); have n3_ := bsw w hg (below_size u2_1); clear HB; have HB := n0_; have BK111 := n1_; have GW111 := n2_; have GE111 := n3_; clear n0_ n1_ n2_ n3_ hb hbox hg; obtain ⟨hcz8_0, hcz8_1, hfz8_0, hfz8_1⟩ := cf2 BK111.out) | ((with_reducible refine gate_callee (f := 77) rfl ?_); refine goesL_ (some 5) rfl rfl Tryd.func77 (by kernel_rfl) rfl #[.int .i64 a0_0] rfl u2_2 ?_; (with_reducible refine (impl_IsMeasure.calls a0_0 false _ A2.out).mono ?_); rintro e w' ⟨rfl, ⟨nd, rfl⟩⟩; refine ⟨_, rfl, ?_⟩))
  go_ret
  exact ⟨by first | rfl | (simp [*] <;> rfl), s2_1⟩

/-! ### impl_IsDevice: function 21 -/
def impl_IsDevice.f (k : Nat) (a0_0 : ByteArray) (a0_1 : Int) (a0_2 : ByteArray) (a0_3 : Int) (a0_4 : Int) (a0_5 : Int) (a0_6 : Int) (a0_7 : Int) : Option (Bool) := (impl_IsName.f k a0_0).bind fun t115 => (if t115 = true then (if a0_1 = 1 then (if (a0_2.toList == ([] : List UInt8) && ((a0_3 == 0 && (a0_4 == 0)) && (a0_5 == 0 && (a0_6 == 0)))) = true then ((impl_isSupply.f a0_7).bind fun t116 => (some t116)) else (some false)) else (if a0_1 = 2 then ((impl_IsName.f k a0_2).bind fun t117 => (if t117 = true then (if a0_2.toList = a0_0.toList then (some false) else ((impl_IsJet.f a0_3 a0_4 a0_5 a0_6 1).bind fun t118 => (if t118 = true then ((impl_isWithin.f a0_7 0 32).bind fun t119 => (some t119)) else (some false)))) else (some false))) else (if a0_1 = 3 then (if (a0_5 == 0 && (a0_6 == 0 && (a0_7 == 0))) = true then ((impl_IsName.f k a0_2).bind fun t120 => (if t120 = true then (if a0_2.toList = a0_0.toList then (some false) else ((impl_IsPlace.f a0_3 a0_4).bind fun t121 => (some t121))) else (some false))) else (some false)) else (some false)))) else (some false))
theorem impl_IsDevice.mono : ∀ a0 a1 a2 a3 a4 a5 a6 a7 k, LeO (impl_IsDevice.f k a0 a1 a2 a3 a4 a5 a6 a7) (impl_IsDevice.f (k + 1) a0 a1 a2 a3 a4 a5 a6 a7) := by
 intro a0 a1 a2 a3 a4 a5 a6 a7 k
 unfold impl_IsDevice.f
 repeat' first
   | (with_reducible exact impl_IsName.mono _ _)
   | (with_reducible exact LeO.refl _)
   | (with_reducible exact LeO.none _)
   | (with_reducible refine LeO.ite ?_ ?_)
   | (with_reducible refine LeO.bind ?_ (fun _ => ?_))
theorem impl_IsDevice.calls (k : Nat) (a0_0 : ByteArray) (a0_1 : Int) (a0_2 : ByteArray) (a0_3 : Int) (a0_4 : Int) (a0_5 : Int) (a0_6 : Int) (a0_7 : Int) (r : Bool) (w : World) (h : impl_IsDevice.f k a0_0 a0_1 a0_2 a0_3 a0_4 a0_5 a0_6 a0_7 = some r) :
  Calls Tryd.prog 21 #[.agg #[.string a0_0, .int .i64 a0_1, .string a0_2, .int .i64 a0_3, .int .i64 a0_4, .int .i64 a0_5, .int .i64 a0_6, .int .i64 a0_7]] w fun e w' => e = .returned (.bool r) ∧ Below w.heap.size w w' := by
 have hu38 := Tryd.underlying38
 have hu36 := Tryd.underlying36
 have hu79 := Tryd.underlying79
 have HB := am (Below.refl w.heap.size w)
 have H : ((impl_IsName.f k a0_0).bind fun t115 => (if t115 = true then (if a0_1 = 1 then (if (a0_2.toList == ([] : List UInt8) && ((a0_3 == 0 && (a0_4 == 0)) && (a0_5 == 0 && (a0_6 == 0)))) = true then ((impl_isSupply.f a0_7).bind fun t116 => (some t116)) else (some false)) else (if a0_1 = 2 then ((impl_IsName.f k a0_2).bind fun t117 => (if t117 = true then (if a0_2.toList = a0_0.toList then (some false) else ((impl_IsJet.f a0_3 a0_4 a0_5 a0_6 1).bind fun t118 => (if t118 = true then ((impl_isWithin.f a0_7 0 32).bind fun t119 => (some t119)) else (some false)))) else (some false))) else (if a0_1 = 3 then (if (a0_5 == 0 && (a0_6 == 0 && (a0_7 == 0))) = true then ((impl_IsName.f k a0_2).bind fun t120 => (if t120 = true then (if a0_2.toList = a0_0.toList then (some false) else ((impl_IsPlace.f a0_3 a0_4).bind fun t121 => (some t121))) else (some false))) else (some false)) else (some false)))) else (some false))) = some r := h
 clear h
 replace H := ob H
 obtain ⟨t115, A20, H⟩ := H
 replace H : (if t115 = true then (if a0_1 = 1 then (if (a0_2.toList == ([] : List UInt8) && ((a0_3 == 0 && (a0_4 == 0)) && (a0_5 == 0 && (a0_6 == 0)))) = true then ((impl_isSupply.f a0_7).bind fun t116 => (some t116)) else (some false)) else (if a0_1 = 2 then ((impl_IsName.f k a0_2).bind fun t117 => (if t117 = true then (if a0_2.toList = a0_0.toList then (some false) else ((impl_IsJet.f a0_3 a0_4 a0_5 a0_6 1).bind fun t118 => (if t118 = true then ((impl_isWithin.f a0_7 0 32).bind fun t119 => (some t119)) else (some false)))) else (some false))) else (if a0_1 = 3 then (if (a0_5 == 0 && (a0_6 == 0 && (a0_7 == 0))) = true then ((impl_IsName.f k a0_2).bind fun t120 => (if t120 = true then (if a0_2.toList = a0_0.toList then (some false) else ((impl_IsPlace.f a0_3 a0_4).bind fun t121 => (some t121))) else (some false))) else (some false)) else (some false)))) else (some false)) = some r := H
 have A2 := am A20
 clear A20
 by_cases c3 : t115 = true
 ·subst c3
  have H1 : (if a0_1 = 1 then (if (a0_2.toList == ([] : List UInt8) && ((a0_3 == 0 && (a0_4 == 0)) && (a0_5 == 0 && (a0_6 == 0)))) = true then ((impl_isSupply.f a0_7).bind fun t116 => (some t116)) else (some false)) else (if a0_1 = 2 then ((impl_IsName.f k a0_2).bind fun t117 => (if t117 = true then (if a0_2.toList = a0_0.toList then (some false) else ((impl_IsJet.f a0_3 a0_4 a0_5 a0_6 1).bind fun t118 => (if t118 = true then ((impl_isWithin.f a0_7 0 32).bind fun t119 => (some t119)) else (some false)))) else (some false))) else (if a0_1 = 3 then (if (a0_5 == 0 && (a0_6 == 0 && (a0_7 == 0))) = true then ((impl_IsName.f k a0_2).bind fun t120 => (if t120 = true then (if a0_2.toList = a0_0.toList then (some false) else ((impl_IsPlace.f a0_3 a0_4).bind fun t121 => (some t121))) else (some false))) else (some false)) else (some false)))) = some r := by rw [if_pos rfl] at H; exact H
  clear H
  have H := H1
  clear H1
  by_cases c4 : a0_1 = 1
  ·rw [if_pos c4] at H
   have c4b0 : (a0_1 == 1) = true := beq_iff_eq.mpr c4
   have c4b1 : (a0_1 != 1) = false := bne_eq_false_iff_eq.mpr c4
   clear c4
   by_cases c5 : (a0_2.toList == ([] : List UInt8) && ((a0_3 == 0 && (a0_4 == 0)) && (a0_5 == 0 && (a0_6 == 0)))) = true
   ·rw [if_pos c5] at H
    have c5b0 : (a0_2.toList == ([] : List UInt8) && ((a0_3 == 0 && (a0_4 == 0)) && (a0_5 == 0 && (a0_6 == 0)))) = true := c5
    have c5e : (a0_2.toList.isEmpty && ((a0_3 == 0 && (a0_4 == 0)) && (a0_5 == 0 && (a0_6 == 0)))) = true := by have q := c5b0; rwa [show (a0_2.toList == ([] : List UInt8)) = a0_2.toList.isEmpty from by cases a0_2.toList <;> rfl] at q
    (try (have c5b1 : decide (a0_2.toList = ([] : List UInt8) && ((a0_3 == 0 && (a0_4 == 0)) && (a0_5 == 0 && (a0_6 == 0)))) = true := by simpa using c5))
    (try (have c5b2 : (a0_2.toList == ([] : List UInt8) && ((a0_3 == 0 && (a0_4 == 0)) && (a0_5 == 0 && (a0_6 == 0)))) = true := by simpa using c5))
    clear c5
    replace H := ob H
    obtain ⟨t116, A60, H⟩ := H
    replace H : (some t116) = some r := H
    have A6 := am A60
    clear A60
    obtain rfl := oi H
    go_enter Tryd.func21, Tryd.ntmps21
    go_wp2_with (first | ((with_reducible refine gate_dst (N := 1) rfl ?_); refine box_event ?hg (N := 1) ?hd (cs := #[.string a0_0, .int .i64 a0_1, .string a0_2, .int .i64 a0_3, .int .i64 a0_4, .int .i64 a0_5, .int .i64 a0_6, .int .i64 a0_7]) (t := 38) ?hr ?_; (case hd => rfl); (case hg => rfl); (case hr => exact gq); intro gb114 hg w7 hbox hb; have n0_ := am (below_step u2_0 hb); have n1_ := am (hbox); have n2_ := bsw w hg (below_size u2_0); have n3_ := bsw w hg (below_size u2_0); clear HB; have HB := n0_; have BK114 := n1_; have GW114 := n2_; have GE114 := n3_; clear n0_ n1_ n2_ n3_ hb hbox hg; obtain ⟨hcz8_0, hcz8_1, hcz8_2, hcz8_3, hcz8_4, hcz8_5, hcz8_6, hcz8_7, hfz8_0, hfz8_1, hfz8_2, hfz8_3, hfz8_4, hfz8_5, hfz8_6, hfz8_7⟩ := cf8 BK114.out) | ((with_reducible refine gate_callee (f := 42) rfl ?_); refine goesL_ (some 5) rfl rfl Tryd.func42 (by kernel_rfl) rfl #[.string a0_0] rfl u2_2 ?_; (with_reducible refine (impl_IsName.calls k a0_0 true _ A2.out).mono ?_); rintro e w' ⟨rfl, ⟨nd, rfl⟩⟩; refine ⟨_, rfl, ?_⟩) | (go_at_call 55; (with_reducible refine (impl_isSupply.calls a0_7 t116 _ A6.out).mono ?_); rintro e w' ⟨rfl, ⟨nd, rfl⟩⟩))
    go_ret
    exact ⟨by first | rfl | (simp [*] <;> rfl), s2_2⟩
   ·rw [if_neg c5] at H
    have c5b0 : (a0_2.toList == ([] : List UInt8) && ((a0_3 == 0 && (a0_4 == 0)) && (a0_5 == 0 && (a0_6 == 0)))) = false := by simpa using c5
    have c5e : (a0_2.toList.isEmpty && ((a0_3 == 0 && (a0_4 == 0)) && (a0_5 == 0 && (a0_6 == 0)))) = false := by have q := c5b0; rwa [show (a0_2.toList == ([] : List UInt8)) = a0_2.toList.isEmpty from by cases a0_2.toList <;> rfl] at q
    (try (have c5b1 : decide (a0_2.toList = ([] : List UInt8) && ((a0_3 == 0 && (a0_4 == 0)) && (a0_5 == 0 && (a0_6 == 0)))) = false := by simpa using c5))
    (try (have c5b2 : (a0_2.toList == ([] : List UInt8) && ((a0_3 == 0 && (a0_4 == 0)) && (a0_5 == 0 && (a0_6 == 0)))) = false := by simpa using c5))
    (try (have c5b3 : ¬ (a0_2.toList = ([] : List UInt8) && ((a0_3 == 0 && (a0_4 == 0)) && (a0_5 == 0 && (a0_6 == 0)))) := by simpa using c5))
    clear c5
    obtain rfl := oi H
    go_enter Tryd.func21, Tryd.ntmps21
    go_wp2_with (first | ((with_reducible refine gate_dst (N := 1) rfl ?_); refine box_event ?hg (N := 1) ?hd (cs := #[.string a0_0, .int .i64 a0_1, .string a0_2, .int .i64 a0_3, .int .i64 a0_4, .int .i64 a0_5, .int .i64 a0_6, .int .i64 a0_7]) (t := 38) ?hr ?_; (case hd => rfl); (case hg => rfl); (case hr => exact gq); intro gb114 hg w9 hbox hb; have n0_ := am (below_step u2_1 hb); have n1_ := am (hbox); have n2_ := bsw w hg (below_size u2_1); have n3_ := bsw w hg (below_size u2_1); clear HB; have HB := n0_; have BK114 := n1_; have GW114 := n2_; have GE114 := n3_; clear n0_ n1_ n2_ n3_ hb hbox hg; obtain ⟨hcz10_0, hcz10_1, hcz10_2, hcz10_3, hcz10_4, hcz10_5, hcz10_6, hcz10_7, hfz10_0, hfz10_1, hfz10_2, hfz10_3, hfz10_4, hfz10_5, hfz10_6, hfz10_7⟩ := cf8 BK114.out) | ((with_reducible refine gate_callee (f := 42) rfl ?_); refine goesL_ (some 5) rfl rfl Tryd.func42 (by kernel_rfl) rfl #[.string a0_0] rfl u2_2 ?_; (with_reducible refine (impl_IsName.calls k a0_0 true _ A2.out).mono ?_); rintro e w' ⟨rfl, ⟨nd, rfl⟩⟩; refine ⟨_, rfl, ?_⟩))
    go_ret
    exact ⟨by first | rfl | (simp [*] <;> rfl), s2_2⟩
  ·rw [if_neg c4] at H
   have c4b0 : (a0_1 == 1) = false := beq_eq_false_iff_ne.mpr c4
   have c4b1 : (a0_1 != 1) = true := bne_iff_ne.mpr c4
   by_cases c11 : a0_1 = 2
   ·rw [if_pos c11] at H
    have c11b0 : (a0_1 == 2) = true := beq_iff_eq.mpr c11
    have c11b1 : (a0_1 != 2) = false := bne_eq_false_iff_eq.mpr c11
    clear c11
    replace H := ob H
    obtain ⟨t117, A120, H⟩ := H
    replace H : (if t117 = true then (if a0_2.toList = a0_0.toList then (some false) else ((impl_IsJet.f a0_3 a0_4 a0_5 a0_6 1).bind fun t118 => (if t118 = true then ((impl_isWithin.f a0_7 0 32).bind fun t119 => (some t119)) else (some false)))) else (some false)) = some r := H
    have A12 := am A120
    clear A120
    by_cases c13 : t117 = true
    ·subst c13
     have H1 : (if a0_2.toList = a0_0.toList then (some false) else ((impl_IsJet.f a0_3 a0_4 a0_5 a0_6 1).bind fun t118 => (if t118 = true then ((impl_isWithin.f a0_7 0 32).bind fun t119 => (some t119)) else (some false)))) = some r := by rw [if_pos rfl] at H; exact H
     clear H
     have H := H1
     clear H1
     by_cases c14 : a0_2.toList = a0_0.toList
     ·rw [if_pos c14] at H
      have c14b0 : (a0_2.toList == a0_0.toList) = true := beq_iff_eq.mpr c14
      have c14b1 : (a0_2.toList != a0_0.toList) = false := bne_eq_false_iff_eq.mpr c14
      clear c14
      obtain rfl := oi H
      go_enter Tryd.func21, Tryd.ntmps21
      go_wp2_with (first | ((with_reducible refine gate_dst (N := 1) rfl ?_); refine box_event ?hg (N := 1) ?hd (cs := #[.string a0_0, .int .i64 a0_1, .string a0_2, .int .i64 a0_3, .int .i64 a0_4, .int .i64 a0_5, .int .i64 a0_6, .int .i64 a0_7]) (t := 38) ?hr ?_; (case hd => rfl); (case hg => rfl); (case hr => exact gq); intro gb114 hg w15 hbox hb; have n0_ := am (below_step u2_1 hb); have n1_ := am (hbox); have n2_ := bsw w hg (below_size u2_1); have n3_ := bsw w hg (below_size u2_1); clear HB; have HB := n0_; have BK114 := n1_; have GW114 := n2_; have GE114 := n3_; clear n0_ n1_ n2_ n3_ hb hbox hg; obtain ⟨hcz16_0, hcz16_1, hcz16_2, hcz16_3, hcz16_4, hcz16_5, hcz16_6, hcz16_7, hfz16_0, hfz16_1, hfz16_2, hfz16_3, hfz16_4, hfz16_5, hfz16_6, hfz16_7⟩ := cf8 BK114.out) | ((with_reducible refine gate_callee (f := 42) rfl ?_); refine goesL_ (some 5) rfl rfl Tryd.func42 (by kernel_rfl) rfl #[.string a0_0] rfl u2_2 ?_; (with_reducible refine (impl_IsName.calls k a0_0 true _ A2.out).mono ?_); rintro e w' ⟨rfl, ⟨nd, rfl⟩⟩; refine ⟨_, rfl, ?_⟩) | ((with_reducible refine gate_callee (f := 42) rfl ?_); refine goesL_ (some 29) rfl rfl Tryd.func42 (by kernel_rfl) rfl #[.string a0_2] rfl u2_2 ?_; (with_reducible refine (impl_IsName.calls k a0_2 true _ A12.out).mono ?_); rintro e w' ⟨rfl, ⟨nd, rfl⟩⟩; refine ⟨_, rfl, ?_⟩))
      go_ret
      exact ⟨by first | rfl | (simp [*] <;> rfl), s2_2⟩
     ·rw [if_neg c14] at H
      have c14b0 : (a0_2.toList == a0_0.toList) = false := beq_eq_false_iff_ne.mpr c14
      have c14b1 : (a0_2.toList != a0_0.toList) = true := bne_iff_ne.mpr c14
      replace H := ob H
      obtain ⟨t118, A170, H⟩ := H
      replace H : (if t118 = true then ((impl_isWithin.f a0_7 0 32).bind fun t119 => (some t119)) else (some false)) = some r := H
      have A17 := am A170
      clear A170
      by_cases c18 : t118 = true
      ·subst c18
       have H1 : ((impl_isWithin.f a0_7 0 32).bind fun t119 => (some t119)) = some r := by rw [if_pos rfl] at H; exact H
       clear H
       have H := H1
       clear H1
       replace H := ob H
       obtain ⟨t119, A190, H⟩ := H
       replace H : (some t119) = some r := H
       have A19 := am A190
       clear A190
       obtain rfl := oi H
       go_enter Tryd.func21, Tryd.ntmps21
       go_wp2_with (first | ((with_reducible refine gate_dst (N := 1) rfl ?_); refine box_event ?hg (N := 1) ?hd (cs := #[.string a0_0, .int .i64 a0_1, .string a0_2, .int .i64 a0_3, .int .i64 a0_4, .int .i64 a0_5, .int .i64 a0_6, .int .i64 a0_7]) (t := 38) ?hr ?_; (case hd => rfl); (case hg => rfl); (case hr => exact gq); intro gb114 hg w20 hbox hb; have n0_ := am (below_step u2_0 hb); have n1_ := am (hbox); have n2_ := bsw w hg (below_size u2_0); have n3_ := bsw w hg (below_size u2_0); clear HB; have HB := n0_; have BK114 := n1_; have GW114 := n2_; have GE114 := n3_; clear n0_ n1_ n2_ n3_ hb hbox hg; obtain ⟨hcz21_0, hcz21_1, hcz21_2, hcz21_3, hcz21_4, hcz21_5, hcz21_6, hcz21_7, hfz21_0, hfz21_1, hfz21_2, hfz21_3, hfz21_4, hfz21_5, hfz21_6, hfz21_7⟩ := cf8 BK114.out) | ((with_reducible refine gate_callee (f := 42) rfl ?_); refine goesL_ (some 5) rfl rfl Tryd.func42 (by kernel_rfl) rfl #[.string a0_0] rfl u2_2 ?_; (with_reducible refine (impl_IsName.calls k a0_0 true _ A2.out).mono ?_); rintro e w' ⟨rfl, ⟨nd, rfl⟩⟩; refine ⟨_, rfl, ?_⟩) | ((with_reducible refine gate_callee (f := 42) rfl ?_); refine goesL_ (some 29) rfl rfl Tryd.func42 (by kernel_rfl) rfl #[.string a0_2] rfl u2_2 ?_; (with_reducible refine (impl_IsName.calls k a0_2 true _ A12.out).mono ?_); rintro e w' ⟨rfl, ⟨nd, rfl⟩⟩; refine ⟨_, rfl, ?_⟩) | (go_at_call 56; (with_reducible refine (impl_IsJet.calls a0_3 a0_4 a0_5 a0_6 1 true _ A17.out).mono ?_); rintro e w22 ⟨rfl, hb⟩; have n0_ := am (blk_below (g := gb114) (o := zo0 a0_0 a0_1 a0_2 a0_3 a0_4 a0_5 a0_6 a0_7) u2_5 hb); have n1_ := am (below_step u2_4 hb); clear BK114 HB; have BK114 := n0_; have HB := n1_; clear n0_ n1_; (try clear hb); (try clear hb2); (try clear hk); (try clear hi); obtain ⟨hcz23_0, hcz23_1, hcz23_2, hcz23_3, hcz23_4, hcz23_5, hcz23_6, hcz23_7, hfz23_0, hfz23_1, hfz23_2, hfz23_3, hfz23_4, hfz23_5, hfz23_6, hfz23_7⟩ := cf8 BK114.out) | (go_at_call 41; (with_reducible refine (impl_isWithin.calls a0_7 0 32 t119 _ A19.out).mono ?_); rintro e w' ⟨rfl, ⟨nd, rfl⟩⟩))
       go_ret
       exact ⟨by first | rfl | (simp [*] <;> rfl), s2_2⟩
      ·replace c18 := Bool.eq_false_iff.mpr c18
       subst c18
       have H1 : (some false) = some r := by rw [if_neg (show ¬ (false = true) by decide)] at H; exact H
       clear H
       have H := H1
       clear H1
       obtain rfl := oi H
       go_enter Tryd.func21, Tryd.ntmps21
       go_wp2_with (first | ((with_reducible refine gate_dst (N := 1) rfl ?_); refine box_event ?hg (N := 1) ?hd (cs := #[.string a0_0, .int .i64 a0_1, .string a0_2, .int .i64 a0_3, .int .i64 a0_4, .int .i64 a0_5, .int .i64 a0_6, .int .i64 a0_7]) (t := 38) ?hr ?_; (case hd => rfl); (case hg => rfl); (case hr => exact gq); intro gb114 hg w24 hbox hb; have n0_ := am (below_step u2_0 hb); have n1_ := am (hbox); have n2_ := bsw w hg (below_size u2_0); have n3_ := bsw w hg (below_size u2_0); clear HB; have HB := n0_; have BK114 := n1_; have GW114 := n2_; have GE114 := n3_; clear n0_ n1_ n2_ n3_ hb hbox hg; obtain ⟨hcz25_0, hcz25_1, hcz25_2, hcz25_3, hcz25_4, hcz25_5, hcz25_6, hcz25_7, hfz25_0, hfz25_1, hfz25_2, hfz25_3, hfz25_4, hfz25_5, hfz25_6, hfz25_7⟩ := cf8 BK114.out) | ((with_reducible refine gate_callee (f := 42) rfl ?_); refine goesL_ (some 5) rfl rfl Tryd.func42 (by kernel_rfl) rfl #[.string a0_0] rfl u2_2 ?_; (with_reducible refine (impl_IsName.calls k a0_0 true _ A2.out).mono ?_); rintro e w' ⟨rfl, ⟨nd, rfl⟩⟩; refine ⟨_, rfl, ?_⟩) | ((with_reducible refine gate_callee (f := 42) rfl ?_); refine goesL_ (some 29) rfl rfl Tryd.func42 (by kernel_rfl) rfl #[.string a0_2] rfl u2_2 ?_; (with_reducible refine (impl_IsName.calls k a0_2 true _ A12.out).mono ?_); rintro e w' ⟨rfl, ⟨nd, rfl⟩⟩; refine ⟨_, rfl, ?_⟩) | (go_at_call 56; (with_reducible refine (impl_IsJet.calls a0_3 a0_4 a0_5 a0_6 1 false _ A17.out).mono ?_); rintro e w26 ⟨rfl, hb⟩; have n0_ := am (blk_below (g := gb114) (o := zo0 a0_0 a0_1 a0_2 a0_3 a0_4 a0_5 a0_6 a0_7) u2_5 hb); have n1_ := am (below_step u2_4 hb); clear BK114 HB; have BK114 := n0_; have HB := n1_; clear n0_ n1_; (try clear hb); (try clear hb2); (try clear hk); (try clear hi)))
       go_ret
       exact ⟨by first | rfl | (simp [*] <;> rfl), s2_2⟩
    ·replace c13 := Bool.eq_false_iff.mpr c13
     subst c13
     have H1 : (some false) = some r := by rw [if_neg (show ¬ (false = true) by decide)] at H; exact H
     clear H
     have H := H1
     clear H1
     obtain rfl := oi H
     go_enter Tryd.func21, Tryd.ntmps21
     go_wp2_with (first | ((with_reducible refine gate_dst (N := 1) rfl ?_); refine box_event ?hg (N := 1) ?hd (cs := #[.string a0_0, .int .i64 a0_1, .string a0_2, .int .i64 a0_3, .int .i64 a0_4, .int .i64 a0_5, .int .i64 a0_6, .int .i64 a0_7]) (t := 38) ?hr ?_; (case hd => rfl); (case hg => rfl); (case hr => exact gq); intro gb114 hg w27 hbox hb; have n0_ := am (below_step u2_1 hb); have n1_ := am (hbox); have n2_ := bsw w hg (below_size u2_1); have n3_ := bsw w hg (below_size u2_1); clear HB; have HB := n0_; have BK114 := n1_; have GW114 := n2_; have GE114 := n3_; clear n0_ n1_ n2_ n3_ hb hbox hg; obtain ⟨hcz28_0, hcz28_1, hcz28_2, hcz28_3, hcz28_4, hcz28_5, hcz28_6, hcz28_7, hfz28_0, hfz28_1, hfz28_2, hfz28_3, hfz28_4, hfz28_5, hfz28_6, hfz28_7⟩ := cf8 BK114.out) | ((with_reducible refine gate_callee (f := 42) rfl ?_); refine goesL_ (some 5) rfl rfl Tryd.func42 (by kernel_rfl) rfl #[.string a0_0] rfl u2_2 ?_; (with_reducible refine (impl_IsName.calls k a0_0 true _ A2.out).mono ?_); rintro e w' ⟨rfl, ⟨nd, rfl⟩⟩; refine ⟨_, rfl, ?_⟩) | ((with_reducible refine gate_callee (f := 42) rfl ?_); refine goesL_ (some 29) rfl rfl Tryd.func42 (by kernel_rfl) rfl #[.string a0_2] rfl u2_2 ?_; (with_reducible refine (impl_IsName.calls k a0_2 false _ A12.out).mono ?_); rintro e w' ⟨rfl, ⟨nd, rfl⟩⟩; refine ⟨_, rfl, ?_⟩))
     go_ret
     exact ⟨by first | rfl | (simp [*] <;> rfl), s2_2⟩
   ·rw [if_neg c11] at H
    have c11b0 : (a0_1 == 2) = false := beq_eq_false_iff_ne.mpr c11
    have c11b1 : (a0_1 != 2) = true := bne_iff_ne.mpr c11
    by_cases c29 : a0_1 = 3
    ·rw [if_pos c29] at H
     have c29b0 : (a0_1 == 3) = true := beq_iff_eq.mpr c29
     have c29b1 : (a0_1 != 3) = false := bne_eq_false_iff_eq.mpr c29
     clear c29
     by_cases c30 : (a0_5 == 0 && (a0_6 == 0 && (a0_7 == 0))) = true
     ·rw [if_pos c30] at H
      have c30b0 : (a0_5 == 0 && (a0_6 == 0 && (a0_7 == 0))) = true := c30
      (try (have c30b1 : decide (a0_5 = 0 && (a0_6 == 0 && (a0_7 == 0))) = true := by simpa using c30))
      (try (have c30b2 : (a0_5 == 0 && (a0_6 == 0 && (a0_7 == 0))) = true := by simpa using c30))
      clear c30
      replace H := ob H
      obtain ⟨t120, A310, H⟩ := H
      replace H : (if t120 = true then (if a0_2.toList = a0_0.toList then (some false) else ((impl_IsPlace.f a0_3 a0_4).bind fun t121 => (some t121))) else (some false)) = some r := H
      have A31 := am A310
      clear A310
      by_cases c32 : t120 = true
      ·subst c32
       have H1 : (if a0_2.toList = a0_0.toList then (some false) else ((impl_IsPlace.f a0_3 a0_4).bind fun t121 => (some t121))) = some r := by rw [if_pos rfl] at H; exact H
       clear H
       have H := H1
       clear H1
       by_cases c33 : a0_2.toList = a0_0.toList
       ·rw [if_pos c33] at H
        have c33b0 : (a0_2.toList == a0_0.toList) = true := beq_iff_eq.mpr c33
        have c33b1 : (a0_2.toList != a0_0.toList) = false := bne_eq_false_iff_eq.mpr c33
        clear c33
        obtain rfl := oi H
        go_enter Tryd.func21, Tryd.ntmps21
        go_wp2_with (first | ((with_reducible refine gate_dst (N := 1) rfl ?_); refine box_event ?hg (N := 1) ?hd (cs := #[.string a0_0, .int .i64 a0_1, .string a0_2, .int .i64 a0_3, .int .i64 a0_4, .int .i64 a0_5, .int .i64 a0_6, .int .i64 a0_7]) (t := 38) ?hr ?_; (case hd => rfl); (case hg => rfl); (case hr => exact gq); intro gb114 hg w34 hbox hb; have n0_ := am (below_step u2_0 hb); have n1_ := am (hbox); have n2_ := bsw w hg (below_size u2_0); have n3_ := bsw w hg (below_size u2_0); clear HB; have HB := n0_; have BK114 := n1_; have GW114 := n2_; have GE114 := n3_; clear n0_ n1_ n2_ n3_ hb hbox hg; obtain ⟨hcz35_0, hcz35_1, hcz35_2, hcz35_3, hcz35_4, hcz35_5, hcz35_6, hcz35_7, hfz35_0, hfz35_1, hfz35_2, hfz35_3, hfz35_4, hfz35_5, hfz35_6, hfz35_7⟩ := cf8 BK114.out) | ((with_reducible refine gate_callee (f := 42) rfl ?_); refine goesL_ (some 5) rfl rfl Tryd.func42 (by kernel_rfl) rfl #[.string a0_0] rfl u2_2 ?_; (with_reducible refine (impl_IsName.calls k a0_0 true _ A2.out).mono ?_); rintro e w' ⟨rfl, ⟨nd, rfl⟩⟩; refine ⟨_, rfl, ?_⟩) | (go_at_call 42; (with_reducible refine (impl_IsName.calls k a0_2 true _ A31.out).mono ?_); rintro e w' ⟨rfl, ⟨nd, rfl⟩⟩))
        go_ret
        exact ⟨by first | rfl | (simp [*] <;> rfl), s2_2⟩
       ·rw [if_neg c33] at H
        have c33b0 : (a0_2.toList == a0_0.toList) = false := beq_eq_false_iff_ne.mpr c33
        have c33b1 : (a0_2.toList != a0_0.toList) = true := bne_iff_ne.mpr c33
        replace H := ob H
        obtain ⟨t121, A360, H⟩ := H
        replace H : (some t121) = some r := H
        have A36 := am A360
        clear A360
        obtain rfl := oi H
        go_enter Tryd.func21, Tryd.ntmps21
        go_wp2_with (first | ((with_reducible refine gate_dst (N := 1) rfl ?_); refine box_event ?hg (N := 1) ?hd (cs := #[.string a0_0, .int .i64 a0_1, .string a0_2, .int .i64 a0_3, .int .i64 a0_4, .int .i64 a0_5, .int .i64 a0_6, .int .i64 a0_7]) (t := 38) ?hr ?_; (case hd => rfl); (case hg => rfl); (case hr => exact gq); intro gb114 hg w37 hbox hb; have n0_ := am (below_step u2_0 hb); have n1_ := am (hbox); have n2_ := bsw w hg (below_size u2_0); have n3_ := bsw w hg (below_size u2_0); clear HB; have HB := n0_; have BK114 := n1_; have GW114 := n2_; have GE114 := n3_; clear n0_ n1_ n2_ n3_ hb hbox hg; obtain ⟨hcz38_0, hcz38_1, hcz38_2, hcz38_3, hcz38_4, hcz38_5, hcz38_6, hcz38_7, hfz38_0, hfz38_1, hfz38_2, hfz38_3, hfz38_4, hfz38_5, hfz38_6, hfz38_7⟩ := cf8 BK114.out) | ((with_reducible refine gate_callee (f := 42) rfl ?_); refine goesL_ (some 5) rfl rfl Tryd.func42 (by kernel_rfl) rfl #[.string a0_0] rfl u2_2 ?_; (with_reducible refine (impl_IsName.calls k a0_0 true _ A2.out).mono ?_); rintro e w' ⟨rfl, ⟨nd, rfl⟩⟩; refine ⟨_, rfl, ?_⟩) | (go_at_call 42; (with_reducible refine (impl_IsName.calls k a0_2 true _ A31.out).mono ?_); rintro e w' ⟨rfl, ⟨nd, rfl⟩⟩) | (go_at_call 57; (with_reducible refine (impl_IsPlace.calls a0_3 a0_4 t121 _ A36.out).mono ?_); rintro e w39 ⟨rfl, hb⟩; have n0_ := am (blk_below (g := gb114) (o := zo0 a0_0 a0_1 a0_2 a0_3 a0_4 a0_5 a0_6 a0_7) u2_5 hb); have n1_ := am (below_step u2_4 hb); clear BK114 HB; have BK114 := n0_; have HB := n1_; clear n0_ n1_; (try clear hb); (try clear hb2); (try clear hk); (try clear hi)))
        go_ret
        exact ⟨by first | rfl | (simp [*] <;> rfl), s2_2⟩
      ·replace c32 := Bool.eq_false_iff.mpr c32
       subst c32
       have H1 : (some false) = some r := by rw [if_neg (show ¬ (false = true) by decide)] at H; exact H
       clear H
       have H := H1
       clear H1
       obtain rfl := oi H
       go_enter Tryd.func21, Tryd.ntmps21
       go_wp2_with (first | ((with_reducible refine gate_dst (N := 1) rfl ?_); refine box_event ?hg (N := 1) ?hd (cs := #[.string a0_0, .int .i64 a0_1, .string a0_2, .int .i64 a0_3, .int .i64 a0_4, .int .i64 a0_5, .int .i64 a0_6, .int .i64 a0_7]) (t := 38) ?hr ?_; (case hd => rfl); (case hg => rfl); (case hr => exact gq); intro gb114 hg w40 hbox hb; have n0_ := am (below_step u2_0 hb); have n1_ := am (hbox); have n2_ := bsw w hg (below_size u2_0); have n3_ := bsw w hg (below_size u2_0); clear HB; have HB := n0_; have BK114 := n1_; have GW114 := n2_; have GE114 := n3_; clear n0_ n1_ n2_ n3_ hb hbox hg; obtain ⟨hcz41_0, hcz41_1, hcz41_2, hcz41_3, hcz41_4, hcz41_5, hcz41_6, hcz41_7, hfz41_0, hfz41_1, hfz41_2, hfz41_3, hfz41_4, hfz41_5, hfz41_6, hfz41_7⟩ := cf8 BK114.out) | ((with_reducible refine gate_callee (f := 42) rfl ?_); refine goesL_ (some 5) rfl rfl Tryd.func42 (by kernel_rfl) rfl #[.string a0_0] rfl u2_2 ?_; (with_reducible refine (impl_IsName.calls k a0_0 true _ A2.out).mono ?_); rintro e w' ⟨rfl, ⟨nd, rfl⟩⟩; refine ⟨_, rfl, ?_⟩) | (go_at_call 42; (with_reducible refine (impl_IsName.calls k a0_2 false _ A31.out).mono ?_); rintro e w' ⟨rfl, ⟨nd, rfl⟩⟩))
       go_ret
       exact ⟨by first | rfl | (simp [*] <;> rfl), s2_2⟩
     ·rw [if_neg c30] at H
      have c30b0 : (a0_5 == 0 && (a0_6 == 0 && (a0_7 == 0))) = false := by simpa using c30
      (try (have c30b1 : decide (a0_5 = 0 && (a0_6 == 0 && (a0_7 == 0))) = false := by simpa using c30))
      (try (have c30b2 : (a0_5 == 0 && (a0_6 == 0 && (a0_7 == 0))) = false := by simpa using c30))
      (try (have c30b3 : ¬ (a0_5 = 0 && (a0_6 == 0 && (a0_7 == 0))) := by simpa using c30))
      clear c30
      obtain rfl := oi H
      go_enter Tryd.func21, Tryd.ntmps21
      go_wp2_with (first | ((with_reducible refine gate_dst (N := 1) rfl ?_); refine box_event ?hg (N := 1) ?hd (cs := #[.string a0_0, .int .i64 a0_1, .string a0_2, .int .i64 a0_3, .int .i64 a0_4, .int .i64 a0_5, .int .i64 a0_6, .int .i64 a0_7]) (t := 38) ?hr ?_; (case hd => rfl); (case hg => rfl); (case hr => exact gq); intro gb114 hg w42 hbox hb; have n0_ := am (below_step u2_1 hb); have n1_ := am (hbox); have n2_ := bsw w hg (below_size u2_1); have n3_ := bsw w hg (below_size u2_1); clear HB; have HB := n0_; have BK114 := n1_; have GW114 := n2_; have GE114 := n3_; clear n0_ n1_ n2_ n3_ hb hbox hg; obtain ⟨hcz43_0, hcz43_1, hcz43_2, hcz43_3, hcz43_4, hcz43_5, hcz43_6, hcz43_7, hfz43_0, hfz43_1, hfz43_2, hfz43_3, hfz43_4, hfz43_5, hfz43_6, hfz43_7⟩ := cf8 BK114.out) | ((with_reducible refine gate_callee (f := 42) rfl ?_); refine goesL_ (some 5) rfl rfl Tryd.func42 (by kernel_rfl) rfl #[.string a0_0] rfl u2_2 ?_; (with_reducible refine (impl_IsName.calls k a0_0 true _ A2.out).mono ?_); rintro e w' ⟨rfl, ⟨nd, rfl⟩⟩; refine ⟨_, rfl, ?_⟩))
      go_ret
      exact ⟨by first | rfl | (simp [*] <;> rfl), s2_2⟩
    ·rw [if_neg c29] at H
     have c29b0 : (a0_1 == 3) = false := beq_eq_false_iff_ne.mpr c29
     have c29b1 : (a0_1 != 3) = true := bne_iff_ne.mpr c29
     obtain rfl := oi H
     go_enter Tryd.func21, Tryd.ntmps21
     go_wp2_with (first | ((with_reducible refine gate_dst (N := 1) rfl ?_); refine box_event ?hg (N := 1) ?hd (cs := #[.string a0_0, .int .i64 a0_1, .string a0_2, .int .i64 a0_3, .int .i64 a0_4, .int .i64 a0_5, .int .i64 a0_6, .int .i64 a0_7]) (t := 38) ?hr ?_; (case hd => rfl); (case hg => rfl); (case hr => exact gq); intro gb114 hg w44 hbox hb; have n0_ := am (below_step u2_1 hb); have n1_ := am (hbox); have n2_ := bsw w hg (below_size u2_1); have n3_ := bsw w hg (below_size u2_1); clear HB; have HB := n0_; have BK114 := n1_; have GW114 := n2_; have GE114 := n3_; clear n0_ n1_ n2_ n3_ hb hbox hg; obtain ⟨hcz45_0, hcz45_1, hcz45_2, hcz45_3, hcz45_4, hcz45_5, hcz45_6, hcz45_7, hfz45_0, hfz45_1, hfz45_2, hfz45_3, hfz45_4, hfz45_5, hfz45_6, hfz45_7⟩ := cf8 BK114.out) | ((with_reducible refine gate_callee (f := 42) rfl ?_); refine goesL_ (some 5) rfl rfl Tryd.func42 (by kernel_rfl) rfl #[.string a0_0] rfl u2_2 ?_; (with_reducible refine (impl_IsName.calls k a0_0 true _ A2.out).mono ?_); rintro e w' ⟨rfl, ⟨nd, rfl⟩⟩; refine ⟨_, rfl, ?_⟩))
     go_ret
     exact ⟨by first | rfl | (simp [*] <;> rfl), s2_2⟩
 ·replace c3 := Bool.eq_false_iff.mpr c3
  subst c3
  have H1 : (some false) = some r := by rw [if_neg (show ¬ (false = true) by decide)] at H; exact H
  clear H
  have H := H1
  clear H1
  obtain rfl := oi H
  go_enter Tryd.func21, Tryd.ntmps21
  go_wp2_with (first | ((with_reducible refine gate_dst (N := 1) rfl ?_); refine box_event ?hg (N := 1) ?hd (cs := #[.string a0_0, .int .i64 a0_1, .string a0_2, .int .i64 a0_3, .int .i64 a0_4, .int .i64 a0_5, .int .i64 a0_6, .int .i64 a0_7]) (t := 38) ?hr ?_; (case hd => rfl); (case hg => rfl); (case hr => exact gq); intro gb114 hg w46 hbox hb; have n0_ := am (below_step u2_1 hb); have n1_ := am (hbox); have n2_ := bsw w hg (below_size u2_1); have n3_ := bsw w hg (below_size u2_1); clear HB; have HB := n0_; have BK114 := n1_; have GW114 := n2_; have GE114 := n3_; clear n0_ n1_ n2_ n3_ hb hbox hg; obtain ⟨hcz47_0, hcz47_1, hcz47_2, hcz47_3, hcz47_4, hcz47_5, hcz47_6, hcz47_7, hfz47_0, hfz47_1, hfz47_2, hfz47_3, hfz47_4, hfz47_5, hfz47_6, hfz47_7⟩ := cf8 BK114.out) | ((with_reducible refine gate_callee (f := 42) rfl ?_); refine goesL_ (some 5) rfl rfl Tryd.func42 (by kernel_rfl) rfl #[.string a0_0] rfl u2_2 ?_; (with_reducible refine (impl_IsName.calls k a0_0 false _ A2.out).mono ?_); rintro e w' ⟨rfl, ⟨nd, rfl⟩⟩; refine ⟨_, rfl, ?_⟩))
  go_ret
  exact ⟨by first | rfl | (simp [*] <;> rfl), s2_2⟩

/-! ### strconv_Itoa: function 76 -/
def strconv_Itoa.f (a0 : Int) : Option (ByteArray) := if -9223372036854775808 ≤ a0 ∧ a0 ≤ 9223372036854775807 then some (⟨(Go.Lib.itoa a0).toArray⟩ : ByteArray) else none
theorem strconv_Itoa.calls (a0 : Int) (r : ByteArray) (w : World) (h : strconv_Itoa.f a0 = some r) (hT : Ty.TabP w := by first | exact hT | exact Ty.TabP.below hT u2_0 | (repeat (first | exact hT | apply Ty.TabP.drewN))) :
  Calls Tryd.prog 76 #[.int .i64 a0] w fun e w' => e = .returned (.string r) ∧ Below w.heap.size w w' := by
 unfold strconv_Itoa.f at h
 split at h
 ·rename_i c; cases h; exact Ty.itoa_calls a0 c.1 c.2 w hT
 ·cases h

/-! ### impl_FormatNumber: function 39 -/
def impl_FormatNumber.f (a0 : Int) : Option (ByteArray) := (strconv_Itoa.f a0).bind fun t125 => (some t125)
theorem impl_FormatNumber.calls (a0 : Int) (r : ByteArray) (w : World) (h : impl_FormatNumber.f a0 = some r) (hT : Ty.TabP w := by first | exact hT | exact Ty.TabP.below hT u2_0 | (repeat (first | exact hT | apply Ty.TabP.drewN))) :
  Calls Tryd.prog 39 #[.int .i64 a0] w fun e w' => e = .returned (.string r) ∧ Below w.heap.size w w' := by
 have HB := am (Below.refl w.heap.size w)
 have H : ((strconv_Itoa.f a0).bind fun t125 => (some t125)) = some r := h
 clear h
 replace H := ob H
 obtain ⟨t125, A20, H⟩ := H
 replace H : (some t125) = some r := H
 have A2 := am A20
 clear A20
 obtain rfl := oi H
 go_enter Tryd.func39, Tryd.ntmps39
 go_wp2_with (first | ((with_reducible refine gate_callee (f := 76) rfl ?_); refine goesL_ (some 4) rfl rfl Tryd.func76 (by kernel_rfl) rfl #[.int .i64 a0] rfl u2_2 ?_; (with_reducible refine (strconv_Itoa.calls a0 t125 _ A2.out).mono ?_); rintro e w3 ⟨rfl, hb⟩; refine ⟨_, rfl, ?_⟩; have n0_ := am (below_step u2_1 hb); clear HB; have HB := n0_; clear n0_; (try clear hb); (try clear hb2); (try clear hk); (try clear hi)))
 go_ret
 exact ⟨by first | rfl | (simp [*] <;> rfl), by repeat (first | (with_reducible first | exact HB.out | apply below_alloc | apply pw_below_drewN | apply below_drew1) | exact HB.out)⟩

/-! ### strings_TrimRight: function 78 -/
def strings_TrimRight.f (a0 : ByteArray) (a1 : ByteArray) : Option (ByteArray) := if a1.data = #[48] ∧ a0.size ≤ 9223372036854775807 then some (⟨(Go.Lib.trimRightB a0.data.toList 48).toArray⟩ : ByteArray) else none
theorem strings_TrimRight.calls (a0 : ByteArray) (a1 : ByteArray) (r : ByteArray) (w : World) (h : strings_TrimRight.f a0 a1 = some r) :
  Calls Tryd.prog 78 #[.string a0, .string a1] w fun e w' => e = .returned (.string r) ∧ Drawn0 w w' := by
 unfold strings_TrimRight.f at h
 split at h
 ·rename_i c; cases h
  obtain ⟨d⟩ := a1
  obtain rfl : d = #[48] := c.1
  refine (Ty.trimR_calls a0 w c.2).mono ?_
  rintro e w' ⟨rfl, rfl⟩
  exact ⟨rfl, Drawn0.refl _⟩
 ·cases h

end Go.Proofs.YthofcclbkihemaaDoor.MFnExactParseDevice
