-- Written by a program for this claim.
import Derived.Test.YthofcclbkihemaaDoorMFnExactParseDevicex0
namespace Go.Proofs.YthofcclbkihemaaDoor.MFnExactParseDevice
open Go.RowKit Go.Proofs.YthofcclbkihemaaDoorW.PrintWords Go.Proofs.YthofcclbkihemaaDoorW.PrintLast Go.Proofs.YthofcclbkihemaaDoorW.PrintMore
attribute [local go_sem] max2_int min2_int max_two min_two max_three min_three max_four min_four
set_option linter.unusedVariables false
set_option linter.unusedSimpArgs false
set_option maxHeartbeats 8000000
set_option maxRecDepth 100000

theorem s8_0 {p : Prop} (h : p := by repeat (first | (with_reducible first | exact HB.out | apply below_alloc | apply pw_below_drewN | apply below_drew1 | refine below_set ?_ GE218.out) | exact HB.out)) : p := h
theorem s8_1 {p : Prop} (h : p := by repeat (first | (with_reducible first | exact HB.out | apply below_alloc | apply pw_below_drewN | apply below_drew1 | refine below_set ?_ GE226.out) | exact HB.out)) : p := h
theorem s8_2 {p : Prop} (h : p := by repeat (first | exact Drawn0.refl _ | apply Drawn0.step)) : p := h
theorem v8_0 {p : Prop} (h : p := by assumption) : p := h
theorem u8_0 {p : Prop} (h : p := by repeat (first | (with_reducible first | exact HB.out | apply below_alloc | apply pw_below_drewN | apply below_drew1 | refine below_set ?_ (Aside0.out v8_0)) | exact HB.out)) : p := h
theorem u8_1 {p : Prop} (h : p := by repeat (first | (with_reducible first | exact HB.out | apply below_alloc | apply pw_below_drewN | apply below_drew1) | exact HB.out)) : p := h
theorem u8_3 {p : Prop} (h : p := by (try simp only [List.map_toArray, List.map_cons, List.map_nil]); first | done | rfl) : p := h
/-! ### spec_l1In: function 43 -/
def spec_l1In.f (a0 : Int) (a1 : Int) (a2 : Int) : Option (Bool) := if a0 ≥ a1 then (some (decide (a0 ≤ a2))) else (some false)
theorem spec_l1In.calls (a0 : Int) (a1 : Int) (a2 : Int) (r : Bool) (w : World) (h : spec_l1In.f a0 a1 a2 = some r) :
  Calls Tryd.prog 43 #[.int .i64 a0, .int .i64 a1, .int .i64 a2] w fun e w' => e = .returned (.bool r) ∧ Drawn0 w w' := by
 have H : (if a0 ≥ a1 then (some (decide (a0 ≤ a2))) else (some false)) = some r := h
 clear h
 by_cases c4 : a0 ≥ a1
 ·rw [if_pos c4] at H
  have c4b0 : decide (a1 ≤ a0) = true := decide_eq_true c4
  clear c4
  obtain rfl := oi H
  go_enter Tryd.func43, Tryd.ntmps43
  go_wp2
  go_ret
  exact ⟨by first | rfl | (simp; done) | (simp [*]; done), s8_2⟩
 ·rw [if_neg c4] at H
  have c4b0 : decide (a1 ≤ a0) = false := decide_eq_false c4
  clear c4
  obtain rfl := oi H
  go_enter Tryd.func43, Tryd.ntmps43
  go_wp2
  go_ret
  exact ⟨by first | rfl | (simp; done) | (simp [*]; done), s8_2⟩

/-! ### spec_IsName: function 44 -/
def spec_IsName.l0 : Nat → ByteArray → Int → Option (Bool)
 | 0, _, _ => none
 | k + 1, x0, x3 => if x3 < (x0.size : Int) then (if 0 ≤ x3 then (if (bt x0 x3) ≥ 97 then (if (bt x0 x3) ≥ 48 then (if ((bt x0 x3) ≤ 122) then (spec_IsName.l0 k x0 (wrap64 (x3 + 1))) else (if ((bt x0 x3) ≤ 57) then (if x3 = 0 then (some false) else (spec_IsName.l0 k x0 (wrap64 (x3 + 1)))) else (some false))) else (if ((bt x0 x3) ≤ 122) then (spec_IsName.l0 k x0 (wrap64 (x3 + 1))) else (some false))) else (if (bt x0 x3) ≥ 48 then (if ((bt x0 x3) ≤ 57) then (if x3 = 0 then (some false) else (spec_IsName.l0 k x0 (wrap64 (x3 + 1)))) else (some false)) else (some false))) else (none)) else (if (x0.size : Int) > 0 then (some (decide ((x0.size : Int) ≤ 8))) else (some false))
def spec_IsName.f (k : Nat) (a0 : ByteArray) : Option (Bool) := spec_IsName.l0 k a0 0
theorem spec_IsName.mono_l : ∀ k, (∀ y0 y1, LeO (spec_IsName.l0 k y0 y1) (spec_IsName.l0 (k + 1) y0 y1))
 | 0 => fun _ _ r h => by simp [spec_IsName.l0] at h
 | k + 1 => by
  have ih0 := spec_IsName.mono_l k
  ·intro y0 y1
   unfold spec_IsName.l0
   repeat' first
   | (with_reducible exact ih0 _ _)
   | (with_reducible exact LeO.refl _)
   | (with_reducible exact LeO.none _)
   | (with_reducible refine LeO.ite ?_ ?_)
   | (with_reducible refine LeO.bind ?_ (fun _ => ?_))
theorem spec_IsName.mono : ∀ a0 k, LeO (spec_IsName.f k a0) (spec_IsName.f (k + 1) a0) := by
 intro a0 k
 have ih0 := spec_IsName.mono_l k
 unfold spec_IsName.f
 repeat' first
   | (with_reducible exact ih0 _ _)
   | (with_reducible exact LeO.refl _)
   | (with_reducible exact LeO.none _)
   | (with_reducible refine LeO.ite ?_ ?_)
   | (with_reducible refine LeO.bind ?_ (fun _ => ?_))
theorem spec_IsName.calls (k : Nat) (a0 : ByteArray) (r : Bool) (w : World) (h : spec_IsName.f k a0 = some r) :
  Calls Tryd.prog 44 #[.string a0] w fun e w' => e = .returned (.bool r) ∧ Drawn0 w w' := by
 have H : (spec_IsName.l0 k a0 0) = some r := h
 clear h
 have H' := am H
 clear H
 go_enter Tryd.func44, Tryd.ntmps44
 go_wp2
 go_loopg [3] k (fun kq v3 w' => ∃ (x3_1 : Int), v3 = .int .i64 x3_1 ∧ Aside0 (spec_IsName.l0 kq a0 x3_1 = some r) ∧ Aside0 (kq ≤ k) ∧ Drawn0 w w')
 case atStart => exact ⟨(0), (by first | rfl | (simp; done) | (simp [*]; done)), H', ⟨Nat.le_refl _⟩, s8_2⟩
 case round =>
  clear H'
  obtain ⟨x3_1, rfl, HA, HK1, ⟨m1, rfl⟩⟩ := hrel
  cases gk with
  | zero => exact absurd HA.out (by simp [spec_IsName.l0])
  | succ k1 =>
   have H := HA.out
   clear HA
   simp only [spec_IsName.l0] at H
   by_cases c2 : x3_1 < (a0.size : Int)
   ·rw [if_pos c2] at H
    have c2b0 : decide (x3_1 < (a0.size : Int)) = true := decide_eq_true c2
    clear c2
    by_cases c3 : 0 ≤ x3_1
    ·rw [if_pos c3] at H
     have c3b0 : decide (0 ≤ x3_1) = true := decide_eq_true c3
     clear c3
     by_cases c5 : (bt a0 x3_1) ≥ 97
     ·rw [if_pos c5] at H
      have c5b0 : decide (97 ≤ (bt a0 x3_1)) = true := decide_eq_true c5
      clear c5
      by_cases c8 : (bt a0 x3_1) ≥ 48
      ·rw [if_pos c8] at H
       have c8b0 : decide (48 ≤ (bt a0 x3_1)) = true := decide_eq_true c8
       clear c8
       by_cases c10 : ((bt a0 x3_1) ≤ 122)
       ·rw [if_pos c10] at H
        have c10b0 : decide ((bt a0 x3_1) ≤ 122) = true := decide_eq_true c10
        clear c10
        have H' := am H
        clear H
        have p4 : 0 ≤ (x3_1 : Int) := od v8_0
        have q4 : x3_1 < (a0.size : Int) := od v8_0
        have hx4 := bt_at a0 x3_1
        replace p4 := eq_true p4
        replace q4 := eq_true q4
        have p6 : 0 ≤ (x3_1 : Int) := od v8_0
        have q6 : x3_1 < (a0.size : Int) := od v8_0
        have hx6 := bt_at a0 x3_1
        replace p6 := eq_true p6
        replace q6 := eq_true q6
        have p7 : 0 ≤ (x3_1 : Int) := od v8_0
        have q7 : x3_1 < (a0.size : Int) := od v8_0
        have hx7 := bt_at a0 x3_1
        replace p7 := eq_true p7
        replace q7 := eq_true q7
        have p9 : 0 ≤ (x3_1 : Int) := od v8_0
        have q9 : x3_1 < (a0.size : Int) := od v8_0
        have hx9 := bt_at a0 x3_1
        replace p9 := eq_true p9
        replace q9 := eq_true q9
        go_wp2
        go_roundg k1
        case measure => have := HK1.out; omega
        case rel => exact ⟨(wrap64 (x3_1 + 1)), (by first | rfl | (simp; done) | (simp [*]; done)), H', ⟨by have := HK1.out; omega⟩, s8_2⟩
       ·rw [if_neg c10] at H
        have c10b0 : decide ((bt a0 x3_1) ≤ 122) = false := decide_eq_false c10
        clear c10
        by_cases c11 : ((bt a0 x3_1) ≤ 57)
        ·rw [if_pos c11] at H
         have c11b0 : decide ((bt a0 x3_1) ≤ 57) = true := decide_eq_true c11
         clear c11
         by_cases c12 : x3_1 = 0
         ·rw [if_pos c12] at H
          have c12b0 : (x3_1 == 0) = true := beq_iff_eq.mpr c12
          have c12b1 : (x3_1 != 0) = false := bne_eq_false_iff_eq.mpr c12
          clear c12
          obtain rfl := oi H
          have p4 : 0 ≤ (x3_1 : Int) := od v8_0
          have q4 : x3_1 < (a0.size : Int) := od v8_0
          have hx4 := bt_at a0 x3_1
          replace p4 := eq_true p4
          replace q4 := eq_true q4
          have p6 : 0 ≤ (x3_1 : Int) := od v8_0
          have q6 : x3_1 < (a0.size : Int) := od v8_0
          have hx6 := bt_at a0 x3_1
          replace p6 := eq_true p6
          replace q6 := eq_true q6
          have p7 : 0 ≤ (x3_1 : Int) := od v8_0
          have q7 : x3_1 < (a0.size : Int) := od v8_0
          have hx7 := bt_at a0 x3_1
          replace p7 := eq_true p7
          replace q7 := eq_true q7
          have p9 : 0 ≤ (x3_1 : Int) := od v8_0
          have q9 : x3_1 < (a0.size : Int) := od v8_0
          have hx9 := bt_at a0 x3_1
          replace p9 := eq_true p9
          replace q9 := eq_true q9
          go_wp2
          go_ret
          exact ⟨by first | rfl | (simp; done) | (simp [*]; done), s8_2⟩
         ·rw [if_neg c12] at H
          have c12b0 : (x3_1 == 0) = false := beq_eq_false_iff_ne.mpr c12
          have c12b1 : (x3_1 != 0) = true := bne_iff_ne.mpr c12
          have H' := am H
          clear H
          have p4 : 0 ≤ (x3_1 : Int) := od v8_0
          have q4 : x3_1 < (a0.size : Int) := od v8_0
          have hx4 := bt_at a0 x3_1
          replace p4 := eq_true p4
          replace q4 := eq_true q4
          have p6 : 0 ≤ (x3_1 : Int) := od v8_0
          have q6 : x3_1 < (a0.size : Int) := od v8_0
          have hx6 := bt_at a0 x3_1
          replace p6 := eq_true p6
          replace q6 := eq_true q6
          have p7 : 0 ≤ (x3_1 : Int) := od v8_0
          have q7 : x3_1 < (a0.size : Int) := od v8_0
          have hx7 := bt_at a0 x3_1
          replace p7 := eq_true p7
          replace q7 := eq_true q7
          have p9 : 0 ≤ (x3_1 : Int) := od v8_0
          have q9 : x3_1 < (a0.size : Int) := od v8_0
          have hx9 := bt_at a0 x3_1
          replace p9 := eq_true p9
          replace q9 := eq_true q9
          go_wp2
          go_roundg k1
          case measure => have := HK1.out; omega
          case rel => exact ⟨(wrap64 (x3_1 + 1)), (by first | rfl | (simp; done) | (simp [*]; done)), H', ⟨by have := HK1.out; omega⟩, s8_2⟩
        ·rw [if_neg c11] at H
         have c11b0 : decide ((bt a0 x3_1) ≤ 57) = false := decide_eq_false c11
         clear c11
         obtain rfl := oi H
         have p4 : 0 ≤ (x3_1 : Int) := od v8_0
         have q4 : x3_1 < (a0.size : Int) := od v8_0
         have hx4 := bt_at a0 x3_1
         replace p4 := eq_true p4
         replace q4 := eq_true q4
         have p6 : 0 ≤ (x3_1 : Int) := od v8_0
         have q6 : x3_1 < (a0.size : Int) := od v8_0
         have hx6 := bt_at a0 x3_1
         replace p6 := eq_true p6
         replace q6 := eq_true q6
         have p7 : 0 ≤ (x3_1 : Int) := od v8_0
         have q7 : x3_1 < (a0.size : Int) := od v8_0
         have hx7 := bt_at a0 x3_1
         replace p7 := eq_true p7
         replace q7 := eq_true q7
         have p9 : 0 ≤ (x3_1 : Int) := od v8_0
         have q9 : x3_1 < (a0.size : Int) := od v8_0
         have hx9 := bt_at a0 x3_1
         replace p9 := eq_true p9
         replace q9 := eq_true q9
         go_wp2
         go_ret
         exact ⟨by first | rfl | (simp; done) | (simp [*]; done), s8_2⟩
      ·rw [if_neg c8] at H
       have c8b0 : decide (48 ≤ (bt a0 x3_1)) = false := decide_eq_false c8
       clear c8
       by_cases c13 : ((bt a0 x3_1) ≤ 122)
       ·rw [if_pos c13] at H
        have c13b0 : decide ((bt a0 x3_1) ≤ 122) = true := decide_eq_true c13
        clear c13
        have H' := am H
        clear H
        have p4 : 0 ≤ (x3_1 : Int) := od v8_0
        have q4 : x3_1 < (a0.size : Int) := od v8_0
        have hx4 := bt_at a0 x3_1
        replace p4 := eq_true p4
        replace q4 := eq_true q4
        have p6 : 0 ≤ (x3_1 : Int) := od v8_0
        have q6 : x3_1 < (a0.size : Int) := od v8_0
        have hx6 := bt_at a0 x3_1
        replace p6 := eq_true p6
        replace q6 := eq_true q6
        have p7 : 0 ≤ (x3_1 : Int) := od v8_0
        have q7 : x3_1 < (a0.size : Int) := od v8_0
        have hx7 := bt_at a0 x3_1
        replace p7 := eq_true p7
        replace q7 := eq_true q7
        go_wp2
        go_roundg k1
        case measure => have := HK1.out; omega
        case rel => exact ⟨(wrap64 (x3_1 + 1)), (by first | rfl | (simp; done) | (simp [*]; done)), H', ⟨by have := HK1.out; omega⟩, s8_2⟩
       ·rw [if_neg c13] at H
        have c13b0 : decide ((bt a0 x3_1) ≤ 122) = false := decide_eq_false c13
        clear c13
        obtain rfl := oi H
        have p4 : 0 ≤ (x3_1 : Int) := od v8_0
        have q4 : x3_1 < (a0.size : Int) := od v8_0
        have hx4 := bt_at a0 x3_1
        replace p4 := eq_true p4
        replace q4 := eq_true q4
        have p6 : 0 ≤ (x3_1 : Int) := od v8_0
        have q6 : x3_1 < (a0.size : Int) := od v8_0
        have hx6 := bt_at a0 x3_1
        replace p6 := eq_true p6
        replace q6 := eq_true q6
        have p7 : 0 ≤ (x3_1 : Int) := od v8_0
        have q7 : x3_1 < (a0.size : Int) := od v8_0
        have hx7 := bt_at a0 x3_1
        replace p7 := eq_true p7
        replace q7 := eq_true q7
        go_wp2
        go_ret
        exact ⟨by first | rfl | (simp; done) | (simp [*]; done), s8_2⟩
     ·rw [if_neg c5] at H
      have c5b0 : decide (97 ≤ (bt a0 x3_1)) = false := decide_eq_false c5
      clear c5
      by_cases c15 : (bt a0 x3_1) ≥ 48
      ·rw [if_pos c15] at H
       have c15b0 : decide (48 ≤ (bt a0 x3_1)) = true := decide_eq_true c15
       clear c15
       by_cases c17 : ((bt a0 x3_1) ≤ 57)
       ·rw [if_pos c17] at H
        have c17b0 : decide ((bt a0 x3_1) ≤ 57) = true := decide_eq_true c17
        clear c17
        by_cases c18 : x3_1 = 0
        ·rw [if_pos c18] at H
         have c18b0 : (x3_1 == 0) = true := beq_iff_eq.mpr c18
         have c18b1 : (x3_1 != 0) = false := bne_eq_false_iff_eq.mpr c18
         clear c18
         obtain rfl := oi H
         have p4 : 0 ≤ (x3_1 : Int) := od v8_0
         have q4 : x3_1 < (a0.size : Int) := od v8_0
         have hx4 := bt_at a0 x3_1
         replace p4 := eq_true p4
         replace q4 := eq_true q4
         have p14 : 0 ≤ (x3_1 : Int) := od v8_0
         have q14 : x3_1 < (a0.size : Int) := od v8_0
         have hx14 := bt_at a0 x3_1
         replace p14 := eq_true p14
         replace q14 := eq_true q14
         have p16 : 0 ≤ (x3_1 : Int) := od v8_0
         have q16 : x3_1 < (a0.size : Int) := od v8_0
         have hx16 := bt_at a0 x3_1
         replace p16 := eq_true p16
         replace q16 := eq_true q16
         go_wp2
         go_ret
         exact ⟨by first | rfl | (simp; done) | (simp [*]; done), s8_2⟩
        ·rw [if_neg c18] at H
         have c18b0 : (x3_1 == 0) = false := beq_eq_false_iff_ne.mpr c18
         have c18b1 : (x3_1 != 0) = true := bne_iff_ne.mpr c18
         have H' := am H
         clear H
         have p4 : 0 ≤ (x3_1 : Int) := od v8_0
         have q4 : x3_1 < (a0.size : Int) := od v8_0
         have hx4 := bt_at a0 x3_1
         replace p4 := eq_true p4
         replace q4 := eq_true q4
         have p14 : 0 ≤ (x3_1 : Int) := od v8_0
         have q14 : x3_1 < (a0.size : Int) := od v8_0
         have hx14 := bt_at a0 x3_1
         replace p14 := eq_true p14
         replace q14 := eq_true q14
         have p16 : 0 ≤ (x3_1 : Int) := od v8_0
         have q16 : x3_1 < (a0.size : Int) := od v8_0
         have hx16 := bt_at a0 x3_1
         replace p16 := eq_true p16
         replace q16 := eq_true q16
         go_wp2
         go_roundg k1
         case measure => have := HK1.out; omega
         case rel => exact ⟨(wrap64 (x3_1 + 1)), (by first | rfl | (simp; done) | (simp [*]; done)), H', ⟨by have := HK1.out; omega⟩, s8_2⟩
       ·rw [if_neg c17] at H
        have c17b0 : decide ((bt a0 x3_1) ≤ 57) = false := decide_eq_false c17
        clear c17
        obtain rfl := oi H
        have p4 : 0 ≤ (x3_1 : Int) := od v8_0
        have q4 : x3_1 < (a0.size : Int) := od v8_0
        have hx4 := bt_at a0 x3_1
        replace p4 := eq_true p4
        replace q4 := eq_true q4
        have p14 : 0 ≤ (x3_1 : Int) := od v8_0
        have q14 : x3_1 < (a0.size : Int) := od v8_0
        have hx14 := bt_at a0 x3_1
        replace p14 := eq_true p14
        replace q14 := eq_true q14
        have p16 : 0 ≤ (x3_1 : Int) := od v8_0
        have q16 : x3_1 < (a0.size : Int) := od v8_0
        have hx16 := bt_at a0 x3_1
        replace p16 := eq_true p16
        replace q16 := eq_true q16
        go_wp2
        go_ret
        exact ⟨by first | rfl | (simp; done) | (simp [*]; done), s8_2⟩
      ·rw [if_neg c15] at H
       have c15b0 : decide (48 ≤ (bt a0 x3_1)) = false := decide_eq_false c15
       clear c15
       obtain rfl := oi H
       have p4 : 0 ≤ (x3_1 : Int) := od v8_0
       have q4 : x3_1 < (a0.size : Int) := od v8_0
       have hx4 := bt_at a0 x3_1
       replace p4 := eq_true p4
       replace q4 := eq_true q4
       have p14 : 0 ≤ (x3_1 : Int) := od v8_0
       have q14 : x3_1 < (a0.size : Int) := od v8_0
       have hx14 := bt_at a0 x3_1
       replace p14 := eq_true p14
       replace q14 := eq_true q14
       go_wp2
       go_ret
       exact ⟨by first | rfl | (simp; done) | (simp [*]; done), s8_2⟩
    ·rw [if_neg c3] at H
     exact absurd H (by simp)
   ·rw [if_neg c2] at H
    have c2b0 : decide (x3_1 < (a0.size : Int)) = false := decide_eq_false c2
    clear c2
    by_cases c19 : (a0.size : Int) > 0
    ·rw [if_pos c19] at H
     have c19b0 : decide (0 < (a0.size : Int)) = true := decide_eq_true c19
     have c19b1 : decide (0 < a0.size) = true := decide_eq_true (by omega)
     clear c19
     obtain rfl := oi H
     go_wp2
     go_ret
     exact ⟨by first | rfl | (simp; done) | (simp [*]; done), s8_2⟩
    ·rw [if_neg c19] at H
     have c19b0 : decide (0 < (a0.size : Int)) = false := decide_eq_false c19
     have c19b1 : decide (0 < a0.size) = false := decide_eq_false (by omega)
     clear c19
     obtain rfl := oi H
     go_wp2
     go_ret
     exact ⟨by first | rfl | (simp; done) | (simp [*]; done), s8_2⟩

/-! ### spec_l5Supply: function 58 -/
def spec_l5Supply.f (a0 : Int) : Option (Bool) := (spec_l1In.f a0 0 512).bind fun t217 => (some t217)
theorem spec_l5Supply.calls (a0 : Int) (r : Bool) (w : World) (h : spec_l5Supply.f a0 = some r) :
  Calls Tryd.prog 58 #[.int .i64 a0] w fun e w' => e = .returned (.bool r) ∧ Drawn0 w w' := by
 have H : ((spec_l1In.f a0 0 512).bind fun t217 => (some t217)) = some r := h
 clear h
 replace H := ob H
 obtain ⟨t217, A20, H⟩ := H
 replace H : (some t217) = some r := H
 have A2 := am A20
 clear A20
 obtain rfl := oi H
 go_enter Tryd.func58, Tryd.ntmps58
 go_wp2_with (first | ((with_reducible refine gate_callee (f := 43) rfl ?_); refine goesL_ (some 4) rfl rfl Tryd.func43 (by kernel_rfl) rfl #[.int .i64 a0, .int .i64 0, .int .i64 512] rfl u8_3 ?_; (with_reducible refine (spec_l1In.calls a0 0 512 t217 _ A2.out).mono ?_); rintro e w' ⟨rfl, ⟨nd, rfl⟩⟩; refine ⟨_, rfl, ?_⟩))
 go_ret
 exact ⟨by first | rfl | (simp; done) | (simp [*]; done), s8_2⟩

/-! ### spec_IsHeading: function 106 -/
def spec_IsHeading.f (a0 : Int) : Option (Bool) := if a0 ≥ 0 then (some (decide (a0 ≤ 3))) else (some false)
theorem spec_IsHeading.calls (a0 : Int) (r : Bool) (w : World) (h : spec_IsHeading.f a0 = some r) :
  Calls Tryd.prog 106 #[.int .i64 a0] w fun e w' => e = .returned (.bool r) ∧ Drawn0 w w' := by
 have H : (if a0 ≥ 0 then (some (decide (a0 ≤ 3))) else (some false)) = some r := h
 clear h
 by_cases c2 : a0 ≥ 0
 ·rw [if_pos c2] at H
  have c2b0 : decide (0 ≤ a0) = true := decide_eq_true c2
  clear c2
  obtain rfl := oi H
  go_enter Tryd.func106, Tryd.ntmps106
  go_wp2
  go_ret
  exact ⟨by first | rfl | (simp; done) | (simp [*]; done), s8_2⟩
 ·rw [if_neg c2] at H
  have c2b0 : decide (0 ≤ a0) = false := decide_eq_false c2
  clear c2
  obtain rfl := oi H
  go_enter Tryd.func106, Tryd.ntmps106
  go_wp2
  go_ret
  exact ⟨by first | rfl | (simp; done) | (simp [*]; done), s8_2⟩

/-! ### spec_IsJet: function 89 -/
def spec_IsJet.f (a0_0 : Int) (a0_1 : Int) (a0_2 : Int) (a0_3 : Int) (a0_4 : Int) : Option (Bool) := (spec_l1In.f a0_0 (-1024) 1024).bind fun t219 => (if t219 = true then ((spec_l1In.f a0_1 (-1024) 1024).bind fun t220 => (if t220 = true then ((spec_IsHeading.f a0_2).bind fun t221 => (if t221 = true then ((spec_l1In.f a0_3 0 16).bind fun t222 => (if t222 = true then ((spec_l1In.f a0_4 1 32).bind fun t223 => (some t223)) else (some false))) else (some false))) else (some false))) else (some false))
theorem spec_IsJet.calls (a0_0 : Int) (a0_1 : Int) (a0_2 : Int) (a0_3 : Int) (a0_4 : Int) (r : Bool) (w : World) (h : spec_IsJet.f a0_0 a0_1 a0_2 a0_3 a0_4 = some r) :
  Calls Tryd.prog 89 #[.agg #[.int .i64 a0_0, .int .i64 a0_1, .int .i64 a0_2, .int .i64 a0_3, .int .i64 a0_4]] w fun e w' => e = .returned (.bool r) ∧ Below w.heap.size w w' := by
 have hu79 := Tryd.underlying79
 have HB := am (Below.refl w.heap.size w)
 have H : ((spec_l1In.f a0_0 (-1024) 1024).bind fun t219 => (if t219 = true then ((spec_l1In.f a0_1 (-1024) 1024).bind fun t220 => (if t220 = true then ((spec_IsHeading.f a0_2).bind fun t221 => (if t221 = true then ((spec_l1In.f a0_3 0 16).bind fun t222 => (if t222 = true then ((spec_l1In.f a0_4 1 32).bind fun t223 => (some t223)) else (some false))) else (some false))) else (some false))) else (some false))) = some r := h
 clear h
 replace H := ob H
 obtain ⟨t219, A20, H⟩ := H
 replace H : (if t219 = true then ((spec_l1In.f a0_1 (-1024) 1024).bind fun t220 => (if t220 = true then ((spec_IsHeading.f a0_2).bind fun t221 => (if t221 = true then ((spec_l1In.f a0_3 0 16).bind fun t222 => (if t222 = true then ((spec_l1In.f a0_4 1 32).bind fun t223 => (some t223)) else (some false))) else (some false))) else (some false))) else (some false)) = some r := H
 have A2 := am A20
 clear A20
 by_cases c3 : t219 = true
 ·subst c3
  have H1 : ((spec_l1In.f a0_1 (-1024) 1024).bind fun t220 => (if t220 = true then ((spec_IsHeading.f a0_2).bind fun t221 => (if t221 = true then ((spec_l1In.f a0_3 0 16).bind fun t222 => (if t222 = true then ((spec_l1In.f a0_4 1 32).bind fun t223 => (some t223)) else (some false))) else (some false))) else (some false))) = some r := by rw [if_pos rfl] at H; exact H
  clear H
  have H := H1
  clear H1
  replace H := ob H
  obtain ⟨t220, A40, H⟩ := H
  replace H : (if t220 = true then ((spec_IsHeading.f a0_2).bind fun t221 => (if t221 = true then ((spec_l1In.f a0_3 0 16).bind fun t222 => (if t222 = true then ((spec_l1In.f a0_4 1 32).bind fun t223 => (some t223)) else (some false))) else (some false))) else (some false)) = some r := H
  have A4 := am A40
  clear A40
  by_cases c5 : t220 = true
  ·subst c5
   have H1 : ((spec_IsHeading.f a0_2).bind fun t221 => (if t221 = true then ((spec_l1In.f a0_3 0 16).bind fun t222 => (if t222 = true then ((spec_l1In.f a0_4 1 32).bind fun t223 => (some t223)) else (some false))) else (some false))) = some r := by rw [if_pos rfl] at H; exact H
   clear H
   have H := H1
   clear H1
   replace H := ob H
   obtain ⟨t221, A60, H⟩ := H
   replace H : (if t221 = true then ((spec_l1In.f a0_3 0 16).bind fun t222 => (if t222 = true then ((spec_l1In.f a0_4 1 32).bind fun t223 => (some t223)) else (some false))) else (some false)) = some r := H
   have A6 := am A60
   clear A60
   by_cases c7 : t221 = true
   ·subst c7
    have H1 : ((spec_l1In.f a0_3 0 16).bind fun t222 => (if t222 = true then ((spec_l1In.f a0_4 1 32).bind fun t223 => (some t223)) else (some false))) = some r := by rw [if_pos rfl] at H; exact H
    clear H
    have H := H1
    clear H1
    replace H := ob H
    obtain ⟨t222, A80, H⟩ := H
    replace H : (if t222 = true then ((spec_l1In.f a0_4 1 32).bind fun t223 => (some t223)) else (some false)) = some r := H
    have A8 := am A80
    clear A80
    by_cases c9 : t222 = true
    ·subst c9
     have H1 : ((spec_l1In.f a0_4 1 32).bind fun t223 => (some t223)) = some r := by rw [if_pos rfl] at H; exact H
     clear H
     have H := H1
     clear H1
     replace H := ob H
     obtain ⟨t223, A100, H⟩ := H
     replace H : (some t223) = some r := H
     have A10 := am A100
     clear A100
     obtain rfl := oi H
     go_enter Tryd.func89, Tryd.ntmps89
     go_wp2_with (first | ((with_reducible refine gate_dst (N := 1) rfl ?_); refine box_event ?hg (N := 1) ?hd (cs := #[.int .i64 a0_0, .int .i64 a0_1, .int .i64 a0_2, .int .i64 a0_3, .int .i64 a0_4]) (t := 79) ?hr ?_; (case hd => rfl); (case hg => rfl); (case hr => exact gq); intro gb218 hg w11 hbox hb; have n0_ := am (below_step u8_0 hb); have n1_ := am (hbox); have n2_ := bsw w hg (below_size u8_0); have n3_ := bsw w hg (below_size u8_0); clear HB; have HB := n0_; have BK218 := n1_; have GW218 := n2_; have GE218 := n3_; clear n0_ n1_ n2_ n3_ hb hbox hg; obtain ⟨hcz12_0, hcz12_1, hcz12_2, hcz12_3, hcz12_4, hfz12_0, hfz12_1, hfz12_2, hfz12_3, hfz12_4⟩ := cf5 BK218.out) | ((with_reducible refine gate_callee (f := 43) rfl ?_); refine goesL_ (some 7) rfl rfl Tryd.func43 (by kernel_rfl) rfl #[.int .i64 a0_0, .int .i64 (-1024), .int .i64 1024] rfl u8_3 ?_; (with_reducible refine (spec_l1In.calls a0_0 (-1024) 1024 true _ A2.out).mono ?_); rintro e w' ⟨rfl, ⟨nd, rfl⟩⟩; refine ⟨_, rfl, ?_⟩) | (go_at_call 43; (with_reducible refine (spec_l1In.calls a0_1 (-1024) 1024 true _ A4.out).mono ?_); rintro e w' ⟨rfl, ⟨nd, rfl⟩⟩) | (go_at_call 106; (with_reducible refine (spec_IsHeading.calls a0_2 true _ A6.out).mono ?_); rintro e w' ⟨rfl, ⟨nd, rfl⟩⟩) | (go_at_call 43; (with_reducible refine (spec_l1In.calls a0_3 0 16 true _ A8.out).mono ?_); rintro e w' ⟨rfl, ⟨nd, rfl⟩⟩) | (go_at_call 43; (with_reducible refine (spec_l1In.calls a0_4 1 32 t223 _ A10.out).mono ?_); rintro e w' ⟨rfl, ⟨nd, rfl⟩⟩))
     go_ret
     exact ⟨by first | rfl | (simp [*] <;> rfl), s8_0⟩
    ·replace c9 := Bool.eq_false_iff.mpr c9
     subst c9
     have H1 : (some false) = some r := by rw [if_neg (show ¬ (false = true) by decide)] at H; exact H
     clear H
     have H := H1
     clear H1
     obtain rfl := oi H
     go_enter Tryd.func89, Tryd.ntmps89
     go_wp2_with (first | ((with_reducible refine gate_dst (N := 1) rfl ?_); refine box_event ?hg (N := 1) ?hd (cs := #[.int .i64 a0_0, .int .i64 a0_1, .int .i64 a0_2, .int .i64 a0_3, .int .i64 a0_4]) (t := 79) ?hr ?_; (case hd => rfl); (case hg => rfl); (case hr => exact gq); intro gb218 hg w13 hbox hb; have n0_ := am (below_step u8_0 hb); have n1_ := am (hbox); have n2_ := bsw w hg (below_size u8_0); have n3_ := bsw w hg (below_size u8_0); clear HB; have HB := n0_; have BK218 := n1_; have GW218 := n2_; have GE218 := n3_; clear n0_ n1_ n2_ n3_ hb hbox hg; obtain ⟨hcz14_0, hcz14_1, hcz14_2, hcz14_3, hcz14_4, hfz14_0, hfz14_1, hfz14_2, hfz14_3, hfz14_4⟩ := cf5 BK218.out) | ((with_reducible refine gate_callee (f := 43) rfl ?_); refine goesL_ (some 7) rfl rfl Tryd.func43 (by kernel_rfl) rfl #[.int .i64 a0_0, .int .i64 (-1024), .int .i64 1024] rfl u8_3 ?_; (with_reducible refine (spec_l1In.calls a0_0 (-1024) 1024 true _ A2.out).mono ?_); rintro e w' ⟨rfl, ⟨nd, rfl⟩⟩; refine ⟨_, rfl, ?_⟩) | (go_at_call 43; (with_reducible refine (spec_l1In.calls a0_1 (-1024) 1024 true _ A4.out).mono ?_); rintro e w' ⟨rfl, ⟨nd, rfl⟩⟩) | (go_at_call 106; (with_reducible refine (spec_IsHeading.calls a0_2 true _ A6.out).mono ?_); rintro e w' ⟨rfl, ⟨nd, rfl⟩⟩) | (go_at_call 43; (with_reducible refine (spec_l1In.calls a0_3 0 16 false _ A8.out).mono ?_); rintro e w' ⟨rfl, ⟨nd, rfl⟩⟩))
     go_ret
     exact ⟨by first | rfl | (simp [*] <;> rfl), s8_0⟩
   ·replace c7 := Bool.eq_false_iff.mpr c7
    subst c7
    have H1 : (some false) = some r := by rw [if_neg (show ¬ (false = true) by decide)] at H; exact H
    clear H
    have H := H1
    clear H1
    obtain rfl := oi H
    go_enter Tryd.func89, Tryd.ntmps89
    go_wp2_with (first | ((with_reducible refine gate_dst (N := 1) rfl ?_); refine box_event ?hg (N := 1) ?hd (cs := #[.int .i64 a0_0, .int .i64 a0_1, .int .i64 a0_2, .int .i64 a0_3, .int .i64 a0_4]) (t := 79) ?hr ?_; (case hd => rfl); (case hg => rfl); (case hr => exact gq); intro gb218 hg w15 hbox hb; have n0_ := am (below_step u8_0 hb); have n1_ := am (hbox); have n2_ := bsw w hg (below_size u8_0); have n3_ := bsw w hg (below_size u8_0); clear HB; have HB := n0_; have BK218 := n1_; have GW218 := n2_; have GE218 := n3_; clear n0_ n1_ n2_ n3_ hb hbox hg; obtain ⟨hcz16_0, hcz16_1, hcz16_2, hcz16_3, hcz16_4, hfz16_0, hfz16_1, hfz16_2, hfz16_3, hfz16_4⟩ := cf5 BK218.out) | ((with_reducible refine gate_callee (f := 43) rfl ?_); refine goesL_ (some 7) rfl rfl Tryd.func43 (by kernel_rfl) rfl #[.int .i64 a0_0, .int .i64 (-1024), .int .i64 1024] rfl u8_3 ?_; (with_reducible refine (spec_l1In.calls a0_0 (-1024) 1024 true _ A2.out).mono ?_); rintro e w' ⟨rfl, ⟨nd, rfl⟩⟩; refine ⟨_, rfl, ?_⟩) | (go_at_call 43; (with_reducible refine (spec_l1In.calls a0_1 (-1024) 1024 true _ A4.out).mono ?_); rintro e w' ⟨rfl, ⟨nd, rfl⟩⟩) | (go_at_call 106; (with_reducible refine (spec_IsHeading.calls a0_2 false _ A6.out).mono ?_); rintro e w' ⟨rfl, ⟨nd, rfl⟩⟩))
    go_ret
    exact ⟨by first | rfl | (simp [*] <;> rfl), s8_0⟩
  ·replace c5 := Bool.eq_false_iff.mpr c5
   subst c5
   have H1 : (some false) = some r := by rw [if_neg (show ¬ (false = true) by decide)] at H; exact H
   clear H
   have H := H1
   clear H1
   obtain rfl := oi H
   go_enter Tryd.func89, Tryd.ntmps89
   go_wp2_with (first | ((with_reducible refine gate_dst (N := 1) rfl ?_); refine box_event ?hg (N := 1) ?hd (cs := #[.int .i64 a0_0, .int .i64 a0_1, .int .i64 a0_2, .int .i64 a0_3, .int .i64 a0_4]) (t := 79) ?hr ?_; (case hd => rfl); (case hg => rfl); (case hr => exact gq); intro gb218 hg w17 hbox hb; have n0_ := am (below_step u8_0 hb); have n1_ := am (hbox); have n2_ := bsw w hg (below_size u8_0); have n3_ := bsw w hg (below_size u8_0); clear HB; have HB := n0_; have BK218 := n1_; have GW218 := n2_; have GE218 := n3_; clear n0_ n1_ n2_ n3_ hb hbox hg; obtain ⟨hcz18_0, hcz18_1, hcz18_2, hcz18_3, hcz18_4, hfz18_0, hfz18_1, hfz18_2, hfz18_3, hfz18_4⟩ := cf5 BK218.out) | ((with_reducible refine gate_callee (f := 43) rfl ?_); refine goesL_ (some 7) rfl rfl Tryd.func43 (by kernel_rfl) rfl #[.int .i64 a0_0, .int .i64 (-1024), .int .i64 1024] rfl u8_3 ?_; (with_reducible refine (spec_l1In.calls a0_0 (-1024) 1024 true _ A2.out).mono ?_); rintro e w' ⟨rfl, ⟨nd, rfl⟩⟩; refine ⟨_, rfl, ?_⟩) | (go_at_call 43; (with_reducible refine (spec_l1In.calls a0_1 (-1024) 1024 false _ A4.out).mono ?_); rintro e w' ⟨rfl, ⟨nd, rfl⟩⟩))
   go_ret
   exact ⟨by first | rfl | (simp [*] <;> rfl), s8_0⟩
 ·replace c3 := Bool.eq_false_iff.mpr c3
  subst c3
  have H1 : (some false) = some r := by rw [if_neg (show ¬ (false = true) by decide)] at H; exact H
  clear H
  have H := H1
  clear H1
  obtain rfl := oi H
  go_enter Tryd.func89, Tryd.ntmps89
  go_wp2_with (first | ((with_reducible refine gate_dst (N := 1) rfl ?_); refine box_event ?hg (N := 1) ?hd (cs := #[.int .i64 a0_0, .int .i64 a0_1, .int .i64 a0_2, .int .i64 a0_3, .int .i64 a0_4]) (t := 79) ?hr ?_; (case hd => rfl); (case hg => rfl); (case hr => exact gq); intro gb218 hg w19 hbox hb; have n0_ := am (below_step u8_1 hb); have n1_ := am (hbox); have n2_ := bsw w hg (below_size u8_1); have n3_ := bsw w hg (below_size u8_1); clear HB; have HB := n0_; have BK218 := n1_; have GW218 := n2_; have GE218 := n3_; clear n0_ n1_ n2_ n3_ hb hbox hg; obtain ⟨hcz20_0, hcz20_1, hcz20_2, hcz20_3, hcz20_4, hfz20_0, hfz20_1, hfz20_2, hfz20_3, hfz20_4⟩ := cf5 BK218.out) | ((with_reducible refine gate_callee (f := 43) rfl ?_); refine goesL_ (some 7) rfl rfl Tryd.func43 (by kernel_rfl) rfl #[.int .i64 a0_0, .int .i64 (-1024), .int .i64 1024] rfl u8_3 ?_; (with_reducible refine (spec_l1In.calls a0_0 (-1024) 1024 false _ A2.out).mono ?_); rintro e w' ⟨rfl, ⟨nd, rfl⟩⟩; refine ⟨_, rfl, ?_⟩))
  go_ret
  exact ⟨by first | rfl | (simp [*] <;> rfl), s8_0⟩

/-! ### spec_l6Jet: function 59 -/
def spec_l6Jet.f (a0_0 : ByteArray) (a0_1 : Int) (a0_2 : ByteArray) (a0_3 : Int) (a0_4 : Int) (a0_5 : Int) (a0_6 : Int) (a0_7 : Int) : Option (Bool) := (spec_IsJet.f a0_3 a0_4 a0_5 a0_6 1).bind fun t225 => (some t225)
theorem spec_l6Jet.calls (a0_0 : ByteArray) (a0_1 : Int) (a0_2 : ByteArray) (a0_3 : Int) (a0_4 : Int) (a0_5 : Int) (a0_6 : Int) (a0_7 : Int) (r : Bool) (w : World) (h : spec_l6Jet.f a0_0 a0_1 a0_2 a0_3 a0_4 a0_5 a0_6 a0_7 = some r) :
  Calls Tryd.prog 59 #[.agg #[.string a0_0, .int .i64 a0_1, .string a0_2, .int .i64 a0_3, .int .i64 a0_4, .int .i64 a0_5, .int .i64 a0_6, .int .i64 a0_7]] w fun e w' => e = .returned (.bool r) ∧ Below w.heap.size w w' := by
 have hu38 := Tryd.underlying38
 have hu36 := Tryd.underlying36
 have hu79 := Tryd.underlying79
 have HB := am (Below.refl w.heap.size w)
 have H : ((spec_IsJet.f a0_3 a0_4 a0_5 a0_6 1).bind fun t225 => (some t225)) = some r := h
 clear h
 replace H := ob H
 obtain ⟨t225, A20, H⟩ := H
 replace H : (some t225) = some r := H
 have A2 := am A20
 clear A20
 obtain rfl := oi H
 go_enter Tryd.func59, Tryd.ntmps59
 go_wp2_with (first | ((with_reducible refine gate_dst (N := 1) rfl ?_); refine box_event ?hg (N := 1) ?hd (cs := #[.string a0_0, .int .i64 a0_1, .string a0_2, .int .i64 a0_3, .int .i64 a0_4, .int .i64 a0_5, .int .i64 a0_6, .int .i64 a0_7]) (t := 38) ?hr ?_; (case hd => rfl); (case hg => rfl); (case hr => exact gq); intro gb224 hg w3 hbox hb; have n0_ := am (below_step u8_1 hb); have n1_ := am (hbox); have n2_ := bsw w hg (below_size u8_1); have n3_ := bsw w hg (below_size u8_1); clear HB; have HB := n0_; have BK224 := n1_; have GW224 := n2_; have GE224 := n3_; clear n0_ n1_ n2_ n3_ hb hbox hg; obtain ⟨hcz4_0, hcz4_1, hcz4_2, hcz4_3, hcz4_4, hcz4_5, hcz4_6, hcz4_7, hfz4_0, hfz4_1, hfz4_2, hfz4_3, hfz4_4, hfz4_5, hfz4_6, hfz4_7⟩ := cf8 BK224.out) | ((with_reducible refine gate_callee (f := 89) rfl ?_); refine goesL_ (some 10) rfl rfl Tryd.func89 (by kernel_rfl) rfl #[.agg #[.int .i64 a0_3, .int .i64 a0_4, .int .i64 a0_5, .int .i64 a0_6, .int .i64 1]] rfl u8_3 ?_; (with_reducible refine (spec_IsJet.calls a0_3 a0_4 a0_5 a0_6 1 t225 _ A2.out).mono ?_); rintro e w5 ⟨rfl, hb⟩; refine ⟨_, rfl, ?_⟩; have n0_ := am (blk_below (g := gb224) (o := zo0 a0_0 a0_1 a0_2 a0_3 a0_4 a0_5 a0_6 a0_7) (bd BK224.out) hb); have n1_ := am (below_step (by repeat (first | (with_reducible first | exact HB.out | apply below_alloc | apply pw_below_drewN | apply below_drew1 | refine below_set ?_ GE224.out) | exact HB.out)) hb); clear BK224 HB; have BK224 := n0_; have HB := n1_; clear n0_ n1_; (try clear hb); (try clear hb2); (try clear hk); (try clear hi)))
 go_ret
 exact ⟨by first | rfl | (simp [*] <;> rfl), by repeat (first | (with_reducible first | exact HB.out | apply below_alloc | apply pw_below_drewN | apply below_drew1 | refine below_set ?_ GE224.out) | exact HB.out)⟩

/-! ### spec_IsMeasure: function 90 -/
def spec_IsMeasure.f (a0 : Int) : Option (Bool) := if a0 ≥ (-4096) then (some (decide (a0 ≤ 4096))) else (some false)
theorem spec_IsMeasure.calls (a0 : Int) (r : Bool) (w : World) (h : spec_IsMeasure.f a0 = some r) :
  Calls Tryd.prog 90 #[.int .i64 a0] w fun e w' => e = .returned (.bool r) ∧ Drawn0 w w' := by
 have H : (if a0 ≥ (-4096) then (some (decide (a0 ≤ 4096))) else (some false)) = some r := h
 clear h
 by_cases c2 : a0 ≥ (-4096)
 ·rw [if_pos c2] at H
  have c2b0 : decide ((-4096) ≤ a0) = true := decide_eq_true c2
  clear c2
  obtain rfl := oi H
  go_enter Tryd.func90, Tryd.ntmps90
  go_wp2
  go_ret
  exact ⟨by first | rfl | (simp; done) | (simp [*]; done), s8_2⟩
 ·rw [if_neg c2] at H
  have c2b0 : decide ((-4096) ≤ a0) = false := decide_eq_false c2
  clear c2
  obtain rfl := oi H
  go_enter Tryd.func90, Tryd.ntmps90
  go_wp2
  go_ret
  exact ⟨by first | rfl | (simp; done) | (simp [*]; done), s8_2⟩

/-! ### spec_IsPlace: function 60 -/
def spec_IsPlace.f (a0_0 : Int) (a0_1 : Int) : Option (Bool) := (spec_IsMeasure.f a0_0).bind fun t227 => (if t227 = true then ((spec_IsMeasure.f a0_1).bind fun t228 => (some t228)) else (some false))
theorem spec_IsPlace.calls (a0_0 : Int) (a0_1 : Int) (r : Bool) (w : World) (h : spec_IsPlace.f a0_0 a0_1 = some r) :
  Calls Tryd.prog 60 #[.agg #[.int .i64 a0_0, .int .i64 a0_1]] w fun e w' => e = .returned (.bool r) ∧ Below w.heap.size w w' := by
 have hu36 := Tryd.underlying36
 have HB := am (Below.refl w.heap.size w)
 have H : ((spec_IsMeasure.f a0_0).bind fun t227 => (if t227 = true then ((spec_IsMeasure.f a0_1).bind fun t228 => (some t228)) else (some false))) = some r := h
 clear h
 replace H := ob H
 obtain ⟨t227, A20, H⟩ := H
 replace H : (if t227 = true then ((spec_IsMeasure.f a0_1).bind fun t228 => (some t228)) else (some false)) = some r := H
 have A2 := am A20
 clear A20
 by_cases c3 : t227 = true
 ·subst c3
  have H1 : ((spec_IsMeasure.f a0_1).bind fun t228 => (some t228)) = some r := by rw [if_pos rfl] at H; exact H
  clear H
  have H := H1
  clear H1
  replace H := ob H
  obtain ⟨t228, A40, H⟩ := H
  replace H : (some t228) = some r := H
  have A4 := am A40
  clear A40
  obtain rfl := oi H
  go_enter Tryd.func60, Tryd.ntmps60
  go_wp2_with (first | ((with_reducible refine gate_dst (N := 1) rfl ?_); refine box_event ?hg (N := 1) ?hd (cs := #[.int .i64 a0_0, .int .i64 a0_1]) (t := 36) ?hr ?_; (case hd => rfl); (case hg => rfl); (case hr => exact gq); intro gb226 hg w5 hbox hb; have n0_ := am (below_step u8_0 hb); have n1_ := am (hbox); have n2_ := bsw w hg (below_size u8_0); have n3_ := bsw w hg (below_size u8_0); clear HB; have HB := n0_; have BK226 := n1_; have GW226 := n2_; have GE226 := n3_; clear n0_ n1_ n2_ n3_ hb hbox hg; obtain ⟨hcz6_0, hcz6_1, hfz6_0, hfz6_1⟩ := cf2 BK226.out) | ((with_reducible refine gate_callee (f := 90) rfl ?_); refine goesL_ (some 5) rfl rfl Tryd.func90 (by kernel_rfl) rfl #[.int .i64 a0_0] rfl u8_3 ?_; (with_reducible refine (spec_IsMeasure.calls a0_0 true _ A2.out).mono ?_); rintro e w' ⟨rfl, ⟨nd, rfl⟩⟩; refine ⟨_, rfl, ?_⟩) | (go_at_call 90; (with_reducible refine (spec_IsMeasure.calls a0_1 t228 _ A4.out).mono ?_); rintro e w' ⟨rfl, ⟨nd, rfl⟩⟩))
  go_ret
  exact ⟨by first | rfl | (simp [*] <;> rfl), s8_1⟩
 ·replace c3 := Bool.eq_false_iff.mpr c3
  subst c3
  have H1 : (some false) = some r := by rw [if_neg (show ¬ (false = true) by decide)] at H; exact H
  clear H
  have H := H1
  clear H1
  obtain rfl := oi H
  go_enter Tryd.func60, Tryd.ntmps60
  go_wp2_with (first | ((with_reducible refine gate_dst (N := 1) rfl ?_); refine box_event ?hg (N := 1) ?hd (cs := #[.int .i64 a0_0, .int .i64 a0_1]) (t := 36) ?hr ?_; (case hd => rfl); (case hg => rfl); (case hr => exact gq); intro gb226 hg w7 hbox hb; have n0_ := am (below_step u8_1 hb); have n1_ := am (hbox); have n2_ := bsw w hg (below_size u8_1); have n3_ := bsw w hg (below_size u8_1); clear HB; have HB := n0_; have BK226 := n1_; have GW226 := n2_; have GE226 := n3_; clear n0_ n1_ n2_ n3_ hb hbox hg; obtain ⟨hcz8_0, hcz8_1, hfz8_0, hfz8_1⟩ := cf2 BK226.out) | ((with_reducible refine gate_callee (f := 90) rfl ?_); refine goesL_ (some 5) rfl rfl Tryd.func90 (by kernel_rfl) rfl #[.int .i64 a0_0] rfl u8_3 ?_; (with_reducible refine (spec_IsMeasure.calls a0_0 false _ A2.out).mono ?_); rintro e w' ⟨rfl, ⟨nd, rfl⟩⟩; refine ⟨_, rfl, ?_⟩))
  go_ret
  exact ⟨by first | rfl | (simp [*] <;> rfl), s8_1⟩

end Go.Proofs.YthofcclbkihemaaDoor.MFnExactParseDevice
