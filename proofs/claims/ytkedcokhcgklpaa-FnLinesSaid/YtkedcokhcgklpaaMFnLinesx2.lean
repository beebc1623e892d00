-- Written by a program for this claim.
import Derived.Shelf.Abstract
import Derived.Test.YtkedcokhcgklpaaMFnLinesx0
import Derived.Test.YtkedcokhcgklpaaMFnLinesx1
namespace Go.Proofs.Ytkedcokhcgklpaa.MFnLines
open Go.RowKit Go.Proofs.YtkedcokhcgklpaaW.PrintWords Go.Proofs.YtkedcokhcgklpaaW.PrintLast Go.Proofs.YtkedcokhcgklpaaW.PrintMore
attribute [local go_sem] max2_int min2_int max_two min_two max_three min_three max_four min_four   -- for this text's walks alone
set_option linter.unusedVariables false
set_option linter.unusedSimpArgs false

attribute [local go_sem high] eqA30
-- NOT PRINTED: function 61 (impl_Device)

theorem s2_0 {p : Prop} (h : p := by repeat (first | (with_reducible first | exact HB.out | apply below_alloc | apply pw_below_drewN | apply below_drew1 | refine below_set ?_ GE106.out) | exact HB.out)) : p := h
theorem s2_1 {p : Prop} (h : p := by repeat (first | (with_reducible first | exact HB.out | apply below_alloc | apply pw_below_drewN | apply below_drew1 | refine below_set ?_ GE113.out) | exact HB.out)) : p := h
theorem s2_2 {p : Prop} (h : p := by repeat (first | (with_reducible first | exact HB.out | apply below_alloc | apply pw_below_drewN | apply below_drew1 | refine below_set ?_ GE116.out) | exact HB.out)) : p := h
theorem s2_3 {p : Prop} (h : p := by repeat (first | exact Drawn0.refl _ | apply Drawn0.step)) : p := h
theorem u2_0 {p : Prop} (h : p := by repeat (first | (with_reducible first | exact HB.out | apply below_alloc | apply pw_below_drewN | apply below_drew1) | exact HB.out)) : p := h
theorem u2_1 {p : Prop} (h : p := by (try simp only [List.map_toArray, List.map_cons, List.map_nil]); first | done | rfl) : p := h
theorem u2_2 {p : Prop} (h : p := by assumption) : p := h
theorem u2_3 {p : Prop} (h : p := by repeat (first | (with_reducible first | exact HB.out | apply below_alloc | apply pw_below_drewN | apply below_drew1 | refine below_set ?_ GE116.out) | exact HB.out)) : p := h
theorem u2_4 {p : Prop} (h : p := by (with_reducible repeat (first | refine blk_drewN ?_ _ | refine blk_drew ?_ | refine blk_alloc ?_ _)); exact BK116.out) : p := h
theorem u2_5 {p : Prop} (h : p := by first | rfl | (simp; done) | (simp [*]; done)) : p := h
/-! ### impl_FindDevice: function 22 -/
def impl_FindDevice.l0 : Nat → ByteArray → List (S30) → Int → Int → Option (Int)
 | 0, _, _, _, _ => none
 | k + 1, x1, x7, x8, x9 => if x9 < x8 then (if 0 ≤ x9 then (if x9 < (x7.length : Int) then (if ((rd_T30 x7 x9).f0).toList = x1.toList then (some x9) else (impl_FindDevice.l0 k x1 x7 x8 (wrap64 (x9 + 1)))) else (none)) else (none)) else (some (-1))
def impl_FindDevice.f (k : Nat) (l0 : List (S30)) (a1 : ByteArray) : Option (Int) := impl_FindDevice.l0 k a1 l0 (l0.length : Int) 0
theorem impl_FindDevice.mono_l : ∀ k, (∀ y0 y1 y2 y3, LeO (impl_FindDevice.l0 k y0 y1 y2 y3) (impl_FindDevice.l0 (k + 1) y0 y1 y2 y3))
 | 0 => fun _ _ _ _ r h => by simp [impl_FindDevice.l0] at h
 | k + 1 => by
  have ih0 := impl_FindDevice.mono_l k
  ·intro y0 y1 y2 y3
   unfold impl_FindDevice.l0
   repeat' first
   | (with_reducible exact ih0 _ _ _ _)
   | (with_reducible exact LeO.refl _)
   | (with_reducible exact LeO.none _)
   | (with_reducible refine LeO.ite ?_ ?_)
   | (with_reducible refine LeO.bind ?_ (fun _ => ?_))
theorem impl_FindDevice.mono : ∀ a0 a1 k, LeO (impl_FindDevice.f k a0 a1) (impl_FindDevice.f (k + 1) a0 a1) := by
 intro a0 a1 k
 have ih0 := impl_FindDevice.mono_l k
 unfold impl_FindDevice.f
 repeat' first
   | (with_reducible exact ih0 _ _ _ _)
   | (with_reducible exact LeO.refl _)
   | (with_reducible exact LeO.none _)
   | (with_reducible refine LeO.ite ?_ ?_)
   | (with_reducible refine LeO.bind ?_ (fun _ => ?_))
theorem fd_below {w W : World} (h : Below w.heap.size w W) {b : Nat} (hb : b < w.heap.size) (i : Nat) : W.cell? ⟨b, i, none⟩ = w.cell? ⟨b, i, none⟩ := h.cell (p := ⟨b, i, none⟩) hb
set_option maxHeartbeats 2000000 in
theorem fd_pred (nm : ByteArray) (B : Nat) (W : World) (hB : B < W.heap.size) (hc : W.cell? ⟨B, 0, none⟩ = some (.string nm)) (x0 : ByteArray) (x1 : Int) (x2 : ByteArray) (x3 x4 x5 x6 x7 : Int) :
  Calls Try.prog 62 #[.agg #[.string x0, .int .i64 x1, .string x2, .int .i64 x3, .int .i64 x4, .int .i64 x5, .int .i64 x6, .int .i64 x7], .pointer (some ⟨B, 0, none⟩)] W
   fun e w' => e = .returned (.bool (x0.toList == nm.toList)) ∧ Below W.heap.size W w' := by
 have hne : B ≠ W.heap.size := by omega
 go_enter Try.func62, Try.ntmps62
 go_wp2
 all_goals (go_ret; exact ⟨by simp_all, (Below.refl _ W).alloc (Nat.le_refl _) _⟩)
set_option maxHeartbeats 8000000 in
set_option maxRecDepth 100000 in
theorem fd_index (k : Nat) (A0 : Option Addr) (c0 : Nat) (l0 : List (S30)) (a1 : ByteArray) (r : Int) (B : Nat) (w : World) (hr0 : Kd.C k30 w A0 l0.length l0) (hB : B < w.heap.size) (hcell : w.cell? ⟨B, 0, none⟩ = some (.string a1)) (h : impl_FindDevice.f k l0 a1 = some r) :
  Calls Try.prog 61 #[.slice A0 l0.length c0, .func (.func 62) #[] #[.pointer (some ⟨B, 0, none⟩)]] w fun e w' => e = .returned (.int .i64 r) ∧ Below w.heap.size w w' := by
 have hu30 := Try.underlying30
 have HR0 := am hr0
 clear hr0
 have HC := am hcell
 clear hcell
 have eg : ∀ args w, (callFunc 62 args).run Try.prog w = .ok (.enter 62 args) w := enters_of Try.func62 (by kernel_rfl) rfl
 have HB := am (Below.refl w.heap.size w)
 have H : (impl_FindDevice.l0 k a1 l0 (l0.length : Int) 0) = some r := h
 clear h
 have H' := am H
 clear H
 go_enter Try.func61, Try.ntmps61
 go_wp2
 go_loopg [5, 8] k (fun kq _ v9 w' => ∃ (x9_1 : Int), v9 = .int .i64 x9_1 ∧ Aside0 (impl_FindDevice.l0 kq a1 l0 (l0.length : Int) x9_1 = some r) ∧ Aside0 (kq ≤ k) ∧ Aside0 (Below w.heap.size w w'))
 case atStart => exact ⟨(0), u2_5, H', ⟨Nat.le_refl _⟩, ⟨by exact HB.out⟩⟩
 case round =>
  clear H'
  obtain ⟨x9_1, rfl, HA, HK1, HB⟩ := hrel
  cases gk with
  | zero => exact absurd HA.out (by simp [impl_FindDevice.l0])
  | succ k1 =>
   have H := HA.out
   clear HA
   simp only [impl_FindDevice.l0] at H
   by_cases c3 : x9_1 < (l0.length : Int)
   ·rw [if_pos c3] at H
    have c3b0 : decide (x9_1 < (l0.length : Int)) = true := decide_eq_true c3
    by_cases c4 : 0 ≤ x9_1
    ·rw [if_pos c4, if_pos c3] at H
     have c4b0 : decide (0 ≤ x9_1) = true := decide_eq_true c4
     have p127 : 0 ≤ (x9_1 : Int) := c4
     have q127 : x9_1 < (l0.length : Int) := c3
     obtain ⟨ad127, e127, hx127_0, hx127_1, hx127_2, hx127_3, hx127_4, hx127_5, hx127_6, hx127_7⟩ := at_T30 (Kd.C_below HR0.out HB.out) x9_1 p127 q127
     cases e127
     clear c3 c4
     replace p127 := eq_true p127
     replace q127 := eq_true q127
     have hBw : B < wr.heap.size := Nat.lt_of_lt_of_le hB HB.out.size
     have hcw : wr.cell? ⟨B, 0, none⟩ = some (.string a1) := (HB.out.cell (p := ⟨B, 0, none⟩) hB).trans HC.out
     have hcall := fd_pred a1 B wr hBw hcw (rd_T30 l0 x9_1).f0 (rd_T30 l0 x9_1).f1 (rd_T30 l0 x9_1).f2 (rd_T30 l0 x9_1).f3.f0 (rd_T30 l0 x9_1).f3.f1 (rd_T30 l0 x9_1).f4 (rd_T30 l0 x9_1).f5 (rd_T30 l0 x9_1).f6
     clear hcw
     by_cases c6 : ((rd_T30 l0 x9_1).f0).toList = a1.toList
     ·rw [if_pos c6] at H
      rw [beq_iff_eq.mpr c6] at hcall
      clear c6
      obtain rfl := Option.some.inj H
      go_wp2_with (go_at_fn 62; refine hcall.mono ?_; rintro e w' ⟨rfl, hb'⟩)
      go_ret
      exact ⟨rfl, HB.out.trans (hb'.mono HB.out.size)⟩
     ·rw [if_neg c6] at H
      rw [beq_eq_false_iff_ne.mpr c6] at hcall
      clear c6
      have H' := am H
      clear H
      go_wp2_with (go_at_fn 62; refine hcall.mono ?_; rintro e w' ⟨rfl, hb'⟩)
      go_roundg k1
      case measure => have := HK1.out; omega
      case rel => exact ⟨(wrap64 (x9_1 + 1)), u2_5, H', ⟨by have := HK1.out; omega⟩, ⟨HB.out.trans (hb'.mono HB.out.size)⟩⟩
    ·rw [if_neg c4] at H
     exact absurd H (by simp)
   ·rw [if_neg c3] at H
    have c3b0 : decide (x9_1 < (l0.length : Int)) = false := decide_eq_false c3
    clear c3
    obtain rfl := Option.some.inj H
    go_wp2
    go_ret
    exact ⟨rfl, HB.out⟩
set_option maxHeartbeats 8000000 in
set_option maxRecDepth 100000 in
theorem impl_FindDevice.calls (k : Nat) (A0 : Option Addr) (c0 : Nat) (l0 : List (S30)) (a1 : ByteArray) (r : Int) (w : World) (hr0 : Kd.C k30 w A0 l0.length l0) (hc0 : l0.length ≤ c0) (h : impl_FindDevice.f k l0 a1 = some r) :
  Calls Try.prog 22 #[.slice A0 l0.length c0, .string a1] w fun e w' => e = .returned (.int .i64 r) ∧ Below w.heap.size w w' := by
 have hr1 : Kd.C k30 (w.alloc (.cells #[.string a1] 9)) A0 l0.length l0 := Kd.C_below hr0 ((Below.refl _ w).alloc (Nat.le_refl _) _)
 have hcon := fd_index k A0 c0 l0 a1 r w.heap.size (w.alloc (.cells #[.string a1] 9)) hr1 (by simp) (by simp) h
 clear hr1 hr0 h
 go_enter Try.func22, Try.ntmps22
 go_wp2_with (go_at_call 61; refine hcon.mono ?_; rintro e w' ⟨rfl, hb'⟩)
 go_ret
 exact ⟨rfl, ((Below.refl _ w).alloc (Nat.le_refl _) _).trans (hb'.mono (by simp))⟩

/-! ### impl_isWithin: function 59 -/
def impl_isWithin.f (a0 : Int) (a1 : Int) (a2 : Int) : Option (Bool) := if a1 ≤ a0 then (some (decide (a0 ≤ a2))) else (some false)
set_option maxHeartbeats 8000000 in
set_option maxRecDepth 100000 in
theorem impl_isWithin.calls (a0 : Int) (a1 : Int) (a2 : Int) (r : Bool) (w : World) (h : impl_isWithin.f a0 a1 a2 = some r) :
  Calls Try.prog 59 #[.int .i64 a0, .int .i64 a1, .int .i64 a2] w fun e w' => e = .returned (.bool r) ∧ Drawn0 w w' := by
 have H : (if a1 ≤ a0 then (some (decide (a0 ≤ a2))) else (some false)) = some r := h
 clear h
 by_cases c4 : a1 ≤ a0
 ·rw [if_pos c4] at H
  have c4b0 : decide (a1 ≤ a0) = true := decide_eq_true c4
  clear c4
  obtain rfl := Option.some.inj H
  go_enter Try.func59, Try.ntmps59
  go_wp2
  go_ret
  exact ⟨by first | rfl | (simp; done) | (simp [*]; done), s2_3⟩
 ·rw [if_neg c4] at H
  have c4b0 : decide (a1 ≤ a0) = false := decide_eq_false c4
  clear c4
  obtain rfl := Option.some.inj H
  go_enter Try.func59, Try.ntmps59
  go_wp2
  go_ret
  exact ⟨by first | rfl | (simp; done) | (simp [*]; done), s2_3⟩

/-! ### impl_IsName: function 56 -/
def impl_IsName.l0 : Nat → ByteArray → Int → Int → Option (Bool)
 | 0, _, _, _ => none
 | k + 1, x0, x6, x7 => if x7 < x6 then (if 0 ≤ x7 then (if x7 < (x0.size : Int) then (if (bt x0 x7) ≥ 97 then (if ((bt x0 x7) ≤ 122) then (impl_IsName.l0 k x0 x6 (wrap64 (x7 + 1))) else (if x7 = 0 then (some false) else (if (bt x0 x7) < 48 then (some false) else (if (bt x0 x7) > 57 then (some false) else (impl_IsName.l0 k x0 x6 (wrap64 (x7 + 1))))))) else (if x7 = 0 then (some false) else (if (bt x0 x7) < 48 then (some false) else (if (bt x0 x7) > 57 then (some false) else (impl_IsName.l0 k x0 x6 (wrap64 (x7 + 1))))))) else (none)) else (none)) else ((impl_isWithin.f (x0.size : Int) 1 8).bind fun t103 => (some t103))
def impl_IsName.f (k : Nat) (a0 : ByteArray) : Option (Bool) := impl_IsName.l0 k a0 (a0.size : Int) 0
theorem impl_IsName.mono_l : ∀ k, (∀ y0 y1 y2, LeO (impl_IsName.l0 k y0 y1 y2) (impl_IsName.l0 (k + 1) y0 y1 y2))
 | 0 => fun _ _ _ r h => by simp [impl_IsName.l0] at h
 | k + 1 => by
  have ih0 := impl_IsName.mono_l k
  ·intro y0 y1 y2
   unfold impl_IsName.l0
   repeat' first
   | (with_reducible exact ih0 _ _ _)
   | (with_reducible exact LeO.refl _)
   | (with_reducible exact LeO.none _)
   | (with_reducible refine LeO.ite ?_ ?_)
   | (with_reducible refine LeO.bind ?_ (fun _ => ?_))
theorem impl_IsName.mono : ∀ a0 k, LeO (impl_IsName.f k a0) (impl_IsName.f (k + 1) a0) := by
 intro a0 k
 have ih0 := impl_IsName.mono_l k
 unfold impl_IsName.f
 repeat' first
   | (with_reducible exact ih0 _ _ _)
   | (with_reducible exact LeO.refl _)
   | (with_reducible exact LeO.none _)
   | (with_reducible refine LeO.ite ?_ ?_)
   | (with_reducible refine LeO.bind ?_ (fun _ => ?_))
set_option maxHeartbeats 8000000 in
set_option maxRecDepth 100000 in
theorem impl_IsName.calls (k : Nat) (a0 : ByteArray) (r : Bool) (w : World) (h : impl_IsName.f k a0 = some r) :
  Calls Try.prog 56 #[.string a0] w fun e w' => e = .returned (.bool r) ∧ Drawn0 w w' := by
 have H : (impl_IsName.l0 k a0 (a0.size : Int) 0) = some r := h
 clear h
 have H' := am H
 clear H
 go_enter Try.func56, Try.ntmps56
 go_wp2
 go_loopg [7] k (fun kq v7 w' => ∃ (x7_1 : Int), v7 = .int .i64 x7_1 ∧ Aside0 (impl_IsName.l0 kq a0 (a0.size : Int) x7_1 = some r) ∧ Aside0 (kq ≤ k) ∧ Drawn0 w w')
 case atStart => exact ⟨(0), u2_5, H', ⟨Nat.le_refl _⟩, s2_3⟩
 case round =>
  clear H'
  obtain ⟨x7_1, rfl, HA, HK1, ⟨m1, rfl⟩⟩ := hrel
  cases gk with
  | zero => exact absurd HA.out (by simp [impl_IsName.l0])
  | succ k1 =>
   have H := HA.out
   clear HA
   simp only [impl_IsName.l0] at H
   by_cases c2 : x7_1 < (a0.size : Int)
   ·rw [if_pos c2] at H
    have c2b0 : decide (x7_1 < (a0.size : Int)) = true := decide_eq_true c2
    clear c2
    by_cases c3 : 0 ≤ x7_1
    ·rw [if_pos c3] at H
     have c3b0 : decide (0 ≤ x7_1) = true := decide_eq_true c3
     clear c3
     by_cases c4 : x7_1 < (a0.size : Int)
     ·rw [if_pos c4] at H
      have c4b0 : decide (x7_1 < (a0.size : Int)) = true := decide_eq_true c4
      clear c4
      by_cases c6 : (bt a0 x7_1) ≥ 97
      ·rw [if_pos c6] at H
       have c6b0 : decide (97 ≤ (bt a0 x7_1)) = true := decide_eq_true c6
       clear c6
       by_cases c8 : ((bt a0 x7_1) ≤ 122)
       ·rw [if_pos c8] at H
        have c8b0 : decide ((bt a0 x7_1) ≤ 122) = true := decide_eq_true c8
        clear c8
        have H' := am H
        clear H
        have p5 : 0 ≤ (x7_1 : Int) := od u2_2
        have q5 : x7_1 < (a0.size : Int) := od u2_2
        have hx5 := bt_at a0 x7_1
        replace p5 := eq_true p5
        replace q5 := eq_true q5
        have p7 : 0 ≤ (x7_1 : Int) := od u2_2
        have q7 : x7_1 < (a0.size : Int) := od u2_2
        have hx7 := bt_at a0 x7_1
        replace p7 := eq_true p7
        replace q7 := eq_true q7
        go_wp2
        go_roundg k1
        case measure => have := HK1.out; omega
        case rel => exact ⟨(wrap64 (x7_1 + 1)), u2_5, H', ⟨by have := HK1.out; omega⟩, s2_3⟩
       ·rw [if_neg c8] at H
        have c8b0 : decide ((bt a0 x7_1) ≤ 122) = false := decide_eq_false c8
        clear c8
        by_cases c9 : x7_1 = 0
        ·rw [if_pos c9] at H
         have c9b0 : (x7_1 == 0) = true := beq_iff_eq.mpr c9
         have c9b1 : (x7_1 != 0) = false := bne_eq_false_iff_eq.mpr c9
         clear c9
         obtain rfl := Option.some.inj H
         have p5 : 0 ≤ (x7_1 : Int) := od u2_2
         have q5 : x7_1 < (a0.size : Int) := od u2_2
         have hx5 := bt_at a0 x7_1
         replace p5 := eq_true p5
         replace q5 := eq_true q5
         have p7 : 0 ≤ (x7_1 : Int) := od u2_2
         have q7 : x7_1 < (a0.size : Int) := od u2_2
         have hx7 := bt_at a0 x7_1
         replace p7 := eq_true p7
         replace q7 := eq_true q7
         go_wp2
         go_ret
         exact ⟨by first | rfl | (simp; done) | (simp [*]; done), s2_3⟩
        ·rw [if_neg c9] at H
         have c9b0 : (x7_1 == 0) = false := beq_eq_false_iff_ne.mpr c9
         have c9b1 : (x7_1 != 0) = true := bne_iff_ne.mpr c9
         by_cases c11 : (bt a0 x7_1) < 48
         ·rw [if_pos c11] at H
          have c11b0 : decide ((bt a0 x7_1) < 48) = true := decide_eq_true c11
          clear c11
          obtain rfl := Option.some.inj H
          have p5 : 0 ≤ (x7_1 : Int) := od u2_2
          have q5 : x7_1 < (a0.size : Int) := od u2_2
          have hx5 := bt_at a0 x7_1
          replace p5 := eq_true p5
          replace q5 := eq_true q5
          have p7 : 0 ≤ (x7_1 : Int) := od u2_2
          have q7 : x7_1 < (a0.size : Int) := od u2_2
          have hx7 := bt_at a0 x7_1
          replace p7 := eq_true p7
          replace q7 := eq_true q7
          have p10 : 0 ≤ (x7_1 : Int) := od u2_2
          have q10 : x7_1 < (a0.size : Int) := od u2_2
          have hx10 := bt_at a0 x7_1
          replace p10 := eq_true p10
          replace q10 := eq_true q10
          go_wp2
          go_ret
          exact ⟨by first | rfl | (simp; done) | (simp [*]; done), s2_3⟩
         ·rw [if_neg c11] at H
          have c11b0 : decide ((bt a0 x7_1) < 48) = false := decide_eq_false c11
          clear c11
          by_cases c13 : (bt a0 x7_1) > 57
          ·rw [if_pos c13] at H
           have c13b0 : decide (57 < (bt a0 x7_1)) = true := decide_eq_true c13
           clear c13
           obtain rfl := Option.some.inj H
           have p5 : 0 ≤ (x7_1 : Int) := od u2_2
           have q5 : x7_1 < (a0.size : Int) := od u2_2
           have hx5 := bt_at a0 x7_1
           replace p5 := eq_true p5
           replace q5 := eq_true q5
           have p7 : 0 ≤ (x7_1 : Int) := od u2_2
           have q7 : x7_1 < (a0.size : Int) := od u2_2
           have hx7 := bt_at a0 x7_1
           replace p7 := eq_true p7
           replace q7 := eq_true q7
           have p10 : 0 ≤ (x7_1 : Int) := od u2_2
           have q10 : x7_1 < (a0.size : Int) := od u2_2
           have hx10 := bt_at a0 x7_1
           replace p10 := eq_true p10
           replace q10 := eq_true q10
           have p12 : 0 ≤ (x7_1 : Int) := od u2_2
           have q12 : x7_1 < (a0.size : Int) := od u2_2
           have hx12 := bt_at a0 x7_1
           replace p12 := eq_true p12
           replace q12 := eq_true q12
           go_wp2
           go_ret
           exact ⟨by first | rfl | (simp; done) | (simp [*]; done), s2_3⟩
          ·rw [if_neg c13] at H
           have c13b0 : decide (57 < (bt a0 x7_1)) = false := decide_eq_false c13
           clear c13
           have H' := am H
           clear H
           have p5 : 0 ≤ (x7_1 : Int) := od u2_2
           have q5 : x7_1 < (a0.size : Int) := od u2_2
           have hx5 := bt_at a0 x7_1
           replace p5 := eq_true p5
           replace q5 := eq_true q5
           have p7 : 0 ≤ (x7_1 : Int) := od u2_2
           have q7 : x7_1 < (a0.size : Int) := od u2_2
           have hx7 := bt_at a0 x7_1
           replace p7 := eq_true p7
           replace q7 := eq_true q7
           have p10 : 0 ≤ (x7_1 : Int) := od u2_2
           have q10 : x7_1 < (a0.size : Int) := od u2_2
           have hx10 := bt_at a0 x7_1
           replace p10 := eq_true p10
           replace q10 := eq_true q10
           have p12 : 0 ≤ (x7_1 : Int) := od u2_2
           have q12 : x7_1 < (a0.size : Int) := od u2_2
           have hx12 := bt_at a0 x7_1
           replace p12 := eq_true p12
           replace q12 := eq_true q12
           go_wp2
           go_roundg k1
           case measure => have := HK1.out; omega
           case rel => exact ⟨(wrap64 (x7_1 + 1)), u2_5, H', ⟨by have := HK1.out; omega⟩, s2_3⟩
      ·rw [if_neg c6] at H
       have c6b0 : decide (97 ≤ (bt a0 x7_1)) = false := decide_eq_false c6
       clear c6
       by_cases c14 : x7_1 = 0
       ·rw [if_pos c14] at H
        have c14b0 : (x7_1 == 0) = true := beq_iff_eq.mpr c14
        have c14b1 : (x7_1 != 0) = false := bne_eq_false_iff_eq.mpr c14
        clear c14
        obtain rfl := Option.some.inj H
        have p5 : 0 ≤ (x7_1 : Int) := od u2_2
        have q5 : x7_1 < (a0.size : Int) := od u2_2
        have hx5 := bt_at a0 x7_1
        replace p5 := eq_true p5
        replace q5 := eq_true q5
        go_wp2
        go_ret
        exact ⟨by first | rfl | (simp; done) | (simp [*]; done), s2_3⟩
       ·rw [if_neg c14] at H
        have c14b0 : (x7_1 == 0) = false := beq_eq_false_iff_ne.mpr c14
        have c14b1 : (x7_1 != 0) = true := bne_iff_ne.mpr c14
        by_cases c16 : (bt a0 x7_1) < 48
        ·rw [if_pos c16] at H
         have c16b0 : decide ((bt a0 x7_1) < 48) = true := decide_eq_true c16
         clear c16
         obtain rfl := Option.some.inj H
         have p5 : 0 ≤ (x7_1 : Int) := od u2_2
         have q5 : x7_1 < (a0.size : Int) := od u2_2
         have hx5 := bt_at a0 x7_1
         replace p5 := eq_true p5
         replace q5 := eq_true q5
         have p15 : 0 ≤ (x7_1 : Int) := od u2_2
         have q15 : x7_1 < (a0.size : Int) := od u2_2
         have hx15 := bt_at a0 x7_1
         replace p15 := eq_true p15
         replace q15 := eq_true q15
         go_wp2
         go_ret
         exact ⟨by first | rfl | (simp; done) | (simp [*]; done), s2_3⟩
        ·rw [if_neg c16] at H
         have c16b0 : decide ((bt a0 x7_1) < 48) = false := decide_eq_false c16
         clear c16
         by_cases c18 : (bt a0 x7_1) > 57
         ·rw [if_pos c18] at H
          have c18b0 : decide (57 < (bt a0 x7_1)) = true := decide_eq_true c18
          clear c18
          obtain rfl := Option.some.inj H
          have p5 : 0 ≤ (x7_1 : Int) := od u2_2
          have q5 : x7_1 < (a0.size : Int) := od u2_2
          have hx5 := bt_at a0 x7_1
          replace p5 := eq_true p5
          replace q5 := eq_true q5
          have p15 : 0 ≤ (x7_1 : Int) := od u2_2
          have q15 : x7_1 < (a0.size : Int) := od u2_2
          have hx15 := bt_at a0 x7_1
          replace p15 := eq_true p15
          replace q15 := eq_true q15
          have p17 : 0 ≤ (x7_1 : Int) := od u2_2
          have q17 : x7_1 < (a0.size : Int) := od u2_2
          have hx17 := bt_at a0 x7_1
          replace p17 := eq_true p17
          replace q17 := eq_true q17
          go_wp2
          go_ret
          exact ⟨by first | rfl | (simp; done) | (simp [*]; done), s2_3⟩
         ·rw [if_neg c18] at H
          have c18b0 : decide (57 < (bt a0 x7_1)) = false := decide_eq_false c18
          clear c18
          have H' := am H
          clear H
          have p5 : 0 ≤ (x7_1 : Int) := od u2_2
          have q5 : x7_1 < (a0.size : Int) := od u2_2
          have hx5 := bt_at a0 x7_1
          replace p5 := eq_true p5
          replace q5 := eq_true q5
          have p15 : 0 ≤ (x7_1 : Int) := od u2_2
          have q15 : x7_1 < (a0.size : Int) := od u2_2
          have hx15 := bt_at a0 x7_1
          replace p15 := eq_true p15
          replace q15 := eq_true q15
          have p17 : 0 ≤ (x7_1 : Int) := od u2_2
          have q17 : x7_1 < (a0.size : Int) := od u2_2
          have hx17 := bt_at a0 x7_1
          replace p17 := eq_true p17
          replace q17 := eq_true q17
          go_wp2
          go_roundg k1
          case measure => have := HK1.out; omega
          case rel => exact ⟨(wrap64 (x7_1 + 1)), u2_5, H', ⟨by have := HK1.out; omega⟩, s2_3⟩
     ·rw [if_neg c4] at H
      exact absurd H (by simp)
    ·rw [if_neg c3] at H
     exact absurd H (by simp)
   ·rw [if_neg c2] at H
    have c2b0 : decide (x7_1 < (a0.size : Int)) = false := decide_eq_false c2
    clear c2
    replace H := Option.bind_eq_some_iff.mp H
    obtain ⟨t103, A190, H⟩ := H
    replace H : (some t103) = some r := H
    have A19 := am A190
    clear A190
    obtain rfl := Option.some.inj H
    go_wp2_with (first | ((with_reducible refine gate_callee (f := 59) rfl ?_); refine goesL_ (some 41) rfl rfl Try.func59 (by kernel_rfl) rfl #[.int .i64 (a0.size : Int), .int .i64 1, .int .i64 8] rfl u2_1 ?_; (with_reducible refine (impl_isWithin.calls (a0.size : Int) 1 8 t103 _ A19.out).mono ?_); rintro e w' ⟨rfl, ⟨nd, rfl⟩⟩; refine ⟨_, rfl, ?_⟩))
    go_ret
    exact ⟨by first | rfl | (simp; done) | (simp [*]; done), s2_3⟩

/-! ### impl_isSupply: function 57 -/
def impl_isSupply.f (a0 : Int) : Option (Bool) := (impl_isWithin.f a0 0 512).bind fun t104 => (some t104)
set_option maxHeartbeats 8000000 in
set_option maxRecDepth 100000 in
theorem impl_isSupply.calls (a0 : Int) (r : Bool) (w : World) (h : impl_isSupply.f a0 = some r) :
  Calls Try.prog 57 #[.int .i64 a0] w fun e w' => e = .returned (.bool r) ∧ Drawn0 w w' := by
 have H : ((impl_isWithin.f a0 0 512).bind fun t104 => (some t104)) = some r := h
 clear h
 replace H := Option.bind_eq_some_iff.mp H
 obtain ⟨t104, A20, H⟩ := H
 replace H : (some t104) = some r := H
 have A2 := am A20
 clear A20
 obtain rfl := Option.some.inj H
 go_enter Try.func57, Try.ntmps57
 go_wp2_with (first | ((with_reducible refine gate_callee (f := 59) rfl ?_); refine goesL_ (some 4) rfl rfl Try.func59 (by kernel_rfl) rfl #[.int .i64 a0, .int .i64 0, .int .i64 512] rfl u2_1 ?_; (with_reducible refine (impl_isWithin.calls a0 0 512 t104 _ A2.out).mono ?_); rintro e w' ⟨rfl, ⟨nd, rfl⟩⟩; refine ⟨_, rfl, ?_⟩))
 go_ret
 exact ⟨by first | rfl | (simp; done) | (simp [*]; done), s2_3⟩

/-! ### impl_IsHeading: function 81 -/
def impl_IsHeading.f (a0 : Int) : Option (Bool) := (impl_isWithin.f a0 0 3).bind fun t105 => (some t105)
set_option maxHeartbeats 8000000 in
set_option maxRecDepth 100000 in
theorem impl_IsHeading.calls (a0 : Int) (r : Bool) (w : World) (h : impl_IsHeading.f a0 = some r) :
  Calls Try.prog 81 #[.int .i64 a0] w fun e w' => e = .returned (.bool r) ∧ Drawn0 w w' := by
 have H : ((impl_isWithin.f a0 0 3).bind fun t105 => (some t105)) = some r := h
 clear h
 replace H := Option.bind_eq_some_iff.mp H
 obtain ⟨t105, A20, H⟩ := H
 replace H : (some t105) = some r := H
 have A2 := am A20
 clear A20
 obtain rfl := Option.some.inj H
 go_enter Try.func81, Try.ntmps81
 go_wp2_with (first | ((with_reducible refine gate_callee (f := 59) rfl ?_); refine goesL_ (some 4) rfl rfl Try.func59 (by kernel_rfl) rfl #[.int .i64 a0, .int .i64 0, .int .i64 3] rfl u2_1 ?_; (with_reducible refine (impl_isWithin.calls a0 0 3 t105 _ A2.out).mono ?_); rintro e w' ⟨rfl, ⟨nd, rfl⟩⟩; refine ⟨_, rfl, ?_⟩))
 go_ret
 exact ⟨by first | rfl | (simp; done) | (simp [*]; done), s2_3⟩

/-! ### impl_IsJet: function 58 -/
def impl_IsJet.f (a0_0 : Int) (a0_1 : Int) (a0_2 : Int) (a0_3 : Int) (a0_4 : Int) : Option (Bool) := (impl_isWithin.f a0_0 (-1024) 1024).bind fun t107 => (if t107 = true then ((impl_isWithin.f a0_1 (-1024) 1024).bind fun t108 => (if t108 = true then ((impl_IsHeading.f a0_2).bind fun t109 => (if t109 = true then ((impl_isWithin.f a0_3 0 16).bind fun t110 => (if t110 = true then ((impl_isWithin.f a0_4 1 32).bind fun t111 => (some t111)) else (some false))) else (some false))) else (some false))) else (some false))
set_option maxHeartbeats 8000000 in
set_option maxRecDepth 100000 in
theorem impl_IsJet.calls (a0_0 : Int) (a0_1 : Int) (a0_2 : Int) (a0_3 : Int) (a0_4 : Int) (r : Bool) (w : World) (h : impl_IsJet.f a0_0 a0_1 a0_2 a0_3 a0_4 = some r) :
  Calls Try.prog 58 #[.agg #[.int .i64 a0_0, .int .i64 a0_1, .int .i64 a0_2, .int .i64 a0_3, .int .i64 a0_4]] w fun e w' => e = .returned (.bool r) ∧ Below w.heap.size w w' := by
 have hu71 := Try.underlying71
 have HB := am (Below.refl w.heap.size w)
 have H : ((impl_isWithin.f a0_0 (-1024) 1024).bind fun t107 => (if t107 = true then ((impl_isWithin.f a0_1 (-1024) 1024).bind fun t108 => (if t108 = true then ((impl_IsHeading.f a0_2).bind fun t109 => (if t109 = true then ((impl_isWithin.f a0_3 0 16).bind fun t110 => (if t110 = true then ((impl_isWithin.f a0_4 1 32).bind fun t111 => (some t111)) else (some false))) else (some false))) else (some false))) else (some false))) = some r := h
 clear h
 replace H := Option.bind_eq_some_iff.mp H
 obtain ⟨t107, A20, H⟩ := H
 replace H : (if t107 = true then ((impl_isWithin.f a0_1 (-1024) 1024).bind fun t108 => (if t108 = true then ((impl_IsHeading.f a0_2).bind fun t109 => (if t109 = true then ((impl_isWithin.f a0_3 0 16).bind fun t110 => (if t110 = true then ((impl_isWithin.f a0_4 1 32).bind fun t111 => (some t111)) else (some false))) else (some false))) else (some false))) else (some false)) = some r := H
 have A2 := am A20
 clear A20
 by_cases c3 : t107 = true
 ·subst c3
  have H1 : ((impl_isWithin.f a0_1 (-1024) 1024).bind fun t108 => (if t108 = true then ((impl_IsHeading.f a0_2).bind fun t109 => (if t109 = true then ((impl_isWithin.f a0_3 0 16).bind fun t110 => (if t110 = true then ((impl_isWithin.f a0_4 1 32).bind fun t111 => (some t111)) else (some false))) else (some false))) else (some false))) = some r := by rw [if_pos rfl] at H; exact H
  clear H
  have H := H1
  clear H1
  replace H := Option.bind_eq_some_iff.mp H
  obtain ⟨t108, A40, H⟩ := H
  replace H : (if t108 = true then ((impl_IsHeading.f a0_2).bind fun t109 => (if t109 = true then ((impl_isWithin.f a0_3 0 16).bind fun t110 => (if t110 = true then ((impl_isWithin.f a0_4 1 32).bind fun t111 => (some t111)) else (some false))) else (some false))) else (some false)) = some r := H
  have A4 := am A40
  clear A40
  by_cases c5 : t108 = true
  ·subst c5
   have H1 : ((impl_IsHeading.f a0_2).bind fun t109 => (if t109 = true then ((impl_isWithin.f a0_3 0 16).bind fun t110 => (if t110 = true then ((impl_isWithin.f a0_4 1 32).bind fun t111 => (some t111)) else (some false))) else (some false))) = some r := by rw [if_pos rfl] at H; exact H
   clear H
   have H := H1
   clear H1
   replace H := Option.bind_eq_some_iff.mp H
   obtain ⟨t109, A60, H⟩ := H
   replace H : (if t109 = true then ((impl_isWithin.f a0_3 0 16).bind fun t110 => (if t110 = true then ((impl_isWithin.f a0_4 1 32).bind fun t111 => (some t111)) else (some false))) else (some false)) = some r := H
   have A6 := am A60
   clear A60
   by_cases c7 : t109 = true
   ·subst c7
    have H1 : ((impl_isWithin.f a0_3 0 16).bind fun t110 => (if t110 = true then ((impl_isWithin.f a0_4 1 32).bind fun t111 => (some t111)) else (some false))) = some r := by rw [if_pos rfl] at H; exact H
    clear H
    have H := H1
    clear H1
    replace H := Option.bind_eq_some_iff.mp H
    obtain ⟨t110, A80, H⟩ := H
    replace H : (if t110 = true then ((impl_isWithin.f a0_4 1 32).bind fun t111 => (some t111)) else (some false)) = some r := H
    have A8 := am A80
    clear A80
    by_cases c9 : t110 = true
    ·subst c9
     have H1 : ((impl_isWithin.f a0_4 1 32).bind fun t111 => (some t111)) = some r := by rw [if_pos rfl] at H; exact H
     clear H
     have H := H1
     clear H1
     replace H := Option.bind_eq_some_iff.mp H
     obtain ⟨t111, A100, H⟩ := H
     replace H : (some t111) = some r := H
     have A10 := am A100
     clear A100
     obtain rfl := Option.some.inj H
     go_enter Try.func58, Try.ntmps58
     go_wp2_with (first | ((with_reducible refine gate_dst (N := 1) rfl ?_); refine box_event ?hg (N := 1) ?hd (cs := #[.int .i64 a0_0, .int .i64 a0_1, .int .i64 a0_2, .int .i64 a0_3, .int .i64 a0_4]) (t := 71) ?hr ?_; (case hd => rfl); (case hg => rfl); (case hr => exact gq); intro gb106 hg w11 hbox hb; have n0_ := am (below_step u2_0 hb); have n1_ := am (hbox); have n2_ := bsw w hg (below_size u2_0); have n3_ := bsw w hg (below_size u2_0); clear HB; have HB := n0_; have BK106 := n1_; have GW106 := n2_; have GE106 := n3_; clear n0_ n1_ n2_ n3_ hb hbox hg; obtain ⟨hcz12_0, hcz12_1, hcz12_2, hcz12_3, hcz12_4, hfz12_0, hfz12_1, hfz12_2, hfz12_3, hfz12_4⟩ := cf5 BK106.out) | ((with_reducible refine gate_callee (f := 59) rfl ?_); refine goesL_ (some 6) rfl rfl Try.func59 (by kernel_rfl) rfl #[.int .i64 a0_0, .int .i64 (-1024), .int .i64 1024] rfl u2_1 ?_; (with_reducible refine (impl_isWithin.calls a0_0 (-1024) 1024 true _ A2.out).mono ?_); rintro e w' ⟨rfl, ⟨nd, rfl⟩⟩; refine ⟨_, rfl, ?_⟩) | (go_at_call 59; (with_reducible refine (impl_isWithin.calls a0_1 (-1024) 1024 true _ A4.out).mono ?_); rintro e w' ⟨rfl, ⟨nd, rfl⟩⟩) | (go_at_call 81; (with_reducible refine (impl_IsHeading.calls a0_2 true _ A6.out).mono ?_); rintro e w' ⟨rfl, ⟨nd, rfl⟩⟩) | (go_at_call 59; (with_reducible refine (impl_isWithin.calls a0_3 0 16 true _ A8.out).mono ?_); rintro e w' ⟨rfl, ⟨nd, rfl⟩⟩) | (go_at_call 59; (with_reducible refine (impl_isWithin.calls a0_4 1 32 t111 _ A10.out).mono ?_); rintro e w' ⟨rfl, ⟨nd, rfl⟩⟩))
     go_ret
     exact ⟨by first | rfl | (simp [*] <;> rfl), s2_0⟩
    ·replace c9 := Bool.eq_false_iff.mpr c9
     subst c9
     have H1 : (some false) = some r := by rw [if_neg (show ¬ (false = true) by decide)] at H; exact H
     clear H
     have H := H1
     clear H1
     obtain rfl := Option.some.inj H
     go_enter Try.func58, Try.ntmps58
     go_wp2_with (first | ((with_reducible refine gate_dst (N := 1) rfl ?_); refine box_event ?hg (N := 1) ?hd (cs := #[.int .i64 a0_0, .int .i64 a0_1, .int .i64 a0_2, .int .i64 a0_3, .int .i64 a0_4]) (t := 71) ?hr ?_; (case hd => rfl); (case hg => rfl); (case hr => exact gq); intro gb106 hg w13 hbox hb; have n0_ := am (below_step u2_0 hb); have n1_ := am (hbox); have n2_ := bsw w hg (below_size u2_0); have n3_ := bsw w hg (below_size u2_0); clear HB; have HB := n0_; have BK106 := n1_; have GW106 := n2_; have GE106 := n3_; clear n0_ n1_ n2_ n3_ hb hbox hg; obtain ⟨hcz14_0, hcz14_1, hcz14_2, hcz14_3, hcz14_4, hfz14_0, hfz14_1, hfz14_2, hfz14_3, hfz14_4⟩ := cf5 BK106.out) | ((with_reducible refine gate_callee (f := 59) rfl ?_); refine goesL_ (some 6) rfl rfl Try.func59 (by kernel_rfl) rfl #[.int .i64 a0_0, .int .i64 (-1024), .int .i64 1024] rfl u2_1 ?_; (with_reducible refine (impl_isWithin.calls a0_0 (-1024) 1024 true _ A2.out).mono ?_); rintro e w' ⟨rfl, ⟨nd, rfl⟩⟩; refine ⟨_, rfl, ?_⟩) | (go_at_call 59; (with_reducible refine (impl_isWithin.calls a0_1 (-1024) 1024 true _ A4.out).mono ?_); rintro e w' ⟨rfl, ⟨nd, rfl⟩⟩) | (go_at_call 81; (with_reducible refine (impl_IsHeading.calls a0_2 true _ A6.out).mono ?_); rintro e w' ⟨rfl, ⟨nd, rfl⟩⟩) | (go_at_call 59; (with_reducible refine (impl_isWithin.calls a0_3 0 16 false _ A8.out).mono ?_); rintro e w' ⟨rfl, ⟨nd, rfl⟩⟩))
     go_ret
     exact ⟨by first | rfl | (simp [*] <;> rfl), s2_0⟩
   ·replace c7 := Bool.eq_false_iff.mpr c7
    subst c7
    have H1 : (some false) = some r := by rw [if_neg (show ¬ (false = true) by decide)] at H; exact H
    clear H
    have H := H1
    clear H1
    obtain rfl := Option.some.inj H
    go_enter Try.func58, Try.ntmps58
    go_wp2_with (first | ((with_reducible refine gate_dst (N := 1) rfl ?_); refine box_event ?hg (N := 1) ?hd (cs := #[.int .i64 a0_0, .int .i64 a0_1, .int .i64 a0_2, .int .i64 a0_3, .int .i64 a0_4]) (t := 71) ?hr ?_; (case hd => rfl); (case hg => rfl); (case hr => exact gq); intro gb106 hg w15 hbox hb; have n0_ := am (below_step u2_0 hb); have n1_ := am (hbox); have n2_ := bsw w hg (below_size u2_0); have n3_ := bsw w hg (below_size u2_0); clear HB; have HB := n0_; have BK106 := n1_; have GW106 := n2_; have GE106 := n3_; clear n0_ n1_ n2_ n3_ hb hbox hg; obtain ⟨hcz16_0, hcz16_1, hcz16_2, hcz16_3, hcz16_4, hfz16_0, hfz16_1, hfz16_2, hfz16_3, hfz16_4⟩ := cf5 BK106.out) | ((with_reducible refine gate_callee (f := 59) rfl ?_); refine goesL_ (some 6) rfl rfl Try.func59 (by kernel_rfl) rfl #[.int .i64 a0_0, .int .i64 (-1024), .int .i64 1024] rfl u2_1 ?_; (with_reducible refine (impl_isWithin.calls a0_0 (-1024) 1024 true _ A2.out).mono ?_); rintro e w' ⟨rfl, ⟨nd, rfl⟩⟩; refine ⟨_, rfl, ?_⟩) | (go_at_call 59; (with_reducible refine (impl_isWithin.calls a0_1 (-1024) 1024 true _ A4.out).mono ?_); rintro e w' ⟨rfl, ⟨nd, rfl⟩⟩) | (go_at_call 81; (with_reducible refine (impl_IsHeading.calls a0_2 false _ A6.out).mono ?_); rintro e w' ⟨rfl, ⟨nd, rfl⟩⟩))
    go_ret
    exact ⟨by first | rfl | (simp [*] <;> rfl), s2_0⟩
  ·replace c5 := Bool.eq_false_iff.mpr c5
   subst c5
   have H1 : (some false) = some r := by rw [if_neg (show ¬ (false = true) by decide)] at H; exact H
   clear H
   have H := H1
   clear H1
   obtain rfl := Option.some.inj H
   go_enter Try.func58, Try.ntmps58
   go_wp2_with (first | ((with_reducible refine gate_dst (N := 1) rfl ?_); refine box_event ?hg (N := 1) ?hd (cs := #[.int .i64 a0_0, .int .i64 a0_1, .int .i64 a0_2, .int .i64 a0_3, .int .i64 a0_4]) (t := 71) ?hr ?_; (case hd => rfl); (case hg => rfl); (case hr => exact gq); intro gb106 hg w17 hbox hb; have n0_ := am (below_step u2_0 hb); have n1_ := am (hbox); have n2_ := bsw w hg (below_size u2_0); have n3_ := bsw w hg (below_size u2_0); clear HB; have HB := n0_; have BK106 := n1_; have GW106 := n2_; have GE106 := n3_; clear n0_ n1_ n2_ n3_ hb hbox hg; obtain ⟨hcz18_0, hcz18_1, hcz18_2, hcz18_3, hcz18_4, hfz18_0, hfz18_1, hfz18_2, hfz18_3, hfz18_4⟩ := cf5 BK106.out) | ((with_reducible refine gate_callee (f := 59) rfl ?_); refine goesL_ (some 6) rfl rfl Try.func59 (by kernel_rfl) rfl #[.int .i64 a0_0, .int .i64 (-1024), .int .i64 1024] rfl u2_1 ?_; (with_reducible refine (impl_isWithin.calls a0_0 (-1024) 1024 true _ A2.out).mono ?_); rintro e w' ⟨rfl, ⟨nd, rfl⟩⟩; refine ⟨_, rfl, ?_⟩) | (go_at_call 59; (with_reducible refine (impl_isWithin.calls a0_1 (-1024) 1024 false _ A4.out).mono ?_); rintro e w' ⟨rfl, ⟨nd, rfl⟩⟩))
   go_ret
   exact ⟨by first | rfl | (simp [*] <;> rfl), s2_0⟩
 ·replace c3 := Bool.eq_false_iff.mpr c3
  subst c3
  have H1 : (some false) = some r := by rw [if_neg (show ¬ (false = true) by decide)] at H; exact H
  clear H
  have H := H1
  clear H1
  obtain rfl := Option.some.inj H
  go_enter Try.func58, Try.ntmps58
  go_wp2_with (first | ((with_reducible refine gate_dst (N := 1) rfl ?_); refine box_event ?hg (N := 1) ?hd (cs := #[.int .i64 a0_0, .int .i64 a0_1, .int .i64 a0_2, .int .i64 a0_3, .int .i64 a0_4]) (t := 71) ?hr ?_; (case hd => rfl); (case hg => rfl); (case hr => exact gq); intro gb106 hg w19 hbox hb; have n0_ := am (below_step u2_0 hb); have n1_ := am (hbox); have n2_ := bsw w hg (below_size u2_0); have n3_ := bsw w hg (below_size u2_0); clear HB; have HB := n0_; have BK106 := n1_; have GW106 := n2_; have GE106 := n3_; clear n0_ n1_ n2_ n3_ hb hbox hg; obtain ⟨hcz20_0, hcz20_1, hcz20_2, hcz20_3, hcz20_4, hfz20_0, hfz20_1, hfz20_2, hfz20_3, hfz20_4⟩ := cf5 BK106.out) | ((with_reducible refine gate_callee (f := 59) rfl ?_); refine goesL_ (some 6) rfl rfl Try.func59 (by kernel_rfl) rfl #[.int .i64 a0_0, .int .i64 (-1024), .int .i64 1024] rfl u2_1 ?_; (with_reducible refine (impl_isWithin.calls a0_0 (-1024) 1024 false _ A2.out).mono ?_); rintro e w' ⟨rfl, ⟨nd, rfl⟩⟩; refine ⟨_, rfl, ?_⟩))
  go_ret
  exact ⟨by first | rfl | (simp [*] <;> rfl), s2_0⟩

/-! ### impl_IsMeasure: function 82 -/
def impl_IsMeasure.f (a0 : Int) : Option (Bool) := (impl_isWithin.f a0 (-4096) 4096).bind fun t112 => (some t112)
set_option maxHeartbeats 8000000 in
set_option maxRecDepth 100000 in
theorem impl_IsMeasure.calls (a0 : Int) (r : Bool) (w : World) (h : impl_IsMeasure.f a0 = some r) :
  Calls Try.prog 82 #[.int .i64 a0] w fun e w' => e = .returned (.bool r) ∧ Drawn0 w w' := by
 have H : ((impl_isWithin.f a0 (-4096) 4096).bind fun t112 => (some t112)) = some r := h
 clear h
 replace H := Option.bind_eq_some_iff.mp H
 obtain ⟨t112, A20, H⟩ := H
 replace H : (some t112) = some r := H
 have A2 := am A20
 clear A20
 obtain rfl := Option.some.inj H
 go_enter Try.func82, Try.ntmps82
 go_wp2_with (first | ((with_reducible refine gate_callee (f := 59) rfl ?_); refine goesL_ (some 4) rfl rfl Try.func59 (by kernel_rfl) rfl #[.int .i64 a0, .int .i64 (-4096), .int .i64 4096] rfl u2_1 ?_; (with_reducible refine (impl_isWithin.calls a0 (-4096) 4096 t112 _ A2.out).mono ?_); rintro e w' ⟨rfl, ⟨nd, rfl⟩⟩; refine ⟨_, rfl, ?_⟩))
 go_ret
 exact ⟨by first | rfl | (simp; done) | (simp [*]; done), s2_3⟩

/-! ### impl_IsPlace: function 60 -/
def impl_IsPlace.f (a0_0 : Int) (a0_1 : Int) : Option (Bool) := (impl_IsMeasure.f a0_0).bind fun t114 => (if t114 = true then ((impl_IsMeasure.f a0_1).bind fun t115 => (some t115)) else (some false))
set_option maxHeartbeats 8000000 in
set_option maxRecDepth 100000 in
theorem impl_IsPlace.calls (a0_0 : Int) (a0_1 : Int) (r : Bool) (w : World) (h : impl_IsPlace.f a0_0 a0_1 = some r) :
  Calls Try.prog 60 #[.agg #[.int .i64 a0_0, .int .i64 a0_1]] w fun e w' => e = .returned (.bool r) ∧ Below w.heap.size w w' := by
 have hu28 := Try.underlying28
 have HB := am (Below.refl w.heap.size w)
 have H : ((impl_IsMeasure.f a0_0).bind fun t114 => (if t114 = true then ((impl_IsMeasure.f a0_1).bind fun t115 => (some t115)) else (some false))) = some r := h
 clear h
 replace H := Option.bind_eq_some_iff.mp H
 obtain ⟨t114, A20, H⟩ := H
 replace H : (if t114 = true then ((impl_IsMeasure.f a0_1).bind fun t115 => (some t115)) else (some false)) = some r := H
 have A2 := am A20
 clear A20
 by_cases c3 : t114 = true
 ·subst c3
  have H1 : ((impl_IsMeasure.f a0_1).bind fun t115 => (some t115)) = some r := by rw [if_pos rfl] at H; exact H
  clear H
  have H := H1
  clear H1
  replace H := Option.bind_eq_some_iff.mp H
  obtain ⟨t115, A40, H⟩ := H
  replace H : (some t115) = some r := H
  have A4 := am A40
  clear A40
  obtain rfl := Option.some.inj H
  go_enter Try.func60, Try.ntmps60
  go_wp2_with (first | ((with_reducible refine gate_dst (N := 1) rfl ?_); refine box_event ?hg (N := 1) ?hd (cs := #[.int .i64 a0_0, .int .i64 a0_1]) (t := 28) ?hr ?_; (case hd => rfl); (case hg => rfl); (case hr => exact gq); intro gb113 hg w5 hbox hb; have n0_ := am (below_step u2_0 hb); have n1_ := am (hbox); have n2_ := bsw w hg (below_size u2_0); have n3_ := bsw w hg (below_size u2_0); clear HB; have HB := n0_; have BK113 := n1_; have GW113 := n2_; have GE113 := n3_; clear n0_ n1_ n2_ n3_ hb hbox hg; obtain ⟨hcz6_0, hcz6_1, hfz6_0, hfz6_1⟩ := cf2 BK113.out) | ((with_reducible refine gate_callee (f := 82) rfl ?_); refine goesL_ (some 5) rfl rfl Try.func82 (by kernel_rfl) rfl #[.int .i64 a0_0] rfl u2_1 ?_; (with_reducible refine (impl_IsMeasure.calls a0_0 true _ A2.out).mono ?_); rintro e w' ⟨rfl, ⟨nd, rfl⟩⟩; refine ⟨_, rfl, ?_⟩) | (go_at_call 82; (with_reducible refine (impl_IsMeasure.calls a0_1 t115 _ A4.out).mono ?_); rintro e w' ⟨rfl, ⟨nd, rfl⟩⟩))
  go_ret
  exact ⟨by first | rfl | (simp [*] <;> rfl), s2_1⟩
 ·replace c3 := Bool.eq_false_iff.mpr c3
  subst c3
  have H1 : (some false) = some r := by rw [if_neg (show ¬ (false = true) by decide)] at H; exact H
  clear H
  have H := H1
  clear H1
  obtain rfl := Option.some.inj H
  go_enter Try.func60, Try.ntmps60
  go_wp2_with (first | ((with_reducible refine gate_dst (N := 1) rfl ?_); refine box_event ?hg (N := 1) ?hd (cs := #[.int .i64 a0_0, .int .i64 a0_1]) (t := 28) ?hr ?_; (case hd => rfl); (case hg => rfl); (case hr => exact gq); intro gb113 hg w7 hbox hb; have n0_ := am (below_step u2_0 hb); have n1_ := am (hbox); have n2_ := bsw w hg (below_size u2_0); have n3_ := bsw w hg (below_size u2_0); clear HB; have HB := n0_; have BK113 := n1_; have GW113 := n2_; have GE113 := n3_; clear n0_ n1_ n2_ n3_ hb hbox hg; obtain ⟨hcz8_0, hcz8_1, hfz8_0, hfz8_1⟩ := cf2 BK113.out) | ((with_reducible refine gate_callee (f := 82) rfl ?_); refine goesL_ (some 5) rfl rfl Try.func82 (by kernel_rfl) rfl #[.int .i64 a0_0] rfl u2_1 ?_; (with_reducible refine (impl_IsMeasure.calls a0_0 false _ A2.out).mono ?_); rintro e w' ⟨rfl, ⟨nd, rfl⟩⟩; refine ⟨_, rfl, ?_⟩))
  go_ret
  exact ⟨by first | rfl | (simp [*] <;> rfl), s2_1⟩

/-! ### impl_IsDevice: function 18 -/
def impl_IsDevice.f (k : Nat) (a0_0 : ByteArray) (a0_1 : Int) (a0_2 : ByteArray) (a0_3 : Int) (a0_4 : Int) (a0_5 : Int) (a0_6 : Int) (a0_7 : Int) : Option (Bool) := (impl_IsName.f k a0_0).bind fun t117 => (if t117 = true then (if a0_1 = 1 then (if (a0_2.toList == ([] : List UInt8) && ((a0_3 == 0 && (a0_4 == 0)) && (a0_5 == 0 && (a0_6 == 0)))) = true then ((impl_isSupply.f a0_7).bind fun t118 => (some t118)) else (some false)) else (if a0_1 = 2 then ((impl_IsName.f k a0_2).bind fun t119 => (if t119 = true then (if a0_2.toList = a0_0.toList then (some false) else ((impl_IsJet.f a0_3 a0_4 a0_5 a0_6 1).bind fun t120 => (if t120 = true then ((impl_isWithin.f a0_7 0 32).bind fun t121 => (some t121)) else (some false)))) else (some false))) else (if a0_1 = 3 then (if (a0_5 == 0 && (a0_6 == 0 && (a0_7 == 0))) = true then ((impl_IsName.f k a0_2).bind fun t122 => (if t122 = true then (if a0_2.toList = a0_0.toList then (some false) else ((impl_IsPlace.f a0_3 a0_4).bind fun t123 => (some t123))) else (some false))) else (some false)) else (some false)))) else (some false))
theorem impl_IsDevice.mono : ∀ a0 a1 a2 a3 a4 a5 a6 a7 k, LeO (impl_IsDevice.f k a0 a1 a2 a3 a4 a5 a6 a7) (impl_IsDevice.f (k + 1) a0 a1 a2 a3 a4 a5 a6 a7) := by
 intro a0 a1 a2 a3 a4 a5 a6 a7 k
 unfold impl_IsDevice.f
 repeat' first
   | (with_reducible exact impl_IsName.mono _ _)
   | (with_reducible exact LeO.refl _)
   | (with_reducible exact LeO.none _)
   | (with_reducible refine LeO.ite ?_ ?_)
   | (with_reducible refine LeO.bind ?_ (fun _ => ?_))
set_option maxHeartbeats 8000000 in
set_option maxRecDepth 100000 in
theorem impl_IsDevice.calls (k : Nat) (a0_0 : ByteArray) (a0_1 : Int) (a0_2 : ByteArray) (a0_3 : Int) (a0_4 : Int) (a0_5 : Int) (a0_6 : Int) (a0_7 : Int) (r : Bool) (w : World) (h : impl_IsDevice.f k a0_0 a0_1 a0_2 a0_3 a0_4 a0_5 a0_6 a0_7 = some r) :
  Calls Try.prog 18 #[.agg #[.string a0_0, .int .i64 a0_1, .string a0_2, .int .i64 a0_3, .int .i64 a0_4, .int .i64 a0_5, .int .i64 a0_6, .int .i64 a0_7]] w fun e w' => e = .returned (.bool r) ∧ Below w.heap.size w w' := by
 have hu30 := Try.underlying30
 have hu28 := Try.underlying28
 have hu71 := Try.underlying71
 have HB := am (Below.refl w.heap.size w)
 have H : ((impl_IsName.f k a0_0).bind fun t117 => (if t117 = true then (if a0_1 = 1 then (if (a0_2.toList == ([] : List UInt8) && ((a0_3 == 0 && (a0_4 == 0)) && (a0_5 == 0 && (a0_6 == 0)))) = true then ((impl_isSupply.f a0_7).bind fun t118 => (some t118)) else (some false)) else (if a0_1 = 2 then ((impl_IsName.f k a0_2).bind fun t119 => (if t119 = true then (if a0_2.toList = a0_0.toList then (some false) else ((impl_IsJet.f a0_3 a0_4 a0_5 a0_6 1).bind fun t120 => (if t120 = true then ((impl_isWithin.f a0_7 0 32).bind fun t121 => (some t121)) else (some false)))) else (some false))) else (if a0_1 = 3 then (if (a0_5 == 0 && (a0_6 == 0 && (a0_7 == 0))) = true then ((impl_IsName.f k a0_2).bind fun t122 => (if t122 = true then (if a0_2.toList = a0_0.toList then (some false) else ((impl_IsPlace.f a0_3 a0_4).bind fun t123 => (some t123))) else (some false))) else (some false)) else (some false)))) else (some false))) = some r := h
 clear h
 replace H := Option.bind_eq_some_iff.mp H
 obtain ⟨t117, A20, H⟩ := H
 replace H : (if t117 = true then (if a0_1 = 1 then (if (a0_2.toList == ([] : List UInt8) && ((a0_3 == 0 && (a0_4 == 0)) && (a0_5 == 0 && (a0_6 == 0)))) = true then ((impl_isSupply.f a0_7).bind fun t118 => (some t118)) else (some false)) else (if a0_1 = 2 then ((impl_IsName.f k a0_2).bind fun t119 => (if t119 = true then (if a0_2.toList = a0_0.toList then (some false) else ((impl_IsJet.f a0_3 a0_4 a0_5 a0_6 1).bind fun t120 => (if t120 = true then ((impl_isWithin.f a0_7 0 32).bind fun t121 => (some t121)) else (some false)))) else (some false))) else (if a0_1 = 3 then (if (a0_5 == 0 && (a0_6 == 0 && (a0_7 == 0))) = true then ((impl_IsName.f k a0_2).bind fun t122 => (if t122 = true then (if a0_2.toList = a0_0.toList then (some false) else ((impl_IsPlace.f a0_3 a0_4).bind fun t123 => (some t123))) else (some false))) else (some false)) else (some false)))) else (some false)) = some r := H
 have A2 := am A20
 clear A20
 by_cases c3 : t117 = true
 ·subst c3
  have H1 : (if a0_1 = 1 then (if (a0_2.toList == ([] : List UInt8) && ((a0_3 == 0 && (a0_4 == 0)) && (a0_5 == 0 && (a0_6 == 0)))) = true then ((impl_isSupply.f a0_7).bind fun t118 => (some t118)) else (some false)) else (if a0_1 = 2 then ((impl_IsName.f k a0_2).bind fun t119 => (if t119 = true then (if a0_2.toList = a0_0.toList then (some false) else ((impl_IsJet.f a0_3 a0_4 a0_5 a0_6 1).bind fun t120 => (if t120 = true then ((impl_isWithin.f a0_7 0 32).bind fun t121 => (some t121)) else (some false)))) else (some false))) else (if a0_1 = 3 then (if (a0_5 == 0 && (a0_6 == 0 && (a0_7 == 0))) = true then ((impl_IsName.f k a0_2).bind fun t122 => (if t122 = true then (if a0_2.toList = a0_0.toList then (some false) else ((impl_IsPlace.f a0_3 a0_4).bind fun t123 => (some t123))) else (some false))) else (some false)) else (some false)))) = some r := by rw [if_pos rfl] at H; exact H
  clear H
  have H := H1
  clear H1
  by_cases c4 : a0_1 = 1
  ·rw [if_pos c4] at H
   have c4b0 : (a0_1 == 1) = true := beq_iff_eq.mpr c4
   have c4b1 : (a0_1 != 1) = false := bne_eq_false_iff_eq.mpr c4
   clear c4
   by_cases c5 : (a0_2.toList == ([] : List UInt8) && ((a0_3 == 0 && (a0_4 == 0)) && (a0_5 == 0 && (a0_6 == 0)))) = true
   ·rw [if_pos c5] at H
    have c5b0 : (a0_2.toList == ([] : List UInt8) && ((a0_3 == 0 && (a0_4 == 0)) && (a0_5 == 0 && (a0_6 == 0)))) = true := c5
    have c5e : (a0_2.toList.isEmpty && ((a0_3 == 0 && (a0_4 == 0)) && (a0_5 == 0 && (a0_6 == 0)))) = true := by have q := c5b0; rwa [show (a0_2.toList == ([] : List UInt8)) = a0_2.toList.isEmpty from by cases a0_2.toList <;> rfl] at q
    (try (have c5b1 : decide (a0_2.toList = ([] : List UInt8) && ((a0_3 == 0 && (a0_4 == 0)) && (a0_5 == 0 && (a0_6 == 0)))) = true := by simpa using c5))
    (try (have c5b2 : (a0_2.toList == ([] : List UInt8) && ((a0_3 == 0 && (a0_4 == 0)) && (a0_5 == 0 && (a0_6 == 0)))) = true := by simpa using c5))
    clear c5
    replace H := Option.bind_eq_some_iff.mp H
    obtain ⟨t118, A60, H⟩ := H
    replace H : (some t118) = some r := H
    have A6 := am A60
    clear A60
    obtain rfl := Option.some.inj H
    go_enter Try.func18, Try.ntmps18
    go_wp2_with (first | ((with_reducible refine gate_dst (N := 1) rfl ?_); refine box_event ?hg (N := 1) ?hd (cs := #[.string a0_0, .int .i64 a0_1, .string a0_2, .int .i64 a0_3, .int .i64 a0_4, .int .i64 a0_5, .int .i64 a0_6, .int .i64 a0_7]) (t := 30) ?hr ?_; (case hd => rfl); (case hg => rfl); (case hr => exact gq); intro gb116 hg w7 hbox hb; have n0_ := am (below_step u2_0 hb); have n1_ := am (hbox); have n2_ := bsw w hg (below_size u2_0); have n3_ := bsw w hg (below_size u2_0); clear HB; have HB := n0_; have BK116 := n1_; have GW116 := n2_; have GE116 := n3_; clear n0_ n1_ n2_ n3_ hb hbox hg; obtain ⟨hcz8_0, hcz8_1, hcz8_2, hcz8_3, hcz8_4, hcz8_5, hcz8_6, hcz8_7, hfz8_0, hfz8_1, hfz8_2, hfz8_3, hfz8_4, hfz8_5, hfz8_6, hfz8_7⟩ := cf8 BK116.out) | ((with_reducible refine gate_callee (f := 56) rfl ?_); refine goesL_ (some 5) rfl rfl Try.func56 (by kernel_rfl) rfl #[.string a0_0] rfl u2_1 ?_; (with_reducible refine (impl_IsName.calls k a0_0 true _ A2.out).mono ?_); rintro e w' ⟨rfl, ⟨nd, rfl⟩⟩; refine ⟨_, rfl, ?_⟩) | (go_at_call 57; (with_reducible refine (impl_isSupply.calls a0_7 t118 _ A6.out).mono ?_); rintro e w' ⟨rfl, ⟨nd, rfl⟩⟩))
    go_ret
    exact ⟨by first | rfl | (simp [*] <;> rfl), s2_2⟩
   ·rw [if_neg c5] at H
    have c5b0 : (a0_2.toList == ([] : List UInt8) && ((a0_3 == 0 && (a0_4 == 0)) && (a0_5 == 0 && (a0_6 == 0)))) = false := by simpa using c5
    have c5e : (a0_2.toList.isEmpty && ((a0_3 == 0 && (a0_4 == 0)) && (a0_5 == 0 && (a0_6 == 0)))) = false := by have q := c5b0; rwa [show (a0_2.toList == ([] : List UInt8)) = a0_2.toList.isEmpty from by cases a0_2.toList <;> rfl] at q
    (try (have c5b1 : decide (a0_2.toList = ([] : List UInt8) && ((a0_3 == 0 && (a0_4 == 0)) && (a0_5 == 0 && (a0_6 == 0)))) = false := by simpa using c5))
    (try (have c5b2 : (a0_2.toList == ([] : List UInt8) && ((a0_3 == 0 && (a0_4 == 0)) && (a0_5 == 0 && (a0_6 == 0)))) = false := by simpa using c5))
    (try (have c5b3 : ¬ (a0_2.toList = ([] : List UInt8) && ((a0_3 == 0 && (a0_4 == 0)) && (a0_5 == 0 && (a0_6 == 0)))) := by simpa using c5))
    clear c5
    obtain rfl := Option.some.inj H
    go_enter Try.func18, Try.ntmps18
    go_wp2_with (first | ((with_reducible refine gate_dst (N := 1) rfl ?_); refine box_event ?hg (N := 1) ?hd (cs := #[.string a0_0, .int .i64 a0_1, .string a0_2, .int .i64 a0_3, .int .i64 a0_4, .int .i64 a0_5, .int .i64 a0_6, .int .i64 a0_7]) (t := 30) ?hr ?_; (case hd => rfl); (case hg => rfl); (case hr => exact gq); intro gb116 hg w9 hbox hb; have n0_ := am (below_step u2_0 hb); have n1_ := am (hbox); have n2_ := bsw w hg (below_size u2_0); have n3_ := bsw w hg (below_size u2_0); clear HB; have HB := n0_; have BK116 := n1_; have GW116 := n2_; have GE116 := n3_; clear n0_ n1_ n2_ n3_ hb hbox hg; obtain ⟨hcz10_0, hcz10_1, hcz10_2, hcz10_3, hcz10_4, hcz10_5, hcz10_6, hcz10_7, hfz10_0, hfz10_1, hfz10_2, hfz10_3, hfz10_4, hfz10_5, hfz10_6, hfz10_7⟩ := cf8 BK116.out) | ((with_reducible refine gate_callee (f := 56) rfl ?_); refine goesL_ (some 5) rfl rfl Try.func56 (by kernel_rfl) rfl #[.string a0_0] rfl u2_1 ?_; (with_reducible refine (impl_IsName.calls k a0_0 true _ A2.out).mono ?_); rintro e w' ⟨rfl, ⟨nd, rfl⟩⟩; refine ⟨_, rfl, ?_⟩))
    go_ret
    exact ⟨by first | rfl | (simp [*] <;> rfl), s2_2⟩
  ·rw [if_neg c4] at H
   have c4b0 : (a0_1 == 1) = false := beq_eq_false_iff_ne.mpr c4
   have c4b1 : (a0_1 != 1) = true := bne_iff_ne.mpr c4
   by_cases c11 : a0_1 = 2
   ·rw [if_pos c11] at H
    have c11b0 : (a0_1 == 2) = true := beq_iff_eq.mpr c11
    have c11b1 : (a0_1 != 2) = false := bne_eq_false_iff_eq.mpr c11
    clear c11
    replace H := Option.bind_eq_some_iff.mp H
    obtain ⟨t119, A120, H⟩ := H
    replace H : (if t119 = true then (if a0_2.toList = a0_0.toList then (some false) else ((impl_IsJet.f a0_3 a0_4 a0_5 a0_6 1).bind fun t120 => (if t120 = true then ((impl_isWithin.f a0_7 0 32).bind fun t121 => (some t121)) else (some false)))) else (some false)) = some r := H
    have A12 := am A120
    clear A120
    by_cases c13 : t119 = true
    ·subst c13
     have H1 : (if a0_2.toList = a0_0.toList then (some false) else ((impl_IsJet.f a0_3 a0_4 a0_5 a0_6 1).bind fun t120 => (if t120 = true then ((impl_isWithin.f a0_7 0 32).bind fun t121 => (some t121)) else (some false)))) = some r := by rw [if_pos rfl] at H; exact H
     clear H
     have H := H1
     clear H1
     by_cases c14 : a0_2.toList = a0_0.toList
     ·rw [if_pos c14] at H
      have c14b0 : (a0_2.toList == a0_0.toList) = true := beq_iff_eq.mpr c14
      have c14b1 : (a0_2.toList != a0_0.toList) = false := bne_eq_false_iff_eq.mpr c14
      clear c14
      obtain rfl := Option.some.inj H
      go_enter Try.func18, Try.ntmps18
      go_wp2_with (first | ((with_reducible refine gate_dst (N := 1) rfl ?_); refine box_event ?hg (N := 1) ?hd (cs := #[.string a0_0, .int .i64 a0_1, .string a0_2, .int .i64 a0_3, .int .i64 a0_4, .int .i64 a0_5, .int .i64 a0_6, .int .i64 a0_7]) (t := 30) ?hr ?_; (case hd => rfl); (case hg => rfl); (case hr => exact gq); intro gb116 hg w15 hbox hb; have n0_ := am (below_step u2_0 hb); have n1_ := am (hbox); have n2_ := bsw w hg (below_size u2_0); have n3_ := bsw w hg (below_size u2_0); clear HB; have HB := n0_; have BK116 := n1_; have GW116 := n2_; have GE116 := n3_; clear n0_ n1_ n2_ n3_ hb hbox hg; obtain ⟨hcz16_0, hcz16_1, hcz16_2, hcz16_3, hcz16_4, hcz16_5, hcz16_6, hcz16_7, hfz16_0, hfz16_1, hfz16_2, hfz16_3, hfz16_4, hfz16_5, hfz16_6, hfz16_7⟩ := cf8 BK116.out) | ((with_reducible refine gate_callee (f := 56) rfl ?_); refine goesL_ (some 5) rfl rfl Try.func56 (by kernel_rfl) rfl #[.string a0_0] rfl u2_1 ?_; (with_reducible refine (impl_IsName.calls k a0_0 true _ A2.out).mono ?_); rintro e w' ⟨rfl, ⟨nd, rfl⟩⟩; refine ⟨_, rfl, ?_⟩) | ((with_reducible refine gate_callee (f := 56) rfl ?_); refine goesL_ (some 29) rfl rfl Try.func56 (by kernel_rfl) rfl #[.string a0_2] rfl u2_1 ?_; (with_reducible refine (impl_IsName.calls k a0_2 true _ A12.out).mono ?_); rintro e w' ⟨rfl, ⟨nd, rfl⟩⟩; refine ⟨_, rfl, ?_⟩))
      go_ret
      exact ⟨by first | rfl | (simp [*] <;> rfl), s2_2⟩
     ·rw [if_neg c14] at H
      have c14b0 : (a0_2.toList == a0_0.toList) = false := beq_eq_false_iff_ne.mpr c14
      have c14b1 : (a0_2.toList != a0_0.toList) = true := bne_iff_ne.mpr c14
      replace H := Option.bind_eq_some_iff.mp H
      obtain ⟨t120, A170, H⟩ := H
      replace H : (if t120 = true then ((impl_isWithin.f a0_7 0 32).bind fun t121 => (some t121)) else (some false)) = some r := H
      have A17 := am A170
      clear A170
      by_cases c18 : t120 = true
      ·subst c18
       have H1 : ((impl_isWithin.f a0_7 0 32).bind fun t121 => (some t121)) = some r := by rw [if_pos rfl] at H; exact H
       clear H
       have H := H1
       clear H1
       replace H := Option.bind_eq_some_iff.mp H
       obtain ⟨t121, A190, H⟩ := H
       replace H : (some t121) = some r := H
       have A19 := am A190
       clear A190
       obtain rfl := Option.some.inj H
       go_enter Try.func18, Try.ntmps18
       go_wp2_with (first | ((with_reducible refine gate_dst (N := 1) rfl ?_); refine box_event ?hg (N := 1) ?hd (cs := #[.string a0_0, .int .i64 a0_1, .string a0_2, .int .i64 a0_3, .int .i64 a0_4, .int .i64 a0_5, .int .i64 a0_6, .int .i64 a0_7]) (t := 30) ?hr ?_; (case hd => rfl); (case hg => rfl); (case hr => exact gq); intro gb116 hg w20 hbox hb; have n0_ := am (below_step u2_0 hb); have n1_ := am (hbox); have n2_ := bsw w hg (below_size u2_0); have n3_ := bsw w hg (below_size u2_0); clear HB; have HB := n0_; have BK116 := n1_; have GW116 := n2_; have GE116 := n3_; clear n0_ n1_ n2_ n3_ hb hbox hg; obtain ⟨hcz21_0, hcz21_1, hcz21_2, hcz21_3, hcz21_4, hcz21_5, hcz21_6, hcz21_7, hfz21_0, hfz21_1, hfz21_2, hfz21_3, hfz21_4, hfz21_5, hfz21_6, hfz21_7⟩ := cf8 BK116.out) | ((with_reducible refine gate_callee (f := 56) rfl ?_); refine goesL_ (some 5) rfl rfl Try.func56 (by kernel_rfl) rfl #[.string a0_0] rfl u2_1 ?_; (with_reducible refine (impl_IsName.calls k a0_0 true _ A2.out).mono ?_); rintro e w' ⟨rfl, ⟨nd, rfl⟩⟩; refine ⟨_, rfl, ?_⟩) | ((with_reducible refine gate_callee (f := 56) rfl ?_); refine goesL_ (some 29) rfl rfl Try.func56 (by kernel_rfl) rfl #[.string a0_2] rfl u2_1 ?_; (with_reducible refine (impl_IsName.calls k a0_2 true _ A12.out).mono ?_); rintro e w' ⟨rfl, ⟨nd, rfl⟩⟩; refine ⟨_, rfl, ?_⟩) | (go_at_call 58; (with_reducible refine (impl_IsJet.calls a0_3 a0_4 a0_5 a0_6 1 true _ A17.out).mono ?_); rintro e w22 ⟨rfl, hb⟩; have n0_ := am (blk_below (g := gb116) (o := zo0 a0_0 a0_1 a0_2 a0_3 a0_4 a0_5 a0_6 a0_7) u2_4 hb); have n1_ := am (below_step u2_3 hb); clear BK116 HB; have BK116 := n0_; have HB := n1_; clear n0_ n1_; (try clear hb); (try clear hb2); (try clear hk); (try clear hi); obtain ⟨hcz23_0, hcz23_1, hcz23_2, hcz23_3, hcz23_4, hcz23_5, hcz23_6, hcz23_7, hfz23_0, hfz23_1, hfz23_2, hfz23_3, hfz23_4, hfz23_5, hfz23_6, hfz23_7⟩ := cf8 BK116.out) | (go_at_call 59; (with_reducible refine (impl_isWithin.calls a0_7 0 32 t121 _ A19.out).mono ?_); rintro e w' ⟨rfl, ⟨nd, rfl⟩⟩))
       go_ret
       exact ⟨by first | rfl | (simp [*] <;> rfl), s2_2⟩
      ·replace c18 := Bool.eq_false_iff.mpr c18
       subst c18
       have H1 : (some false) = some r := by rw [if_neg (show ¬ (false = true) by decide)] at H; exact H
       clear H
       have H := H1
       clear H1
       obtain rfl := Option.some.inj H
       go_enter Try.func18, Try.ntmps18
       go_wp2_with (first | ((with_reducible refine gate_dst (N := 1) rfl ?_); refine box_event ?hg (N := 1) ?hd (cs := #[.string a0_0, .int .i64 a0_1, .string a0_2, .int .i64 a0_3, .int .i64 a0_4, .int .i64 a0_5, .int .i64 a0_6, .int .i64 a0_7]) (t := 30) ?hr ?_; (case hd => rfl); (case hg => rfl); (case hr => exact gq); intro gb116 hg w24 hbox hb; have n0_ := am (below_step u2_0 hb); have n1_ := am (hbox); have n2_ := bsw w hg (below_size u2_0); have n3_ := bsw w hg (below_size u2_0); clear HB; have HB := n0_; have BK116 := n1_; have GW116 := n2_; have GE116 := n3_; clear n0_ n1_ n2_ n3_ hb hbox hg; obtain ⟨hcz25_0, hcz25_1, hcz25_2, hcz25_3, hcz25_4, hcz25_5, hcz25_6, hcz25_7, hfz25_0, hfz25_1, hfz25_2, hfz25_3, hfz25_4, hfz25_5, hfz25_6, hfz25_7⟩ := cf8 BK116.out) | ((with_reducible refine gate_callee (f := 56) rfl ?_); refine goesL_ (some 5) rfl rfl Try.func56 (by kernel_rfl) rfl #[.string a0_0] rfl u2_1 ?_; (with_reducible refine (impl_IsName.calls k a0_0 true _ A2.out).mono ?_); rintro e w' ⟨rfl, ⟨nd, rfl⟩⟩; refine ⟨_, rfl, ?_⟩) | ((with_reducible refine gate_callee (f := 56) rfl ?_); refine goesL_ (some 29) rfl rfl Try.func56 (by kernel_rfl) rfl #[.string a0_2] rfl u2_1 ?_; (with_reducible refine (impl_IsName.calls k a0_2 true _ A12.out).mono ?_); rintro e w' ⟨rfl, ⟨nd, rfl⟩⟩; refine ⟨_, rfl, ?_⟩) | (go_at_call 58; (with_reducible refine (impl_IsJet.calls a0_3 a0_4 a0_5 a0_6 1 false _ A17.out).mono ?_); rintro e w26 ⟨rfl, hb⟩; have n0_ := am (blk_below (g := gb116) (o := zo0 a0_0 a0_1 a0_2 a0_3 a0_4 a0_5 a0_6 a0_7) u2_4 hb); have n1_ := am (below_step u2_3 hb); clear BK116 HB; have BK116 := n0_; have HB := n1_; clear n0_ n1_; (try clear hb); (try clear hb2); (try clear hk); (try clear hi)))
       go_ret
       exact ⟨by first | rfl | (simp [*] <;> rfl), s2_2⟩
    ·replace c13 := Bool.eq_false_iff.mpr c13
     subst c13
     have H1 : (some false) = some r := by rw [if_neg (show ¬ (false = true) by decide)] at H; exact H
     clear H
     have H := H1
     clear H1
     obtain rfl := Option.some.inj H
     go_enter Try.func18, Try.ntmps18
     go_wp2_with (first | ((with_reducible refine gate_dst (N := 1) rfl ?_); refine box_event ?hg (N := 1) ?hd (cs := #[.string a0_0, .int .i64 a0_1, .string a0_2, .int .i64 a0_3, .int .i64 a0_4, .int .i64 a0_5, .int .i64 a0_6, .int .i64 a0_7]) (t := 30) ?hr ?_; (case hd => rfl); (case hg => rfl); (case hr => exact gq); intro gb116 hg w27 hbox hb; have n0_ := am (below_step u2_0 hb); have n1_ := am (hbox); have n2_ := bsw w hg (below_size u2_0); have n3_ := bsw w hg (below_size u2_0); clear HB; have HB := n0_; have BK116 := n1_; have GW116 := n2_; have GE116 := n3_; clear n0_ n1_ n2_ n3_ hb hbox hg; obtain ⟨hcz28_0, hcz28_1, hcz28_2, hcz28_3, hcz28_4, hcz28_5, hcz28_6, hcz28_7, hfz28_0, hfz28_1, hfz28_2, hfz28_3, hfz28_4, hfz28_5, hfz28_6, hfz28_7⟩ := cf8 BK116.out) | ((with_reducible refine gate_callee (f := 56) rfl ?_); refine goesL_ (some 5) rfl rfl Try.func56 (by kernel_rfl) rfl #[.string a0_0] rfl u2_1 ?_; (with_reducible refine (impl_IsName.calls k a0_0 true _ A2.out).mono ?_); rintro e w' ⟨rfl, ⟨nd, rfl⟩⟩; refine ⟨_, rfl, ?_⟩) | ((with_reducible refine gate_callee (f := 56) rfl ?_); refine goesL_ (some 29) rfl rfl Try.func56 (by kernel_rfl) rfl #[.string a0_2] rfl u2_1 ?_; (with_reducible refine (impl_IsName.calls k a0_2 false _ A12.out).mono ?_); rintro e w' ⟨rfl, ⟨nd, rfl⟩⟩; refine ⟨_, rfl, ?_⟩))
     go_ret
     exact ⟨by first | rfl | (simp [*] <;> rfl), s2_2⟩
   ·rw [if_neg c11] at H
    have c11b0 : (a0_1 == 2) = false := beq_eq_false_iff_ne.mpr c11
    have c11b1 : (a0_1 != 2) = true := bne_iff_ne.mpr c11
    by_cases c29 : a0_1 = 3
    ·rw [if_pos c29] at H
     have c29b0 : (a0_1 == 3) = true := beq_iff_eq.mpr c29
     have c29b1 : (a0_1 != 3) = false := bne_eq_false_iff_eq.mpr c29
     clear c29
     by_cases c30 : (a0_5 == 0 && (a0_6 == 0 && (a0_7 == 0))) = true
     ·rw [if_pos c30] at H
      have c30b0 : (a0_5 == 0 && (a0_6 == 0 && (a0_7 == 0))) = true := c30
      (try (have c30b1 : decide (a0_5 = 0 && (a0_6 == 0 && (a0_7 == 0))) = true := by simpa using c30))
      (try (have c30b2 : (a0_5 == 0 && (a0_6 == 0 && (a0_7 == 0))) = true := by simpa using c30))
      clear c30
      replace H := Option.bind_eq_some_iff.mp H
      obtain ⟨t122, A310, H⟩ := H
      replace H : (if t122 = true then (if a0_2.toList = a0_0.toList then (some false) else ((impl_IsPlace.f a0_3 a0_4).bind fun t123 => (some t123))) else (some false)) = some r := H
      have A31 := am A310
      clear A310
      by_cases c32 : t122 = true
      ·subst c32
       have H1 : (if a0_2.toList = a0_0.toList then (some false) else ((impl_IsPlace.f a0_3 a0_4).bind fun t123 => (some t123))) = some r := by rw [if_pos rfl] at H; exact H
       clear H
       have H := H1
       clear H1
       by_cases c33 : a0_2.toList = a0_0.toList
       ·rw [if_pos c33] at H
        have c33b0 : (a0_2.toList == a0_0.toList) = true := beq_iff_eq.mpr c33
        have c33b1 : (a0_2.toList != a0_0.toList) = false := bne_eq_false_iff_eq.mpr c33
        clear c33
        obtain rfl := Option.some.inj H
        go_enter Try.func18, Try.ntmps18
        go_wp2_with (first | ((with_reducible refine gate_dst (N := 1) rfl ?_); refine box_event ?hg (N := 1) ?hd (cs := #[.string a0_0, .int .i64 a0_1, .string a0_2, .int .i64 a0_3, .int .i64 a0_4, .int .i64 a0_5, .int .i64 a0_6, .int .i64 a0_7]) (t := 30) ?hr ?_; (case hd => rfl); (case hg => rfl); (case hr => exact gq); intro gb116 hg w34 hbox hb; have n0_ := am (below_step u2_0 hb); have n1_ := am (hbox); have n2_ := bsw w hg (below_size u2_0); have n3_ := bsw w hg (below_size u2_0); clear HB; have HB := n0_; have BK116 := n1_; have GW116 := n2_; have GE116 := n3_; clear n0_ n1_ n2_ n3_ hb hbox hg; obtain ⟨hcz35_0, hcz35_1, hcz35_2, hcz35_3, hcz35_4, hcz35_5, hcz35_6, hcz35_7, hfz35_0, hfz35_1, hfz35_2, hfz35_3, hfz35_4, hfz35_5, hfz35_6, hfz35_7⟩ := cf8 BK116.out) | ((with_reducible refine gate_callee (f := 56) rfl ?_); refine goesL_ (some 5) rfl rfl Try.func56 (by kernel_rfl) rfl #[.string a0_0] rfl u2_1 ?_; (with_reducible refine (impl_IsName.calls k a0_0 true _ A2.out).mono ?_); rintro e w' ⟨rfl, ⟨nd, rfl⟩⟩; refine ⟨_, rfl, ?_⟩) | (go_at_call 56; (with_reducible refine (impl_IsName.calls k a0_2 true _ A31.out).mono ?_); rintro e w' ⟨rfl, ⟨nd, rfl⟩⟩))
        go_ret
        exact ⟨by first | rfl | (simp [*] <;> rfl), s2_2⟩
       ·rw [if_neg c33] at H
        have c33b0 : (a0_2.toList == a0_0.toList) = false := beq_eq_false_iff_ne.mpr c33
        have c33b1 : (a0_2.toList != a0_0.toList) = true := bne_iff_ne.mpr c33
        replace H := Option.bind_eq_some_iff.mp H
        obtain ⟨t123, A360, H⟩ := H
        replace H : (some t123) = some r := H
        have A36 := am A360
        clear A360
        obtain rfl := Option.some.inj H
        go_enter Try.func18, Try.ntmps18
        go_wp2_with (first | ((with_reducible refine gate_dst (N := 1) rfl ?_); refine box_event ?hg (N := 1) ?hd (cs := #[.string a0_0, .int .i64 a0_1, .string a0_2, .int .i64 a0_3, .int .i64 a0_4, .int .i64 a0_5, .int .i64 a0_6, .int .i64 a0_7]) (t := 30) ?hr ?_; (case hd => rfl); (case hg => rfl); (case hr => exact gq); intro gb116 hg w37 hbox hb; have n0_ := am (below_step u2_0 hb); have n1_ := am (hbox); have n2_ := bsw w hg (below_size u2_0); have n3_ := bsw w hg (below_size u2_0); clear HB; have HB := n0_; have BK116 := n1_; have GW116 := n2_; have GE116 := n3_; clear n0_ n1_ n2_ n3_ hb hbox hg; obtain ⟨hcz38_0, hcz38_1, hcz38_2, hcz38_3, hcz38_4, hcz38_5, hcz38_6, hcz38_7, hfz38_0, hfz38_1, hfz38_2, hfz38_3, hfz38_4, hfz38_5, hfz38_6, hfz38_7⟩ := cf8 BK116.out) | ((with_reducible refine gate_callee (f := 56) rfl ?_); refine goesL_ (some 5) rfl rfl Try.func56 (by kernel_rfl) rfl #[.string a0_0] rfl u2_1 ?_; (with_reducible refine (impl_IsName.calls k a0_0 true _ A2.out).mono ?_); rintro e w' ⟨rfl, ⟨nd, rfl⟩⟩; refine ⟨_, rfl, ?_⟩) | (go_at_call 56; (with_reducible refine (impl_IsName.calls k a0_2 true _ A31.out).mono ?_); rintro e w' ⟨rfl, ⟨nd, rfl⟩⟩) | (go_at_call 60; (with_reducible refine (impl_IsPlace.calls a0_3 a0_4 t123 _ A36.out).mono ?_); rintro e w39 ⟨rfl, hb⟩; have n0_ := am (blk_below (g := gb116) (o := zo0 a0_0 a0_1 a0_2 a0_3 a0_4 a0_5 a0_6 a0_7) u2_4 hb); have n1_ := am (below_step u2_3 hb); clear BK116 HB; have BK116 := n0_; have HB := n1_; clear n0_ n1_; (try clear hb); (try clear hb2); (try clear hk); (try clear hi)))
        go_ret
        exact ⟨by first | rfl | (simp [*] <;> rfl), s2_2⟩
      ·replace c32 := Bool.eq_false_iff.mpr c32
       subst c32
       have H1 : (some false) = some r := by rw [if_neg (show ¬ (false = true) by decide)] at H; exact H
       clear H
       have H := H1
       clear H1
       obtain rfl := Option.some.inj H
       go_enter Try.func18, Try.ntmps18
       go_wp2_with (first | ((with_reducible refine gate_dst (N := 1) rfl ?_); refine box_event ?hg (N := 1) ?hd (cs := #[.string a0_0, .int .i64 a0_1, .string a0_2, .int .i64 a0_3, .int .i64 a0_4, .int .i64 a0_5, .int .i64 a0_6, .int .i64 a0_7]) (t := 30) ?hr ?_; (case hd => rfl); (case hg => rfl); (case hr => exact gq); intro gb116 hg w40 hbox hb; have n0_ := am (below_step u2_0 hb); have n1_ := am (hbox); have n2_ := bsw w hg (below_size u2_0); have n3_ := bsw w hg (below_size u2_0); clear HB; have HB := n0_; have BK116 := n1_; have GW116 := n2_; have GE116 := n3_; clear n0_ n1_ n2_ n3_ hb hbox hg; obtain ⟨hcz41_0, hcz41_1, hcz41_2, hcz41_3, hcz41_4, hcz41_5, hcz41_6, hcz41_7, hfz41_0, hfz41_1, hfz41_2, hfz41_3, hfz41_4, hfz41_5, hfz41_6, hfz41_7⟩ := cf8 BK116.out) | ((with_reducible refine gate_callee (f := 56) rfl ?_); refine goesL_ (some 5) rfl rfl Try.func56 (by kernel_rfl) rfl #[.string a0_0] rfl u2_1 ?_; (with_reducible refine (impl_IsName.calls k a0_0 true _ A2.out).mono ?_); rintro e w' ⟨rfl, ⟨nd, rfl⟩⟩; refine ⟨_, rfl, ?_⟩) | (go_at_call 56; (with_reducible refine (impl_IsName.calls k a0_2 false _ A31.out).mono ?_); rintro e w' ⟨rfl, ⟨nd, rfl⟩⟩))
       go_ret
       exact ⟨by first | rfl | (simp [*] <;> rfl), s2_2⟩
     ·rw [if_neg c30] at H
      have c30b0 : (a0_5 == 0 && (a0_6 == 0 && (a0_7 == 0))) = false := by simpa using c30
      (try (have c30b1 : decide (a0_5 = 0 && (a0_6 == 0 && (a0_7 == 0))) = false := by simpa using c30))
      (try (have c30b2 : (a0_5 == 0 && (a0_6 == 0 && (a0_7 == 0))) = false := by simpa using c30))
      (try (have c30b3 : ¬ (a0_5 = 0 && (a0_6 == 0 && (a0_7 == 0))) := by simpa using c30))
      clear c30
      obtain rfl := Option.some.inj H
      go_enter Try.func18, Try.ntmps18
      go_wp2_with (first | ((with_reducible refine gate_dst (N := 1) rfl ?_); refine box_event ?hg (N := 1) ?hd (cs := #[.string a0_0, .int .i64 a0_1, .string a0_2, .int .i64 a0_3, .int .i64 a0_4, .int .i64 a0_5, .int .i64 a0_6, .int .i64 a0_7]) (t := 30) ?hr ?_; (case hd => rfl); (case hg => rfl); (case hr => exact gq); intro gb116 hg w42 hbox hb; have n0_ := am (below_step u2_0 hb); have n1_ := am (hbox); have n2_ := bsw w hg (below_size u2_0); have n3_ := bsw w hg (below_size u2_0); clear HB; have HB := n0_; have BK116 := n1_; have GW116 := n2_; have GE116 := n3_; clear n0_ n1_ n2_ n3_ hb hbox hg; obtain ⟨hcz43_0, hcz43_1, hcz43_2, hcz43_3, hcz43_4, hcz43_5, hcz43_6, hcz43_7, hfz43_0, hfz43_1, hfz43_2, hfz43_3, hfz43_4, hfz43_5, hfz43_6, hfz43_7⟩ := cf8 BK116.out) | ((with_reducible refine gate_callee (f := 56) rfl ?_); refine goesL_ (some 5) rfl rfl Try.func56 (by kernel_rfl) rfl #[.string a0_0] rfl u2_1 ?_; (with_reducible refine (impl_IsName.calls k a0_0 true _ A2.out).mono ?_); rintro e w' ⟨rfl, ⟨nd, rfl⟩⟩; refine ⟨_, rfl, ?_⟩))
      go_ret
      exact ⟨by first | rfl | (simp [*] <;> rfl), s2_2⟩
    ·rw [if_neg c29] at H
     have c29b0 : (a0_1 == 3) = false := beq_eq_false_iff_ne.mpr c29
     have c29b1 : (a0_1 != 3) = true := bne_iff_ne.mpr c29
     obtain rfl := Option.some.inj H
     go_enter Try.func18, Try.ntmps18
     go_wp2_with (first | ((with_reducible refine gate_dst (N := 1) rfl ?_); refine box_event ?hg (N := 1) ?hd (cs := #[.string a0_0, .int .i64 a0_1, .string a0_2, .int .i64 a0_3, .int .i64 a0_4, .int .i64 a0_5, .int .i64 a0_6, .int .i64 a0_7]) (t := 30) ?hr ?_; (case hd => rfl); (case hg => rfl); (case hr => exact gq); intro gb116 hg w44 hbox hb; have n0_ := am (below_step u2_0 hb); have n1_ := am (hbox); have n2_ := bsw w hg (below_size u2_0); have n3_ := bsw w hg (below_size u2_0); clear HB; have HB := n0_; have BK116 := n1_; have GW116 := n2_; have GE116 := n3_; clear n0_ n1_ n2_ n3_ hb hbox hg; obtain ⟨hcz45_0, hcz45_1, hcz45_2, hcz45_3, hcz45_4, hcz45_5, hcz45_6, hcz45_7, hfz45_0, hfz45_1, hfz45_2, hfz45_3, hfz45_4, hfz45_5, hfz45_6, hfz45_7⟩ := cf8 BK116.out) | ((with_reducible refine gate_callee (f := 56) rfl ?_); refine goesL_ (some 5) rfl rfl Try.func56 (by kernel_rfl) rfl #[.string a0_0] rfl u2_1 ?_; (with_reducible refine (impl_IsName.calls k a0_0 true _ A2.out).mono ?_); rintro e w' ⟨rfl, ⟨nd, rfl⟩⟩; refine ⟨_, rfl, ?_⟩))
     go_ret
     exact ⟨by first | rfl | (simp [*] <;> rfl), s2_2⟩
 ·replace c3 := Bool.eq_false_iff.mpr c3
  subst c3
  have H1 : (some false) = some r := by rw [if_neg (show ¬ (false = true) by decide)] at H; exact H
  clear H
  have H := H1
  clear H1
  obtain rfl := Option.some.inj H
  go_enter Try.func18, Try.ntmps18
  go_wp2_with (first | ((with_reducible refine gate_dst (N := 1) rfl ?_); refine box_event ?hg (N := 1) ?hd (cs := #[.string a0_0, .int .i64 a0_1, .string a0_2, .int .i64 a0_3, .int .i64 a0_4, .int .i64 a0_5, .int .i64 a0_6, .int .i64 a0_7]) (t := 30) ?hr ?_; (case hd => rfl); (case hg => rfl); (case hr => exact gq); intro gb116 hg w46 hbox hb; have n0_ := am (below_step u2_0 hb); have n1_ := am (hbox); have n2_ := bsw w hg (below_size u2_0); have n3_ := bsw w hg (below_size u2_0); clear HB; have HB := n0_; have BK116 := n1_; have GW116 := n2_; have GE116 := n3_; clear n0_ n1_ n2_ n3_ hb hbox hg; obtain ⟨hcz47_0, hcz47_1, hcz47_2, hcz47_3, hcz47_4, hcz47_5, hcz47_6, hcz47_7, hfz47_0, hfz47_1, hfz47_2, hfz47_3, hfz47_4, hfz47_5, hfz47_6, hfz47_7⟩ := cf8 BK116.out) | ((with_reducible refine gate_callee (f := 56) rfl ?_); refine goesL_ (some 5) rfl rfl Try.func56 (by kernel_rfl) rfl #[.string a0_0] rfl u2_1 ?_; (with_reducible refine (impl_IsName.calls k a0_0 false _ A2.out).mono ?_); rintro e w' ⟨rfl, ⟨nd, rfl⟩⟩; refine ⟨_, rfl, ?_⟩))
  go_ret
  exact ⟨by first | rfl | (simp [*] <;> rfl), s2_2⟩

end Go.Proofs.Ytkedcokhcgklpaa.MFnLines
