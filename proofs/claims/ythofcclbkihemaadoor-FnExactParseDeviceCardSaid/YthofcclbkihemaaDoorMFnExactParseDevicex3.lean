-- Written by a program for this claim.
import Derived.Test.YthofcclbkihemaaDoorMFnExactParseDevicex0
import Derived.Test.YthofcclbkihemaaDoorMFnExactParseDevicex2
namespace Go.Proofs.YthofcclbkihemaaDoor.MFnExactParseDevice
open Go.RowKit Go.Proofs.YthofcclbkihemaaDoorW.PrintWords Go.Proofs.YthofcclbkihemaaDoorW.PrintLast Go.Proofs.YthofcclbkihemaaDoorW.PrintMore
attribute [local go_sem] max2_int min2_int max_two min_two max_three min_three max_four min_four
set_option linter.unusedVariables false
set_option linter.unusedSimpArgs false
set_option maxHeartbeats 8000000
set_option maxRecDepth 100000

theorem s3_0 {p : Prop} (h : p := by repeat (first | (with_reducible first | exact HB.out | apply below_alloc | apply pw_below_drewN | apply below_drew1 | refine below_set ?_ GE130.out) | exact HB.out)) : p := h
theorem s3_1 {p : Prop} (h : p := by repeat (first | (with_reducible first | exact HB.out | apply below_alloc | apply pw_below_drewN | apply below_drew1) | exact HB.out)) : p := h
abbrev mk3_0 : Array Bool := #[false, false, false, false, false, false, false, false, false, false, false]
abbrev mk3_1 : Array Bool := #[true, false, false, false, false, false, false, false, false, false, false]
abbrev mk3_2 : Array Bool := #[true, false, false, true, false, false, false, false, false, false, false]
abbrev mk3_3 : Array Bool := #[true, false, false, true, false, true, false, false, false, false, false]
abbrev mk3_4 : Array Bool := #[true, true, false, true, false, true, false, false, false, false, false]
abbrev mk3_5 : Array Bool := #[true, true, false, true, false, true, true, false, false, false, false]
abbrev mk3_6 : Array Bool := #[true, true, true, true, false, true, true, false, false, false, false]
abbrev mk3_7 : Array Bool := #[true, true, true, true, true, true, true, false, false, false, false]
abbrev mk3_8 : Array Bool := #[true, true, true, true, true, true, true, true, false, false, false]
abbrev mk3_9 : Array Bool := #[true, true, true, true, true, true, true, true, true, false, false]
abbrev mk3_10 : Array Bool := #[true, true, true, true, true, true, true, true, true, true, false]
abbrev mk3_11 : Array Bool := #[true, true, true, true, true, true, true, true, true, true, true]
theorem u3_0 {p : Prop} (h : p := by repeat (first | (with_reducible first | exact HB.out | apply below_alloc | apply pw_below_drewN | apply below_drew1) | exact HB.out)) : p := h
theorem u3_1 {p : Prop} (h : p := by (try simp only [List.map_toArray, List.map_cons, List.map_nil]); first | done | rfl) : p := h
theorem u3_2 {p : Prop} (h : p := by repeat (first | (with_reducible first | exact HB.out | apply below_alloc | apply pw_below_drewN | apply below_drew1 | refine below_set ?_ GE130.out) | exact HB.out)) : p := h
theorem u3_3 {p : Prop} (h : p := by first | exact t2_ | (have t3_ := t2_; change 0 + _ ≤ _ at t3_; rwa [Nat.zero_add] at t3_) | (change (0 + _) + _ ≤ _ at t2_; rwa [Nat.zero_add] at t2_)) : p := h
theorem u3_4 {p : Prop} (h : p := by exact bd BK130.out) : p := h
/-! ### impl_FormatMeasure: function 40 -/
def impl_FormatMeasure.j0 : Nat → Int → ByteArray → Option (ByteArray)
 | 0, _, _ => none
 | k + 1, x0, x3 => (impl_FormatNumber.f (wrap64 (Int.tdiv x0 8))).bind fun t127 => (if x3.size + t127.size ≤ 9223372036854775807 then (if (Int.tmod x0 8) > 0 then ((impl_FormatNumber.f (wrap64 (1000 + (wrap64 ((Int.tmod x0 8) * 125))))).bind fun t128 => (if 1 ≤ (t128.size : Int) then ((strings_TrimRight.f (t128.extract 1 t128.size) (⟨#[48]⟩ : ByteArray)).bind fun t129 => (if 1 + t129.size ≤ 9223372036854775807 then (if (x3 ++ t127).size + ((⟨#[46]⟩ : ByteArray) ++ t129).size ≤ 9223372036854775807 then (some ((x3 ++ t127) ++ ((⟨#[46]⟩ : ByteArray) ++ t129))) else (none)) else (none))) else (none))) else (some (x3 ++ t127))) else (none))
def impl_FormatMeasure.f (k : Nat) (a0 : Int) : Option (ByteArray) := (impl_IsMeasure.f a0).bind fun t126 => (if t126 = true then (if a0 < 0 then (impl_FormatMeasure.j0 k (wrap64 (-a0)) (⟨#[45]⟩ : ByteArray)) else (impl_FormatMeasure.j0 k a0 (⟨#[]⟩ : ByteArray))) else (some (⟨#[]⟩ : ByteArray)))
theorem impl_FormatMeasure.mono_l : ∀ k, (∀ y0 y1, LeO (impl_FormatMeasure.j0 k y0 y1) (impl_FormatMeasure.j0 (k + 1) y0 y1))
 | 0 => fun _ _ r h => by simp [impl_FormatMeasure.j0] at h
 | k + 1 => by
  have ih0 := impl_FormatMeasure.mono_l k
  ·intro y0 y1
   unfold impl_FormatMeasure.j0
   repeat' first
   | (with_reducible exact ih0 _ _)
   | (with_reducible exact LeO.refl _)
   | (with_reducible exact LeO.none _)
   | (with_reducible refine LeO.ite ?_ ?_)
   | (with_reducible refine LeO.bind ?_ (fun _ => ?_))
theorem impl_FormatMeasure.mono : ∀ a0 k, LeO (impl_FormatMeasure.f k a0) (impl_FormatMeasure.f (k + 1) a0) := by
 intro a0 k
 have ih0 := impl_FormatMeasure.mono_l k
 unfold impl_FormatMeasure.f
 repeat' first
   | (with_reducible exact ih0 _ _)
   | (with_reducible exact LeO.refl _)
   | (with_reducible exact LeO.none _)
   | (with_reducible refine LeO.ite ?_ ?_)
   | (with_reducible refine LeO.bind ?_ (fun _ => ?_))
theorem impl_FormatMeasure.calls (k : Nat) (a0 : Int) (r : ByteArray) (w : World) (h : impl_FormatMeasure.f k a0 = some r) (hT : Ty.TabP w := by first | exact hT | exact Ty.TabP.below hT (by repeat (first | (with_reducible first | exact HB.out | apply below_alloc | apply pw_below_drewN | apply below_drew1 | refine below_set ?_ (Aside0.out (by assumption))) | exact HB.out)) | (repeat (first | exact hT | apply Ty.TabP.drewN))) :
  Calls Tryd.prog 40 #[.int .i64 a0] w fun e w' => e = .returned (.string r) ∧ Below w.heap.size w w' := by
 have HB := am (Below.refl w.heap.size w)
 have H : ((impl_IsMeasure.f a0).bind fun t126 => (if t126 = true then (if a0 < 0 then (impl_FormatMeasure.j0 k (wrap64 (-a0)) (⟨#[45]⟩ : ByteArray)) else (impl_FormatMeasure.j0 k a0 (⟨#[]⟩ : ByteArray))) else (some (⟨#[]⟩ : ByteArray)))) = some r := h
 clear h
 replace H := ob H
 obtain ⟨t126, A20, H⟩ := H
 replace H : (if t126 = true then (if a0 < 0 then (impl_FormatMeasure.j0 k (wrap64 (-a0)) (⟨#[45]⟩ : ByteArray)) else (impl_FormatMeasure.j0 k a0 (⟨#[]⟩ : ByteArray))) else (some (⟨#[]⟩ : ByteArray))) = some r := H
 have A2 := am A20
 clear A20
 by_cases c3 : t126 = true
 ·subst c3
  have H1 : (if a0 < 0 then (impl_FormatMeasure.j0 k (wrap64 (-a0)) (⟨#[45]⟩ : ByteArray)) else (impl_FormatMeasure.j0 k a0 (⟨#[]⟩ : ByteArray))) = some r := by rw [if_pos rfl] at H; exact H
  clear H
  have H := H1
  clear H1
  have HC4 := am H
  clear H
  go_enter Tryd.func40, Tryd.ntmps40
  go_upto_if 9 with (first | ((with_reducible refine gate_callee (f := 77) rfl ?_); refine goesL_ (some 6) rfl rfl Tryd.func77 (by kernel_rfl) rfl #[.int .i64 a0] rfl u3_1 ?_; (with_reducible refine (impl_IsMeasure.calls a0 true _ A2.out).mono ?_); rintro e w' ⟨rfl, ⟨nd, rfl⟩⟩; refine ⟨_, rfl, ?_⟩))
  (try simp only [Act.put, List.setIfInBounds_toArray, List.set_cons_zero, List.set_cons_succ])
  go_cut [0, 3] (fun v0 v3 wc => ∃ (kq : Nat) (x0_3 : Int) (x3_3 : ByteArray), v0 = .int .i64 x0_3 ∧ v3 = .string x3_3 ∧ Aside0 (impl_FormatMeasure.j0 kq x0_3 x3_3 = some r) ∧ Aside0 (kq ≤ k) ∧ Aside0 (Below w.heap.size w wc))
  case first =>
   have H := HC4.out
   clear HC4
   by_cases c5 : a0 < 0
   ·rw [if_pos c5] at H
    have c5b0 : decide (a0 < 0) = true := decide_eq_true c5
    clear c5
    (first | rw [c5b0] | (simp only [i64_w, i32_w]; rw [c5b0]) | skip)
    have H' := am H
    clear H
    go_wp2
    go_meet
    case rel => exact ⟨_, (wrap64 (-a0)), ((⟨#[45]⟩ : ByteArray)), (by first | rfl | (simp; done) | (simp [*]; done)), (by first | rfl | (simp; done) | (simp [*]; done)), H', ⟨by first | omega | exact Nat.le_refl _⟩, ⟨s3_1⟩⟩
   ·rw [if_neg c5] at H
    have c5b0 : decide (a0 < 0) = false := decide_eq_false c5
    clear c5
    (first | rw [c5b0] | (simp only [i64_w, i32_w]; rw [c5b0]) | skip)
    have H' := am H
    clear H
    go_wp2
    go_meet
    case rel => exact ⟨_, (a0), ((⟨#[]⟩ : ByteArray)), (by first | rfl | (simp; done) | (simp [*]; done)), (by first | rfl | (simp; done) | (simp [*]; done)), H', ⟨by first | omega | exact Nat.le_refl _⟩, ⟨s3_1⟩⟩
  case rest =>
   clear HC4
   try clear p2
   try clear c3
   try clear c4
   try clear c5
   try clear c5b0
   obtain ⟨kq, x0_3, x3_3, rfl, rfl, HA, HJ3, HB⟩ := hcut
   cases kq with
   | zero => exact absurd HA.out (by simp [impl_FormatMeasure.j0])
   | succ kj3 =>
    have H := HA.out
    clear HA
    simp only [impl_FormatMeasure.j0] at H
    replace H := ob H
    obtain ⟨t127, A60, H⟩ := H
    replace H : (if x3_3.size + t127.size ≤ 9223372036854775807 then (if (Int.tmod x0_3 8) > 0 then ((impl_FormatNumber.f (wrap64 (1000 + (wrap64 ((Int.tmod x0_3 8) * 125))))).bind fun t128 => (if 1 ≤ (t128.size : Int) then ((strings_TrimRight.f (t128.extract 1 t128.size) (⟨#[48]⟩ : ByteArray)).bind fun t129 => (if 1 + t129.size ≤ 9223372036854775807 then (if (x3_3 ++ t127).size + ((⟨#[46]⟩ : ByteArray) ++ t129).size ≤ 9223372036854775807 then (some ((x3_3 ++ t127) ++ ((⟨#[46]⟩ : ByteArray) ++ t129))) else (none)) else (none))) else (none))) else (some (x3_3 ++ t127))) else (none)) = some r := H
    have A6 := am A60
    clear A60
    by_cases c7 : x3_3.size + t127.size ≤ 9223372036854775807
    ·rw [if_pos c7] at H
     have c7b0 := eq_true c7
     have c7b1 : decide (x3_3.size + t127.size ≤ 9223372036854775807) = true := decide_eq_true c7
     try have c7b2 : (9223372036854775807 < x3_3.size + t127.size) = False := eq_false (Nat.not_lt.2 c7)
     by_cases c8 : (Int.tmod x0_3 8) > 0
     ·rw [if_pos c8] at H
      have c8b0 : decide (0 < (Int.tmod x0_3 8)) = true := decide_eq_true c8
      clear c8
      replace H := ob H
      obtain ⟨t128, A90, H⟩ := H
      replace H : (if 1 ≤ (t128.size : Int) then ((strings_TrimRight.f (t128.extract 1 t128.size) (⟨#[48]⟩ : ByteArray)).bind fun t129 => (if 1 + t129.size ≤ 9223372036854775807 then (if (x3_3 ++ t127).size + ((⟨#[46]⟩ : ByteArray) ++ t129).size ≤ 9223372036854775807 then (some ((x3_3 ++ t127) ++ ((⟨#[46]⟩ : ByteArray) ++ t129))) else (none)) else (none))) else (none)) = some r := H
      have A9 := am A90
      clear A90
      by_cases c10 : 1 ≤ (t128.size : Int)
      ·rw [if_pos c10] at H
       have c10b0 := eq_true c10
       have c10b1 : decide (1 ≤ (t128.size : Int)) = true := decide_eq_true c10
       clear c10
       replace H := ob H
       obtain ⟨t129, A110, H⟩ := H
       replace H : (if 1 + t129.size ≤ 9223372036854775807 then (if (x3_3 ++ t127).size + ((⟨#[46]⟩ : ByteArray) ++ t129).size ≤ 9223372036854775807 then (some ((x3_3 ++ t127) ++ ((⟨#[46]⟩ : ByteArray) ++ t129))) else (none)) else (none)) = some r := H
       have A11 := am A110
       clear A110
       by_cases c12 : 1 + t129.size ≤ 9223372036854775807
       ·rw [if_pos c12] at H
        have c12b0 := eq_true c12
        have c12b1 : decide (1 + t129.size ≤ 9223372036854775807) = true := decide_eq_true c12
        try have c12b2 : (9223372036854775807 < 1 + t129.size) = False := eq_false (Nat.not_lt.2 c12)
        by_cases c13 : (x3_3 ++ t127).size + ((⟨#[46]⟩ : ByteArray) ++ t129).size ≤ 9223372036854775807
        ·rw [if_pos c13] at H
         have c13b0 := eq_true c13
         have c13b1 : decide ((x3_3 ++ t127).size + ((⟨#[46]⟩ : ByteArray) ++ t129).size ≤ 9223372036854775807) = true := decide_eq_true c13
         try have c13b2 : (9223372036854775807 < (x3_3 ++ t127).size + ((⟨#[46]⟩ : ByteArray) ++ t129).size) = False := eq_false (Nat.not_lt.2 c13)
         try have c13b8 : (x3_3.size + t127.size + (1 + t129.size) ≤ 9223372036854775807) = True := by have t_ := c13b0; first | (simp only [ByteArray.size_append, Nat.zero_add, Nat.add_zero] at t_; exact t_) | (have t2_ := of_eq_true t_; simp only [ByteArray.size_append] at t2_; exact eq_true u3_3)
         try have c13b9 : (9223372036854775807 < x3_3.size + t127.size + (1 + t129.size)) = False := by have t_ := c13b2; first | (simp only [ByteArray.size_append] at t_; exact t_) | (have t2_ := c13b8; exact eq_false (Nat.not_lt.2 (of_eq_true t2_)))
         obtain rfl := oi H
         go_wp2_with (first | ((with_reducible refine gate_callee (f := 39) rfl ?_); refine goesL_ (some 15) rfl rfl Tryd.func39 (by kernel_rfl) rfl #[.int .i64 (wrap64 (Int.tdiv x0_3 8))] rfl u3_1 ?_; (with_reducible refine (impl_FormatNumber.calls (wrap64 (Int.tdiv x0_3 8)) t127 _ A6.out).mono ?_); rintro e w14 ⟨rfl, hb⟩; refine ⟨_, rfl, ?_⟩; have n0_ := am (below_step u3_0 hb); clear HB; have HB := n0_; clear n0_; (try clear hb); (try clear hb2); (try clear hk); (try clear hi)) | ((with_reducible refine gate_callee (f := 39) rfl ?_); refine goesL_ (some 25) rfl rfl Tryd.func39 (by kernel_rfl) rfl #[.int .i64 (wrap64 (1000 + (wrap64 ((Int.tmod x0_3 8) * 125))))] rfl u3_1 ?_; (with_reducible refine (impl_FormatNumber.calls (wrap64 (1000 + (wrap64 ((Int.tmod x0_3 8) * 125)))) t128 _ A9.out).mono ?_); rintro e w15 ⟨rfl, hb⟩; refine ⟨_, rfl, ?_⟩; have n0_ := am (below_step u3_0 hb); clear HB; have HB := n0_; clear n0_; (try clear hb); (try clear hb2); (try clear hk); (try clear hi)) | ((with_reducible refine gate_callee (f := 78) rfl ?_); refine goesL_ (some 27) rfl rfl Tryd.func78 (by kernel_rfl) rfl #[.string (t128.extract 1 t128.size), .string (⟨#[48]⟩ : ByteArray)] rfl u3_1 ?_; (with_reducible refine (strings_TrimRight.calls (t128.extract 1 t128.size) (⟨#[48]⟩ : ByteArray) t129 _ A11.out).mono ?_); rintro e w' ⟨rfl, ⟨nd, rfl⟩⟩; refine ⟨_, rfl, ?_⟩))
         go_ret
         exact ⟨by first | rfl | (simp [*] <;> rfl), s3_1⟩
        ·rw [if_neg c13] at H
         exact absurd H (by simp)
       ·rw [if_neg c12] at H
        exact absurd H (by simp)
      ·rw [if_neg c10] at H
       exact absurd H (by simp)
     ·rw [if_neg c8] at H
      have c8b0 : decide (0 < (Int.tmod x0_3 8)) = false := decide_eq_false c8
      clear c8
      obtain rfl := oi H
      go_wp2_with (first | ((with_reducible refine gate_callee (f := 39) rfl ?_); refine goesL_ (some 15) rfl rfl Tryd.func39 (by kernel_rfl) rfl #[.int .i64 (wrap64 (Int.tdiv x0_3 8))] rfl u3_1 ?_; (with_reducible refine (impl_FormatNumber.calls (wrap64 (Int.tdiv x0_3 8)) t127 _ A6.out).mono ?_); rintro e w16 ⟨rfl, hb⟩; refine ⟨_, rfl, ?_⟩; have n0_ := am (below_step u3_0 hb); clear HB; have HB := n0_; clear n0_; (try clear hb); (try clear hb2); (try clear hk); (try clear hi)))
      go_ret
      exact ⟨by first | rfl | (simp [*] <;> rfl), s3_1⟩
    ·rw [if_neg c7] at H
     exact absurd H (by simp)
 ·replace c3 := Bool.eq_false_iff.mpr c3
  subst c3
  have H1 : (some (⟨#[]⟩ : ByteArray)) = some r := by rw [if_neg (show ¬ (false = true) by decide)] at H; exact H
  clear H
  have H := H1
  clear H1
  obtain rfl := oi H
  go_enter Tryd.func40, Tryd.ntmps40
  go_wp2_with (first | ((with_reducible refine gate_callee (f := 77) rfl ?_); refine goesL_ (some 6) rfl rfl Tryd.func77 (by kernel_rfl) rfl #[.int .i64 a0] rfl u3_1 ?_; (with_reducible refine (impl_IsMeasure.calls a0 false _ A2.out).mono ?_); rintro e w' ⟨rfl, ⟨nd, rfl⟩⟩; refine ⟨_, rfl, ?_⟩))
  go_ret
  exact ⟨by first | rfl | (simp [*] <;> rfl), s3_1⟩

/-! ### impl_FormatPlace: function 54 -/
def impl_FormatPlace.f (k : Nat) (a0_0 : Int) (a0_1 : Int) : Option (ByteArray) := (impl_IsPlace.f a0_0 a0_1).bind fun t131 => (if t131 = true then (if a0_1 < 0 then ((impl_FormatMeasure.f k a0_0).bind fun t132 => (if t132.size + 0 ≤ 9223372036854775807 then ((impl_FormatMeasure.f k a0_1).bind fun t133 => (if (t132 ++ (⟨#[]⟩ : ByteArray)).size + t133.size ≤ 9223372036854775807 then (if ((t132 ++ (⟨#[]⟩ : ByteArray)) ++ t133).size + 1 ≤ 9223372036854775807 then (some (((t132 ++ (⟨#[]⟩ : ByteArray)) ++ t133) ++ (⟨#[105]⟩ : ByteArray))) else (none)) else (none))) else (none))) else ((impl_FormatMeasure.f k a0_0).bind fun t134 => (if t134.size + 1 ≤ 9223372036854775807 then ((impl_FormatMeasure.f k a0_1).bind fun t135 => (if (t134 ++ (⟨#[43]⟩ : ByteArray)).size + t135.size ≤ 9223372036854775807 then (if ((t134 ++ (⟨#[43]⟩ : ByteArray)) ++ t135).size + 1 ≤ 9223372036854775807 then (some (((t134 ++ (⟨#[43]⟩ : ByteArray)) ++ t135) ++ (⟨#[105]⟩ : ByteArray))) else (none)) else (none))) else (none)))) else (some (⟨#[]⟩ : ByteArray)))
theorem impl_FormatPlace.mono : ∀ a0 a1 k, LeO (impl_FormatPlace.f k a0 a1) (impl_FormatPlace.f (k + 1) a0 a1) := by
 intro a0 a1 k
 unfold impl_FormatPlace.f
 repeat' first
   | (with_reducible exact impl_FormatMeasure.mono _ _)
   | (with_reducible exact LeO.refl _)
   | (with_reducible exact LeO.none _)
   | (with_reducible refine LeO.ite ?_ ?_)
   | (with_reducible refine LeO.bind ?_ (fun _ => ?_))
def impl_FormatPlace.T6 : Bool × List (List Nat × List Nat) := (true, [([], []), ([0], [0]), ([1], [1]), ([], []), ([2, 3], [2, 3]), ([], []), ([5], [5]), ([6, 2], [6]), ([4, 7], [4, 7]), ([8], [8]), ([9, 7, 0, 1, 2, 3, 4, 5, 6, 7, 8, 9], [9])])
def impl_FormatPlace.B6 : List Nat := [0, 1, 3, 0, 15, 0, 32, 103, 255, 511, 1023]
theorem impl_FormatPlace.tab6 : rtab .any (opsOf Tryd.f54 6) = impl_FormatPlace.T6 := by kernel_rfl
theorem impl_FormatPlace.bits6 : waitsOk impl_FormatPlace.T6.2 impl_FormatPlace.B6 = true := by kernel_rfl
theorem impl_FormatPlace.calls (k : Nat) (a0_0 : Int) (a0_1 : Int) (r : ByteArray) (w : World) (h : impl_FormatPlace.f k a0_0 a0_1 = some r) (hT : Ty.TabP w := by first | exact hT | exact Ty.TabP.below hT (by repeat (first | (with_reducible first | exact HB.out | apply below_alloc | apply pw_below_drewN | apply below_drew1 | refine below_set ?_ (Aside0.out (by assumption))) | exact HB.out)) | (repeat (first | exact hT | apply Ty.TabP.drewN))) :
  Calls Tryd.prog 54 #[.agg #[.int .i64 a0_0, .int .i64 a0_1]] w fun e w' => e = .returned (.string r) ∧ Below w.heap.size w w' := by
 have hu36 := Tryd.underlying36
 have HB := am (Below.refl w.heap.size w)
 have H : ((impl_IsPlace.f a0_0 a0_1).bind fun t131 => (if t131 = true then (if a0_1 < 0 then ((impl_FormatMeasure.f k a0_0).bind fun t132 => (if t132.size + 0 ≤ 9223372036854775807 then ((impl_FormatMeasure.f k a0_1).bind fun t133 => (if (t132 ++ (⟨#[]⟩ : ByteArray)).size + t133.size ≤ 9223372036854775807 then (if ((t132 ++ (⟨#[]⟩ : ByteArray)) ++ t133).size + 1 ≤ 9223372036854775807 then (some (((t132 ++ (⟨#[]⟩ : ByteArray)) ++ t133) ++ (⟨#[105]⟩ : ByteArray))) else (none)) else (none))) else (none))) else ((impl_FormatMeasure.f k a0_0).bind fun t134 => (if t134.size + 1 ≤ 9223372036854775807 then ((impl_FormatMeasure.f k a0_1).bind fun t135 => (if (t134 ++ (⟨#[43]⟩ : ByteArray)).size + t135.size ≤ 9223372036854775807 then (if ((t134 ++ (⟨#[43]⟩ : ByteArray)) ++ t135).size + 1 ≤ 9223372036854775807 then (some (((t134 ++ (⟨#[43]⟩ : ByteArray)) ++ t135) ++ (⟨#[105]⟩ : ByteArray))) else (none)) else (none))) else (none)))) else (some (⟨#[]⟩ : ByteArray)))) = some r := h
 clear h
 replace H := ob H
 obtain ⟨t131, A20, H⟩ := H
 replace H : (if t131 = true then (if a0_1 < 0 then ((impl_FormatMeasure.f k a0_0).bind fun t132 => (if t132.size + 0 ≤ 9223372036854775807 then ((impl_FormatMeasure.f k a0_1).bind fun t133 => (if (t132 ++ (⟨#[]⟩ : ByteArray)).size + t133.size ≤ 9223372036854775807 then (if ((t132 ++ (⟨#[]⟩ : ByteArray)) ++ t133).size + 1 ≤ 9223372036854775807 then (some (((t132 ++ (⟨#[]⟩ : ByteArray)) ++ t133) ++ (⟨#[105]⟩ : ByteArray))) else (none)) else (none))) else (none))) else ((impl_FormatMeasure.f k a0_0).bind fun t134 => (if t134.size + 1 ≤ 9223372036854775807 then ((impl_FormatMeasure.f k a0_1).bind fun t135 => (if (t134 ++ (⟨#[43]⟩ : ByteArray)).size + t135.size ≤ 9223372036854775807 then (if ((t134 ++ (⟨#[43]⟩ : ByteArray)) ++ t135).size + 1 ≤ 9223372036854775807 then (some (((t134 ++ (⟨#[43]⟩ : ByteArray)) ++ t135) ++ (⟨#[105]⟩ : ByteArray))) else (none)) else (none))) else (none)))) else (some (⟨#[]⟩ : ByteArray))) = some r := H
 have A2 := am A20
 clear A20
 by_cases c3 : t131 = true
 ·subst c3
  have H1 : (if a0_1 < 0 then ((impl_FormatMeasure.f k a0_0).bind fun t132 => (if t132.size + 0 ≤ 9223372036854775807 then ((impl_FormatMeasure.f k a0_1).bind fun t133 => (if (t132 ++ (⟨#[]⟩ : ByteArray)).size + t133.size ≤ 9223372036854775807 then (if ((t132 ++ (⟨#[]⟩ : ByteArray)) ++ t133).size + 1 ≤ 9223372036854775807 then (some (((t132 ++ (⟨#[]⟩ : ByteArray)) ++ t133) ++ (⟨#[105]⟩ : ByteArray))) else (none)) else (none))) else (none))) else ((impl_FormatMeasure.f k a0_0).bind fun t134 => (if t134.size + 1 ≤ 9223372036854775807 then ((impl_FormatMeasure.f k a0_1).bind fun t135 => (if (t134 ++ (⟨#[43]⟩ : ByteArray)).size + t135.size ≤ 9223372036854775807 then (if ((t134 ++ (⟨#[43]⟩ : ByteArray)) ++ t135).size + 1 ≤ 9223372036854775807 then (some (((t134 ++ (⟨#[43]⟩ : ByteArray)) ++ t135) ++ (⟨#[105]⟩ : ByteArray))) else (none)) else (none))) else (none)))) = some r := by rw [if_pos rfl] at H; exact H
  clear H
  have H := H1
  clear H1
  by_cases c4 : a0_1 < 0
  ·rw [if_pos c4] at H
   have c4b0 : decide (a0_1 < 0) = true := decide_eq_true c4
   clear c4
   replace H := ob H
   obtain ⟨t132, A50, H⟩ := H
   replace H : (if t132.size + 0 ≤ 9223372036854775807 then ((impl_FormatMeasure.f k a0_1).bind fun t133 => (if (t132 ++ (⟨#[]⟩ : ByteArray)).size + t133.size ≤ 9223372036854775807 then (if ((t132 ++ (⟨#[]⟩ : ByteArray)) ++ t133).size + 1 ≤ 9223372036854775807 then (some (((t132 ++ (⟨#[]⟩ : ByteArray)) ++ t133) ++ (⟨#[105]⟩ : ByteArray))) else (none)) else (none))) else (none)) = some r := H
   have A5 := am A50
   clear A50
   by_cases c6 : t132.size + 0 ≤ 9223372036854775807
   ·rw [if_pos c6] at H
    have c6b0 := eq_true c6
    have c6b1 : decide (t132.size + 0 ≤ 9223372036854775807) = true := decide_eq_true c6
    try have c6b2 : (9223372036854775807 < t132.size + 0) = False := eq_false (Nat.not_lt.2 c6)
    try have c6b8 : (t132.size ≤ 9223372036854775807) = True := by have t_ := c6b0; first | (simp only [ByteArray.size_append, Nat.zero_add, Nat.add_zero] at t_; exact t_) | (have t2_ := of_eq_true t_; simp only [ByteArray.size_append] at t2_; exact eq_true u3_3)
    try have c6b9 : (9223372036854775807 < t132.size) = False := by have t_ := c6b2; first | (simp only [ByteArray.size_append] at t_; exact t_) | (have t2_ := c6b8; exact eq_false (Nat.not_lt.2 (of_eq_true t2_)))
    replace H := ob H
    obtain ⟨t133, A70, H⟩ := H
    replace H : (if (t132 ++ (⟨#[]⟩ : ByteArray)).size + t133.size ≤ 9223372036854775807 then (if ((t132 ++ (⟨#[]⟩ : ByteArray)) ++ t133).size + 1 ≤ 9223372036854775807 then (some (((t132 ++ (⟨#[]⟩ : ByteArray)) ++ t133) ++ (⟨#[105]⟩ : ByteArray))) else (none)) else (none)) = some r := H
    have A7 := am A70
    clear A70
    by_cases c8 : (t132 ++ (⟨#[]⟩ : ByteArray)).size + t133.size ≤ 9223372036854775807
    ·rw [if_pos c8] at H
     have c8b0 := eq_true c8
     have c8b1 : decide ((t132 ++ (⟨#[]⟩ : ByteArray)).size + t133.size ≤ 9223372036854775807) = true := decide_eq_true c8
     try have c8b2 : (9223372036854775807 < (t132 ++ (⟨#[]⟩ : ByteArray)).size + t133.size) = False := eq_false (Nat.not_lt.2 c8)
     try have c8b8 : (t132.size + t133.size ≤ 9223372036854775807) = True := by have t_ := c8b0; first | (simp only [ByteArray.size_append, Nat.zero_add, Nat.add_zero] at t_; exact t_) | (have t2_ := of_eq_true t_; simp only [ByteArray.size_append] at t2_; exact eq_true u3_3)
     try have c8b9 : (9223372036854775807 < t132.size + t133.size) = False := by have t_ := c8b2; first | (simp only [ByteArray.size_append] at t_; exact t_) | (have t2_ := c8b8; exact eq_false (Nat.not_lt.2 (of_eq_true t2_)))
     by_cases c9 : ((t132 ++ (⟨#[]⟩ : ByteArray)) ++ t133).size + 1 ≤ 9223372036854775807
     ·rw [if_pos c9] at H
      have c9b0 := eq_true c9
      have c9b1 : decide (((t132 ++ (⟨#[]⟩ : ByteArray)) ++ t133).size + 1 ≤ 9223372036854775807) = true := decide_eq_true c9
      try have c9b2 : (9223372036854775807 < ((t132 ++ (⟨#[]⟩ : ByteArray)) ++ t133).size + 1) = False := eq_false (Nat.not_lt.2 c9)
      try have c9b8 : (t132.size + t133.size + 1 ≤ 9223372036854775807) = True := by have t_ := c9b0; first | (simp only [ByteArray.size_append, Nat.zero_add, Nat.add_zero] at t_; exact t_) | (have t2_ := of_eq_true t_; simp only [ByteArray.size_append] at t2_; exact eq_true u3_3)
      try have c9b9 : (9223372036854775807 < t132.size + t133.size + 1) = False := by have t_ := c9b2; first | (simp only [ByteArray.size_append] at t_; exact t_) | (have t2_ := c9b8; exact eq_false (Nat.not_lt.2 (of_eq_true t2_)))
      obtain rfl := oi H
      go_enter Tryd.func54, Tryd.ntmps54
      try go_wp2_with (first | ((with_reducible refine gate_dst (N := 1) rfl ?_); refine box_event ?hg (N := 1) ?hd (cs := #[.int .i64 a0_0, .int .i64 a0_1]) (t := 36) ?hr ?_; (case hd => rfl); (case hg => rfl); (case hr => exact gq); intro gb130 hg w10 hbox hb; have n0_ := am (below_step u3_0 hb); have n1_ := am (hbox); have n2_ := bsw w hg (below_size u3_0); have n3_ := bsw w hg (below_size u3_0); clear HB; have HB := n0_; have BK130 := n1_; have GW130 := n2_; have GE130 := n3_; clear n0_ n1_ n2_ n3_ hb hbox hg; obtain ⟨hcz11_0, hcz11_1, hfz11_0, hfz11_1⟩ := cf2 BK130.out) | ((with_reducible refine gate_callee (f := 57) rfl ?_); refine goesL_ (some 5) rfl rfl Tryd.func57 (by kernel_rfl) rfl #[.agg #[.int .i64 a0_0, .int .i64 a0_1]] rfl u3_1 ?_; (with_reducible refine (impl_IsPlace.calls a0_0 a0_1 true _ A2.out).mono ?_); rintro e w12 ⟨rfl, hb⟩; refine ⟨_, rfl, ?_⟩; have n0_ := am (blk_below (g := gb130) (o := zo2 a0_0 a0_1) u3_4 hb); have n1_ := am (below_step u3_2 hb); clear BK130 HB; have BK130 := n0_; have HB := n1_; clear n0_ n1_; (try clear hb); (try clear hb2); (try clear hk); (try clear hi); obtain ⟨hcz13_0, hcz13_1, hfz13_0, hfz13_1⟩ := cf2 BK130.out))
      have n0_ := am (blk_drew BK130.out)
      have n1_ := am (below_drew1 HB.out)
      clear BK130 HB
      have BK130 := n0_
      have HB := n1_
      clear n0_ n1_
      refine start_ (n := 11) (S := fun w' => zc1 w' gb130 a0_0 a0_1) (ds := []) mk3_0 (by kernel_rfl) rfl rfl ⟨(blk_cell BK130.out 0).trans rfl, (blk_cell BK130.out 1).trans rfl⟩ (fun hHeld => ?_); refine with_tabW impl_FormatPlace.tab6 impl_FormatPlace.bits6 (fun HT_ HW_ => ?_)
      generalize w12.drew = w14 at BK130 HB hHeld ⊢
      refine pz 0 10 mk3_1 (any_of HT_.out (by kernel_rfl)) ?_
      refine pz 3 13 mk3_2 (any_of HT_.out (by kernel_rfl)) ?_
      refine pz 5 15 mk3_3 (any_of HT_.out (by kernel_rfl)) ?_
      refine take_ (i := 1) (N := some 11) (v := ?_) (a' := ?_) mk3_4 rfl rfl (take_ofW HT_.out HW_.out (by kernel_rfl)) (fun _ _ _ h => h) (Or.inl ⟨by rfl, ?_⟩) hHeld ?_ ?_
      rotate_left
      ·rintro w' ⟨s0, s1⟩
       exact gs
      rotate_left
      ·exact ap
      refine take_ (i := 6) (N := some 16) (v := ?_) (a' := ?_) mk3_5 rfl rfl (take_ofW HT_.out HW_.out (by kernel_rfl)) (fun _ _ _ h => h) (Or.inl ⟨by rfl, ?_⟩) hHeld ?_ ?_
      rotate_left
      ·rintro w' ⟨s0, s1⟩
       exact gs
      rotate_left
      ·exact ap
      refine one_ (i := 2) (N := some 12) mk3_6 rfl rfl (one_of HT_.out (by kernel_rfl)) (by decide) (fun K hK => ?_)
      refine goes_ Tryd.func40 (by kernel_rfl) rfl #[.int .i64 a0_0] (by rfl) rfl rfl u3_1 ?_
      with_reducible refine (impl_FormatMeasure.calls k a0_0 t132 _ A5.out).mono ?_
      rintro e w15 ⟨rfl, hb⟩
      refine ⟨_, rfl, ?_⟩
      have n0_ := am (blk_below (g := gb130) (o := zo2 a0_0 a0_1) u3_4 hb)
      have n1_ := am (below_step u3_2 hb)
      clear BK130 HB
      have BK130 := n0_
      have HB := n1_
      clear n0_ n1_
      (try clear hb)
      (try clear hb2)
      (try clear hk)
      (try clear hi)
      refine hK.out _ _ ⟨(blk_cell BK130.out 0).trans rfl, (blk_cell BK130.out 1).trans rfl⟩ (fun hHeld => ?_)
      clear hK K
      refine norm_ (a' := ?_) ?_ ?_
      rotate_left
      ·show Act.put _ (some 12) _ = _
       simp only [Act.put, List.setIfInBounds_toArray, List.set_cons_zero, List.set_cons_succ, i64_w, i32_w]
       rfl
      refine pz 4 14 mk3_7 (any_of HT_.out (by kernel_rfl)) ?_
      refine one_ (i := 7) (N := some 17) mk3_8 rfl rfl (one_of HT_.out (by kernel_rfl)) (by decide) (fun K hK => ?_)
      refine goes_ Tryd.func40 (by kernel_rfl) rfl #[.int .i64 a0_1] (by rfl) rfl rfl u3_1 ?_
      with_reducible refine (impl_FormatMeasure.calls k a0_1 t133 _ A7.out).mono ?_
      rintro e w16 ⟨rfl, hb⟩
      refine ⟨_, rfl, ?_⟩
      have n0_ := am (blk_below (g := gb130) (o := zo2 a0_0 a0_1) u3_4 hb)
      have n1_ := am (below_step u3_2 hb)
      clear BK130 HB
      have BK130 := n0_
      have HB := n1_
      clear n0_ n1_
      (try clear hb)
      (try clear hb2)
      (try clear hk)
      (try clear hi)
      refine hK.out _ _ ⟨(blk_cell BK130.out 0).trans rfl, (blk_cell BK130.out 1).trans rfl⟩ (fun hHeld => ?_)
      clear hK K
      refine norm_ (a' := ?_) ?_ ?_
      rotate_left
      ·show Act.put _ (some 17) _ = _
       simp only [Act.put, List.setIfInBounds_toArray, List.set_cons_zero, List.set_cons_succ, i64_w, i32_w]
       rfl
      refine pz 8 18 mk3_9 (any_of HT_.out (by kernel_rfl)) ?_
      refine pz 9 19 mk3_10 (any_of HT_.out (by kernel_rfl)) ?_
      refine pz 10 2 mk3_11 (any_of HT_.out (by kernel_rfl)) ?_
      refine done_ (done_of HT_.out (by kernel_rfl)) ?_
      try go_wp2
      go_ret
      exact ⟨by first | rfl | (simp [*] <;> rfl), s3_0⟩
     ·rw [if_neg c9] at H
      exact absurd H (by simp)
    ·rw [if_neg c8] at H
     exact absurd H (by simp)
   ·rw [if_neg c6] at H
    exact absurd H (by simp)
  ·rw [if_neg c4] at H
   have c4b0 : decide (a0_1 < 0) = false := decide_eq_false c4
   clear c4
   replace H := ob H
   obtain ⟨t134, A170, H⟩ := H
   replace H : (if t134.size + 1 ≤ 9223372036854775807 then ((impl_FormatMeasure.f k a0_1).bind fun t135 => (if (t134 ++ (⟨#[43]⟩ : ByteArray)).size + t135.size ≤ 9223372036854775807 then (if ((t134 ++ (⟨#[43]⟩ : ByteArray)) ++ t135).size + 1 ≤ 9223372036854775807 then (some (((t134 ++ (⟨#[43]⟩ : ByteArray)) ++ t135) ++ (⟨#[105]⟩ : ByteArray))) else (none)) else (none))) else (none)) = some r := H
   have A17 := am A170
   clear A170
   by_cases c18 : t134.size + 1 ≤ 9223372036854775807
   ·rw [if_pos c18] at H
    have c18b0 := eq_true c18
    have c18b1 : decide (t134.size + 1 ≤ 9223372036854775807) = true := decide_eq_true c18
    try have c18b2 : (9223372036854775807 < t134.size + 1) = False := eq_false (Nat.not_lt.2 c18)
    replace H := ob H
    obtain ⟨t135, A190, H⟩ := H
    replace H : (if (t134 ++ (⟨#[43]⟩ : ByteArray)).size + t135.size ≤ 9223372036854775807 then (if ((t134 ++ (⟨#[43]⟩ : ByteArray)) ++ t135).size + 1 ≤ 9223372036854775807 then (some (((t134 ++ (⟨#[43]⟩ : ByteArray)) ++ t135) ++ (⟨#[105]⟩ : ByteArray))) else (none)) else (none)) = some r := H
    have A19 := am A190
    clear A190
    by_cases c20 : (t134 ++ (⟨#[43]⟩ : ByteArray)).size + t135.size ≤ 9223372036854775807
    ·rw [if_pos c20] at H
     have c20b0 := eq_true c20
     have c20b1 : decide ((t134 ++ (⟨#[43]⟩ : ByteArray)).size + t135.size ≤ 9223372036854775807) = true := decide_eq_true c20
     try have c20b2 : (9223372036854775807 < (t134 ++ (⟨#[43]⟩ : ByteArray)).size + t135.size) = False := eq_false (Nat.not_lt.2 c20)
     try have c20b8 : (t134.size + 1 + t135.size ≤ 9223372036854775807) = True := by have t_ := c20b0; first | (simp only [ByteArray.size_append, Nat.zero_add, Nat.add_zero] at t_; exact t_) | (have t2_ := of_eq_true t_; simp only [ByteArray.size_append] at t2_; exact eq_true u3_3)
     try have c20b9 : (9223372036854775807 < t134.size + 1 + t135.size) = False := by have t_ := c20b2; first | (simp only [ByteArray.size_append] at t_; exact t_) | (have t2_ := c20b8; exact eq_false (Nat.not_lt.2 (of_eq_true t2_)))
     by_cases c21 : ((t134 ++ (⟨#[43]⟩ : ByteArray)) ++ t135).size + 1 ≤ 9223372036854775807
     ·rw [if_pos c21] at H
      have c21b0 := eq_true c21
      have c21b1 : decide (((t134 ++ (⟨#[43]⟩ : ByteArray)) ++ t135).size + 1 ≤ 9223372036854775807) = true := decide_eq_true c21
      try have c21b2 : (9223372036854775807 < ((t134 ++ (⟨#[43]⟩ : ByteArray)) ++ t135).size + 1) = False := eq_false (Nat.not_lt.2 c21)
      try have c21b8 : (t134.size + 1 + t135.size + 1 ≤ 9223372036854775807) = True := by have t_ := c21b0; first | (simp only [ByteArray.size_append, Nat.zero_add, Nat.add_zero] at t_; exact t_) | (have t2_ := of_eq_true t_; simp only [ByteArray.size_append] at t2_; exact eq_true u3_3)
      try have c21b9 : (9223372036854775807 < t134.size + 1 + t135.size + 1) = False := by have t_ := c21b2; first | (simp only [ByteArray.size_append] at t_; exact t_) | (have t2_ := c21b8; exact eq_false (Nat.not_lt.2 (of_eq_true t2_)))
      obtain rfl := oi H
      go_enter Tryd.func54, Tryd.ntmps54
      try go_wp2_with (first | ((with_reducible refine gate_dst (N := 1) rfl ?_); refine box_event ?hg (N := 1) ?hd (cs := #[.int .i64 a0_0, .int .i64 a0_1]) (t := 36) ?hr ?_; (case hd => rfl); (case hg => rfl); (case hr => exact gq); intro gb130 hg w22 hbox hb; have n0_ := am (below_step u3_0 hb); have n1_ := am (hbox); have n2_ := bsw w hg (below_size u3_0); have n3_ := bsw w hg (below_size u3_0); clear HB; have HB := n0_; have BK130 := n1_; have GW130 := n2_; have GE130 := n3_; clear n0_ n1_ n2_ n3_ hb hbox hg; obtain ⟨hcz23_0, hcz23_1, hfz23_0, hfz23_1⟩ := cf2 BK130.out) | ((with_reducible refine gate_callee (f := 57) rfl ?_); refine goesL_ (some 5) rfl rfl Tryd.func57 (by kernel_rfl) rfl #[.agg #[.int .i64 a0_0, .int .i64 a0_1]] rfl u3_1 ?_; (with_reducible refine (impl_IsPlace.calls a0_0 a0_1 true _ A2.out).mono ?_); rintro e w24 ⟨rfl, hb⟩; refine ⟨_, rfl, ?_⟩; have n0_ := am (blk_below (g := gb130) (o := zo2 a0_0 a0_1) u3_4 hb); have n1_ := am (below_step u3_2 hb); clear BK130 HB; have BK130 := n0_; have HB := n1_; clear n0_ n1_; (try clear hb); (try clear hb2); (try clear hk); (try clear hi); obtain ⟨hcz25_0, hcz25_1, hfz25_0, hfz25_1⟩ := cf2 BK130.out))
      have n0_ := am (blk_drew BK130.out)
      have n1_ := am (below_drew1 HB.out)
      clear BK130 HB
      have BK130 := n0_
      have HB := n1_
      clear n0_ n1_
      refine start_ (n := 11) (S := fun w' => zc1 w' gb130 a0_0 a0_1) (ds := []) mk3_0 (by kernel_rfl) rfl rfl ⟨(blk_cell BK130.out 0).trans rfl, (blk_cell BK130.out 1).trans rfl⟩ (fun hHeld => ?_); refine with_tabW impl_FormatPlace.tab6 impl_FormatPlace.bits6 (fun HT_ HW_ => ?_)
      generalize w24.drew = w26 at BK130 HB hHeld ⊢
      refine pz 0 10 mk3_1 (any_of HT_.out (by kernel_rfl)) ?_
      refine pz 3 13 mk3_2 (any_of HT_.out (by kernel_rfl)) ?_
      refine pz 5 15 mk3_3 (any_of HT_.out (by kernel_rfl)) ?_
      refine take_ (i := 1) (N := some 11) (v := ?_) (a' := ?_) mk3_4 rfl rfl (take_ofW HT_.out HW_.out (by kernel_rfl)) (fun _ _ _ h => h) (Or.inl ⟨by rfl, ?_⟩) hHeld ?_ ?_
      rotate_left
      ·rintro w' ⟨s0, s1⟩
       exact gs
      rotate_left
      ·exact ap
      refine take_ (i := 6) (N := some 16) (v := ?_) (a' := ?_) mk3_5 rfl rfl (take_ofW HT_.out HW_.out (by kernel_rfl)) (fun _ _ _ h => h) (Or.inl ⟨by rfl, ?_⟩) hHeld ?_ ?_
      rotate_left
      ·rintro w' ⟨s0, s1⟩
       exact gs
      rotate_left
      ·exact ap
      refine one_ (i := 2) (N := some 12) mk3_6 rfl rfl (one_of HT_.out (by kernel_rfl)) (by decide) (fun K hK => ?_)
      refine goes_ Tryd.func40 (by kernel_rfl) rfl #[.int .i64 a0_0] (by rfl) rfl rfl u3_1 ?_
      with_reducible refine (impl_FormatMeasure.calls k a0_0 t134 _ A17.out).mono ?_
      rintro e w27 ⟨rfl, hb⟩
      refine ⟨_, rfl, ?_⟩
      have n0_ := am (blk_below (g := gb130) (o := zo2 a0_0 a0_1) u3_4 hb)
      have n1_ := am (below_step u3_2 hb)
      clear BK130 HB
      have BK130 := n0_
      have HB := n1_
      clear n0_ n1_
      (try clear hb)
      (try clear hb2)
      (try clear hk)
      (try clear hi)
      refine hK.out _ _ ⟨(blk_cell BK130.out 0).trans rfl, (blk_cell BK130.out 1).trans rfl⟩ (fun hHeld => ?_)
      clear hK K
      refine norm_ (a' := ?_) ?_ ?_
      rotate_left
      ·show Act.put _ (some 12) _ = _
       simp only [Act.put, List.setIfInBounds_toArray, List.set_cons_zero, List.set_cons_succ, i64_w, i32_w]
       rfl
      refine pz 4 14 mk3_7 (any_of HT_.out (by kernel_rfl)) ?_
      refine one_ (i := 7) (N := some 17) mk3_8 rfl rfl (one_of HT_.out (by kernel_rfl)) (by decide) (fun K hK => ?_)
      refine goes_ Tryd.func40 (by kernel_rfl) rfl #[.int .i64 a0_1] (by rfl) rfl rfl u3_1 ?_
      with_reducible refine (impl_FormatMeasure.calls k a0_1 t135 _ A19.out).mono ?_
      rintro e w28 ⟨rfl, hb⟩
      refine ⟨_, rfl, ?_⟩
      have n0_ := am (blk_below (g := gb130) (o := zo2 a0_0 a0_1) u3_4 hb)
      have n1_ := am (below_step u3_2 hb)
      clear BK130 HB
      have BK130 := n0_
      have HB := n1_
      clear n0_ n1_
      (try clear hb)
      (try clear hb2)
      (try clear hk)
      (try clear hi)
      refine hK.out _ _ ⟨(blk_cell BK130.out 0).trans rfl, (blk_cell BK130.out 1).trans rfl⟩ (fun hHeld => ?_)
      clear hK K
      refine norm_ (a' := ?_) ?_ ?_
      rotate_left
      ·show Act.put _ (some 17) _ = _
       simp only [Act.put, List.setIfInBounds_toArray, List.set_cons_zero, List.set_cons_succ, i64_w, i32_w]
       rfl
      refine pz 8 18 mk3_9 (any_of HT_.out (by kernel_rfl)) ?_
      refine pz 9 19 mk3_10 (any_of HT_.out (by kernel_rfl)) ?_
      refine pz 10 2 mk3_11 (any_of HT_.out (by kernel_rfl)) ?_
      refine done_ (done_of HT_.out (by kernel_rfl)) ?_
      try go_wp2
      go_ret
      exact ⟨by first | rfl | (simp [*] <;> rfl), s3_0⟩
     ·rw [if_neg c21] at H
      exact absurd H (by simp)
    ·rw [if_neg c20] at H
     exact absurd H (by simp)
   ·rw [if_neg c18] at H
    exact absurd H (by simp)
 ·replace c3 := Bool.eq_false_iff.mpr c3
  subst c3
  have H1 : (some (⟨#[]⟩ : ByteArray)) = some r := by rw [if_neg (show ¬ (false = true) by decide)] at H; exact H
  clear H
  have H := H1
  clear H1
  obtain rfl := oi H
  go_enter Tryd.func54, Tryd.ntmps54
  go_wp2_with (first | ((with_reducible refine gate_dst (N := 1) rfl ?_); refine box_event ?hg (N := 1) ?hd (cs := #[.int .i64 a0_0, .int .i64 a0_1]) (t := 36) ?hr ?_; (case hd => rfl); (case hg => rfl); (case hr => exact gq); intro gb130 hg w29 hbox hb; have n0_ := am (below_step u3_0 hb); have n1_ := am (hbox); have n2_ := bsw w hg (below_size u3_0); have n3_ := bsw w hg (below_size u3_0); clear HB; have HB := n0_; have BK130 := n1_; have GW130 := n2_; have GE130 := n3_; clear n0_ n1_ n2_ n3_ hb hbox hg; obtain ⟨hcz30_0, hcz30_1, hfz30_0, hfz30_1⟩ := cf2 BK130.out) | ((with_reducible refine gate_callee (f := 57) rfl ?_); refine goesL_ (some 5) rfl rfl Tryd.func57 (by kernel_rfl) rfl #[.agg #[.int .i64 a0_0, .int .i64 a0_1]] rfl u3_1 ?_; (with_reducible refine (impl_IsPlace.calls a0_0 a0_1 false _ A2.out).mono ?_); rintro e w31 ⟨rfl, hb⟩; refine ⟨_, rfl, ?_⟩; have n0_ := am (blk_below (g := gb130) (o := zo2 a0_0 a0_1) u3_4 hb); have n1_ := am (below_step u3_2 hb); clear BK130 HB; have BK130 := n0_; have HB := n1_; clear n0_ n1_; (try clear hb); (try clear hb2); (try clear hk); (try clear hi)))
  go_ret
  exact ⟨by first | rfl | (simp [*] <;> rfl), s3_0⟩

end Go.Proofs.YthofcclbkihemaaDoor.MFnExactParseDevice
