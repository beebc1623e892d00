-- Written by a program for this claim.
import Derived.Laws.Cover1
import Derived.Test.YtkedcokhcgklpaaMFnLinesx0
import Derived.Test.YtkedcokhcgklpaaMFnLinesx2
import Derived.Test.YtkedcokhcgklpaaMFnLinesx3
namespace Go.Proofs.Ytkedcokhcgklpaa.MFnLines
open Go.RowKit Go.Proofs.YtkedcokhcgklpaaW.PrintWords Go.Proofs.YtkedcokhcgklpaaW.PrintLast Go.Proofs.YtkedcokhcgklpaaW.PrintMore
attribute [local go_sem] max2_int min2_int max_two min_two max_three min_three max_four min_four   -- for this text's walks alone
set_option linter.unusedVariables false
set_option linter.unusedSimpArgs false

theorem s4_0 {p : Prop} (h : p := by repeat (first | exact (Kd.C_below HR0.out HB.out) | (with_reducible refine Kd.C_alloc ?_ _) | (with_reducible refine Kd.C_drewN ?_ _) | (with_reducible refine Kd.C_drew ?_))) : p := h
theorem s4_1 {p : Prop} (h : p := by repeat (first | (with_reducible first | exact HB.out | apply below_alloc | apply pw_below_drewN | apply below_drew1 | refine below_set ?_ GE128.out) | exact HB.out)) : p := h
theorem s4_2 {p : Prop} (h : p := by repeat (first | (with_reducible first | exact HB.out | apply below_alloc | apply pw_below_drewN | apply below_drew1) | exact HB.out)) : p := h
abbrev mk4_0 : Array Bool := #[false, false, false, false, false, false, false, false, false, false, false, false, false, false, false, false, false, false, false, false, false, false, false, false]
abbrev mk4_1 : Array Bool := #[true, false, false, false, false, false, false, false, false, false, false, false, false, false, false, false, false, false, false, false, false, false, false, false]
abbrev mk4_2 : Array Bool := #[true, true, false, false, false, false, false, false, false, false, false, false, false, false, false, false, false, false, false, false, false, false, false, false]
abbrev mk4_3 : Array Bool := #[true, true, true, false, false, false, false, false, false, false, false, false, false, false, false, false, false, false, false, false, false, false, false, false]
abbrev mk4_4 : Array Bool := #[true, true, true, true, false, false, false, false, false, false, false, false, false, false, false, false, false, false, false, false, false, false, false, false]
abbrev mk4_5 : Array Bool := #[true, true, true, true, true, false, false, false, false, false, false, false, false, false, false, false, false, false, false, false, false, false, false, false]
abbrev mk4_6 : Array Bool := #[true, true, true, true, true, true, false, false, false, false, false, false, false, false, false, false, false, false, false, false, false, false, false, false]
abbrev mk4_7 : Array Bool := #[true, true, true, true, true, true, true, false, false, false, false, false, false, false, false, false, false, false, false, false, false, false, false, false]
abbrev mk4_8 : Array Bool := #[true, true, true, true, true, true, true, true, false, false, false, false, false, false, false, false, false, false, false, false, false, false, false, false]
abbrev mk4_9 : Array Bool := #[true, true, true, true, true, true, true, true, false, true, false, false, false, false, false, false, false, false, false, false, false, false, false, false]
abbrev mk4_10 : Array Bool := #[true, true, true, true, true, true, true, true, false, true, true, false, false, false, false, false, false, false, false, false, false, false, false, false]
abbrev mk4_11 : Array Bool := #[true, true, true, true, true, true, true, true, false, true, true, true, false, false, false, false, false, false, false, false, false, false, false, false]
abbrev mk4_12 : Array Bool := #[true, true, true, true, true, true, true, true, false, true, true, true, true, false, false, false, false, false, false, false, false, false, false, false]
abbrev mk4_13 : Array Bool := #[true, true, true, true, true, true, true, true, false, true, true, true, true, true, false, false, false, false, false, false, false, false, false, false]
abbrev mk4_14 : Array Bool := #[true, true, true, true, true, true, true, true, true, false, false, false, false, false, false, false, false, false, false, false, false, false, false, false]
abbrev mk4_15 : Array Bool := #[true, true, true, true, true, true, true, true, true, true, false, false, false, false, false, false, false, false, false, false, false, false, false, false]
abbrev mk4_16 : Array Bool := #[true, true, true, true, true, true, true, true, true, true, true, false, false, false, false, false, false, false, false, false, false, false, false, false]
abbrev mk4_17 : Array Bool := #[true, true, true, true, true, true, true, true, true, true, true, true, false, false, false, false, false, false, false, false, false, false, false, false]
abbrev mk4_18 : Array Bool := #[true, true, true, true, true, true, true, true, true, true, true, true, true, false, false, false, false, false, false, false, false, false, false, false]
abbrev mk4_19 : Array Bool := #[true, true, true, true, true, true, true, true, true, true, true, true, true, true, false, false, false, false, false, false, false, false, false, false]
abbrev mk4_20 : Array Bool := #[true, true, true, true, true, true, true, true, true, true, true, true, true, true, true, false, false, false, false, false, false, false, false, false]
abbrev mk4_21 : Array Bool := #[true, true, true, true, true, true, true, true, true, true, true, true, true, true, true, true, false, false, false, false, false, false, false, false]
abbrev mk4_22 : Array Bool := #[true, true, true, true, true, true, true, true, true, true, true, true, true, true, true, true, true, false, false, false, false, false, false, false]
abbrev mk4_23 : Array Bool := #[true, true, true, true, true, true, true, true, true, true, true, true, true, true, true, true, true, true, false, false, false, false, false, false]
abbrev mk4_24 : Array Bool := #[true, true, true, true, true, true, true, true, true, true, true, true, true, true, true, true, true, true, true, false, false, false, false, false]
abbrev mk4_25 : Array Bool := #[true, true, true, true, true, true, true, true, true, true, true, true, true, true, true, true, true, true, true, true, false, false, false, false]
abbrev mk4_26 : Array Bool := #[true, true, true, true, true, true, true, true, true, true, true, true, true, true, true, true, true, true, true, true, true, false, false, false]
abbrev mk4_27 : Array Bool := #[true, true, true, true, true, true, true, true, true, true, true, true, true, true, true, true, true, true, true, true, true, true, false, false]
abbrev mk4_28 : Array Bool := #[true, true, true, true, true, true, true, true, true, true, true, true, true, true, true, true, true, true, true, true, true, true, true, false]
abbrev mk4_29 : Array Bool := #[true, true, true, true, true, true, true, true, true, true, true, true, true, true, true, true, true, true, true, true, true, true, true, true]
theorem u4_0 {p : Prop} (h : p := by repeat (first | (with_reducible first | exact HB.out | apply below_alloc | apply pw_below_drewN | apply below_drew1) | exact HB.out)) : p := h
theorem u4_1 {p : Prop} (h : p := by repeat (first | (with_reducible first | exact HB.out | apply below_alloc | apply pw_below_drewN | apply below_drew1 | refine below_set ?_ GE128.out) | exact HB.out)) : p := h
theorem u4_2 {p : Prop} (h : p := by (with_reducible repeat (first | refine blk_drewN ?_ _ | refine blk_drew ?_ | refine blk_alloc ?_ _)); exact BK128.out) : p := h
theorem u4_3 {p : Prop} (h : p := by (try simp only [List.map_toArray, List.map_cons, List.map_nil]); first | done | rfl) : p := h
theorem blT_irr : ∀ x, Op.bytesLess x x = false
 | [] => rfl
 | a :: x => by
  simp only [Op.bytesLess, blT_irr x, Bool.and_false, Bool.or_false, decide_eq_false_iff_not]
  exact UInt8.lt_irrefl a
theorem blT_tri : ∀ x y, Op.bytesLess x y = false → Op.bytesLess y x = false → x = y
 | [], [], _, _ => rfl
 | [], _ :: _, h, _ => by simp [Op.bytesLess] at h
 | _ :: _, [], _, h => by simp [Op.bytesLess] at h
 | a :: x, b :: y, h, h' => by
  simp only [Op.bytesLess, Bool.or_eq_false_iff, decide_eq_false_iff_not] at h h'
  have hab : a = b := by
   have h1 := h.1; have h2 := h'.1
   exact UInt8.le_antisymm (UInt8.not_lt.1 h2) (UInt8.not_lt.1 h1)
  subst hab
  simp only [beq_self_eq_true, Bool.true_and] at h h'
  rw [blT_tri x y h.2 h'.2]
theorem blT_ne {x y : List UInt8} (h : Op.bytesLess y x = true) : (x == y) = false := by
 refine beq_eq_false_iff_ne.2 (fun e => ?_)
 rw [e, blT_irr] at h; cases h
theorem blT_eq {x y : List UInt8} (h : Op.bytesLess y x = false) (h' : Op.bytesLess x y = false) : (x == y) = true := by
 rw [blT_tri x y h' h]; exact beq_self_eq_true _

theorem blT_asym : ∀ x y, Op.bytesLess x y = true → Op.bytesLess y x = false
 | [], [], _ => rfl
 | _ :: _, [], h => by simp [Op.bytesLess] at h
 | [], _ :: _, _ => rfl
 | a :: x, b :: y, h => by
  simp only [Op.bytesLess, Bool.or_eq_true, decide_eq_true_eq, Bool.and_eq_true, beq_iff_eq] at h
  simp only [Op.bytesLess, Bool.or_eq_false_iff, decide_eq_false_iff_not, Bool.and_eq_false_iff, beq_eq_false_iff_ne]
  rcases h with h | ⟨h, h2⟩
  ·exact ⟨fun c => UInt8.lt_irrefl a (UInt8.lt_trans h c), .inl (fun c => by subst c; exact UInt8.lt_irrefl _ h)⟩
  ·subst h; exact ⟨UInt8.lt_irrefl a, .inr (blT_asym x y h2)⟩
theorem blT_leF {x y : List UInt8} (h : Op.bytesLess x y = true) : (Op.bytesLess y x || y == x) = false := by
 rw [blT_asym x y h, blT_ne h, Bool.or_false]
theorem blT_leT {x y : List UInt8} (h : Op.bytesLess x y = false) : (Op.bytesLess y x || y == x) = true := by
 cases h' : Op.bytesLess y x
 ·rw [blT_tri x y h h', beq_self_eq_true, Bool.or_true]
 ·rw [Bool.true_or]

/-! ### impl_IsRig: function 25 -/
def impl_IsRig.l0 : Nat → List (S30) → List (S30) → Int → Int → Option (Bool)
 | 0, _, _, _, _ => none
 | k + 1, x0, x8, x9, x10 => if x10 < x9 then (if 0 ≤ x10 then (if x10 < (x8.length : Int) then ((impl_IsDevice.f k ((rd_T30 x8 x10).f0) ((rd_T30 x8 x10).f1) ((rd_T30 x8 x10).f2) ((rd_T30 x8 x10).f3.f0) ((rd_T30 x8 x10).f3.f1) ((rd_T30 x8 x10).f4) ((rd_T30 x8 x10).f5) ((rd_T30 x8 x10).f6)).bind fun t129 => (if t129 = true then (if x10 > 0 then (if 0 ≤ (wrap64 (x10 - 1)) then (if (wrap64 (x10 - 1)) < (x0.length : Int) then (if ((Op.bytesLess (((rd_T30 x0 (wrap64 (x10 - 1))).f0).toList) (((rd_T30 x8 x10).f0).toList)) = true) then ((impl_isHung.f k x0 ((rd_T30 x8 x10).f0) ((rd_T30 x8 x10).f1) ((rd_T30 x8 x10).f2) ((rd_T30 x8 x10).f3.f0) ((rd_T30 x8 x10).f3.f1) ((rd_T30 x8 x10).f4) ((rd_T30 x8 x10).f5) ((rd_T30 x8 x10).f6)).bind fun t131 => (if t131 = true then (impl_IsRig.l0 k x0 x8 x9 (wrap64 (x10 + 1))) else (some false))) else (some false)) else (none)) else (none)) else ((impl_isHung.f k x0 ((rd_T30 x8 x10).f0) ((rd_T30 x8 x10).f1) ((rd_T30 x8 x10).f2) ((rd_T30 x8 x10).f3.f0) ((rd_T30 x8 x10).f3.f1) ((rd_T30 x8 x10).f4) ((rd_T30 x8 x10).f5) ((rd_T30 x8 x10).f6)).bind fun t132 => (if t132 = true then (impl_IsRig.l0 k x0 x8 x9 (wrap64 (x10 + 1))) else (some false)))) else (some false))) else (none)) else (none)) else (some true)
def impl_IsRig.f (k : Nat) (l0 : List (S30)) : Option (Bool) := if (l0.length : Int) > 8 then (some false) else (impl_IsRig.l0 k l0 l0 (l0.length : Int) 0)
theorem impl_IsRig.mono_l : ∀ k, (∀ y0 y1 y2 y3, LeO (impl_IsRig.l0 k y0 y1 y2 y3) (impl_IsRig.l0 (k + 1) y0 y1 y2 y3))
 | 0 => fun _ _ _ _ r h => by simp [impl_IsRig.l0] at h
 | k + 1 => by
  have ih0 := impl_IsRig.mono_l k
  ·intro y0 y1 y2 y3
   unfold impl_IsRig.l0
   repeat' first
   | (with_reducible exact ih0 _ _ _ _)
   | (with_reducible exact impl_IsDevice.mono _ _ _ _ _ _ _ _ _)
   | (with_reducible exact impl_isHung.mono _ _ _ _ _ _ _ _ _ _)
   | (with_reducible exact LeO.refl _)
   | (with_reducible exact LeO.none _)
   | (with_reducible refine LeO.ite ?_ ?_)
   | (with_reducible refine LeO.bind ?_ (fun _ => ?_))
theorem impl_IsRig.mono : ∀ a0 k, LeO (impl_IsRig.f k a0) (impl_IsRig.f (k + 1) a0) := by
 intro a0 k
 have ih0 := impl_IsRig.mono_l k
 unfold impl_IsRig.f
 repeat' first
   | (with_reducible exact ih0 _ _ _ _)
   | (with_reducible exact impl_IsDevice.mono _ _ _ _ _ _ _ _ _)
   | (with_reducible exact impl_isHung.mono _ _ _ _ _ _ _ _ _ _)
   | (with_reducible exact LeO.refl _)
   | (with_reducible exact LeO.none _)
   | (with_reducible refine LeO.ite ?_ ?_)
   | (with_reducible refine LeO.bind ?_ (fun _ => ?_))
def impl_IsRig.T6 : Bool × List (List Nat × List Nat) := (true, [([], []), ([0], [0]), ([1], [1]), ([2, 1], [2]), ([3], [3]), ([4, 3], [3, 4]), ([5, 3, 3], [3, 5]), ([6], [6]), ([7, 6], [6, 7]), ([6], [6]), ([6], [6]), ([10, 6], [6, 10]), ([9, 11, 6], [6, 9, 11]), ([12, 6], [6, 12]), ([13, 6], [6, 13]), ([8, 14, 6], [6, 8, 14]), ([6, 15, 3], [3, 6, 15]), ([3, 16], [3, 16]), ([17, 6], [17]), ([18], [18]), ([18], [18]), ([19, 20, 18, 18], [18, 19, 20]), ([21, 18], [18, 21]), ([18, 22], [18, 22])])
def impl_IsRig.B6 : List Nat := [0, 1, 3, 7, 15, 31, 63, 127, 255, 127, 127, 1151, 3711, 7807, 15999, 32767, 65535, 131071, 262143, 524287, 524287, 2097151, 4194303, 8388607]
theorem impl_IsRig.tab6 : rtab .any (opsOf Try.f25 6) = impl_IsRig.T6 := by kernel_rfl
theorem impl_IsRig.bits6 : waitsOk impl_IsRig.T6.2 impl_IsRig.B6 = true := by kernel_rfl
set_option maxHeartbeats 8000000 in
set_option maxRecDepth 100000 in
theorem impl_IsRig.calls (k : Nat) (A0 : Option Addr) (c0 : Nat) (l0 : List (S30)) (r : Bool) (w : World) (hr0 : Kd.C k30 w A0 l0.length l0) (hc0 : l0.length ≤ c0) (h : impl_IsRig.f k l0 = some r) :
  Calls Try.prog 25 #[.slice A0 l0.length c0] w fun e w' => e = .returned (.bool r) ∧ Below w.heap.size w w' := by
 have hu30 := Try.underlying30
 have HR0 := am hr0
 have HC0 := am hc0
 clear hr0 hc0
 have HB := am (Below.refl w.heap.size w)
 have H : (if (l0.length : Int) > 8 then (some false) else (impl_IsRig.l0 k l0 l0 (l0.length : Int) 0)) = some r := h
 clear h
 by_cases c2 : (l0.length : Int) > 8
 ·rw [if_pos c2] at H
  have c2b0 : decide (8 < (l0.length : Int)) = true := decide_eq_true c2
  have c2b1 : decide (8 < l0.length) = true := decide_eq_true (by omega)
  clear c2
  obtain rfl := Option.some.inj H
  go_enter Try.func25, Try.ntmps25
  go_wp2
  go_ret
  exact ⟨by first | rfl | (simp [*] <;> rfl), s4_2⟩
 ·rw [if_neg c2] at H
  have c2b0 : decide (8 < (l0.length : Int)) = false := decide_eq_false c2
  have c2b1 : decide (8 < l0.length) = false := decide_eq_false (by omega)
  clear c2
  have H' := am H
  clear H
  go_enter Try.func25, Try.ntmps25
  go_wp2
  go_loopg [10] k (fun kq v10 w' => ∃ (x10_1 : Int), v10 = .int .i64 x10_1 ∧ Aside0 (impl_IsRig.l0 kq l0 l0 (l0.length : Int) x10_1 = some r) ∧ Aside0 (kq ≤ k) ∧ Aside0 (Below w.heap.size w w'))
  case atStart => exact ⟨(0), (by first | rfl | (simp; done) | (simp [*]; done)), H', ⟨Nat.le_refl _⟩, ⟨s4_2⟩⟩
  case round =>
   clear H'
   try clear c2
   try clear c2b0
   try clear c2b1
   try clear p2
   obtain ⟨x10_1, rfl, HA, HK1, HB⟩ := hrel
   cases gk with
   | zero => exact absurd HA.out (by simp [impl_IsRig.l0])
   | succ k1 =>
    have H := HA.out
    clear HA
    simp only [impl_IsRig.l0] at H
    by_cases c3 : x10_1 < (l0.length : Int)
    ·rw [if_pos c3] at H
     have c3b0 : decide (x10_1 < (l0.length : Int)) = true := decide_eq_true c3
     clear c3
     by_cases c4 : 0 ≤ x10_1
     ·rw [if_pos c4] at H
      have c4b0 : decide (0 ≤ x10_1) = true := decide_eq_true c4
      clear c4
      by_cases c5 : x10_1 < (l0.length : Int)
      ·rw [if_pos c5] at H
       have c5b0 : decide (x10_1 < (l0.length : Int)) = true := decide_eq_true c5
       clear c5
       replace H := Option.bind_eq_some_iff.mp H
       obtain ⟨t129, A60, H⟩ := H
       replace H : (if t129 = true then (if x10_1 > 0 then (if 0 ≤ (wrap64 (x10_1 - 1)) then (if (wrap64 (x10_1 - 1)) < (l0.length : Int) then (if ((Op.bytesLess (((rd_T30 l0 (wrap64 (x10_1 - 1))).f0).toList) (((rd_T30 l0 x10_1).f0).toList)) = true) then ((impl_isHung.f k1 l0 ((rd_T30 l0 x10_1).f0) ((rd_T30 l0 x10_1).f1) ((rd_T30 l0 x10_1).f2) ((rd_T30 l0 x10_1).f3.f0) ((rd_T30 l0 x10_1).f3.f1) ((rd_T30 l0 x10_1).f4) ((rd_T30 l0 x10_1).f5) ((rd_T30 l0 x10_1).f6)).bind fun t131 => (if t131 = true then (impl_IsRig.l0 k1 l0 l0 (l0.length : Int) (wrap64 (x10_1 + 1))) else (some false))) else (some false)) else (none)) else (none)) else ((impl_isHung.f k1 l0 ((rd_T30 l0 x10_1).f0) ((rd_T30 l0 x10_1).f1) ((rd_T30 l0 x10_1).f2) ((rd_T30 l0 x10_1).f3.f0) ((rd_T30 l0 x10_1).f3.f1) ((rd_T30 l0 x10_1).f4) ((rd_T30 l0 x10_1).f5) ((rd_T30 l0 x10_1).f6)).bind fun t132 => (if t132 = true then (impl_IsRig.l0 k1 l0 l0 (l0.length : Int) (wrap64 (x10_1 + 1))) else (some false)))) else (some false)) = some r := H
       have A6 := am A60
       clear A60
       by_cases c7 : t129 = true
       ·subst c7
        have H1 : (if x10_1 > 0 then (if 0 ≤ (wrap64 (x10_1 - 1)) then (if (wrap64 (x10_1 - 1)) < (l0.length : Int) then (if ((Op.bytesLess (((rd_T30 l0 (wrap64 (x10_1 - 1))).f0).toList) (((rd_T30 l0 x10_1).f0).toList)) = true) then ((impl_isHung.f k1 l0 ((rd_T30 l0 x10_1).f0) ((rd_T30 l0 x10_1).f1) ((rd_T30 l0 x10_1).f2) ((rd_T30 l0 x10_1).f3.f0) ((rd_T30 l0 x10_1).f3.f1) ((rd_T30 l0 x10_1).f4) ((rd_T30 l0 x10_1).f5) ((rd_T30 l0 x10_1).f6)).bind fun t131 => (if t131 = true then (impl_IsRig.l0 k1 l0 l0 (l0.length : Int) (wrap64 (x10_1 + 1))) else (some false))) else (some false)) else (none)) else (none)) else ((impl_isHung.f k1 l0 ((rd_T30 l0 x10_1).f0) ((rd_T30 l0 x10_1).f1) ((rd_T30 l0 x10_1).f2) ((rd_T30 l0 x10_1).f3.f0) ((rd_T30 l0 x10_1).f3.f1) ((rd_T30 l0 x10_1).f4) ((rd_T30 l0 x10_1).f5) ((rd_T30 l0 x10_1).f6)).bind fun t132 => (if t132 = true then (impl_IsRig.l0 k1 l0 l0 (l0.length : Int) (wrap64 (x10_1 + 1))) else (some false)))) = some r := by rw [if_pos rfl] at H; exact H
        clear H
        have H := H1
        clear H1
        by_cases c8 : x10_1 > 0
        ·rw [if_pos c8] at H
         have c8b0 : decide (0 < x10_1) = true := decide_eq_true c8
         clear c8
         obtain ⟨ji9, hji9⟩ : ∃ j_ : Int, (wrap64 (x10_1 - 1)) = j_ := ⟨_, rfl⟩
         replace H : (if 0 ≤ (ji9) then (if (ji9) < (l0.length : Int) then (if ((Op.bytesLess (((rd_T30 l0 (ji9)).f0).toList) (((rd_T30 l0 x10_1).f0).toList)) = true) then ((impl_isHung.f k1 l0 ((rd_T30 l0 x10_1).f0) ((rd_T30 l0 x10_1).f1) ((rd_T30 l0 x10_1).f2) ((rd_T30 l0 x10_1).f3.f0) ((rd_T30 l0 x10_1).f3.f1) ((rd_T30 l0 x10_1).f4) ((rd_T30 l0 x10_1).f5) ((rd_T30 l0 x10_1).f6)).bind fun t131 => (if t131 = true then (impl_IsRig.l0 k1 l0 l0 (l0.length : Int) (wrap64 (x10_1 + 1))) else (some false))) else (some false)) else (none)) else (none)) = some r := by first | (rw [hji9] at H; exact H) | (simp only [hji9] at H ⊢; exact H)
         (try rw [hji9] at A6)
         have hji9w : (IntKind.i64.wrap (x10_1 - 1)) = ji9 := (i64_w _).trans hji9
         by_cases c10 : 0 ≤ (ji9)
         ·rw [if_pos c10] at H
          have c10b0 : decide (0 ≤ (ji9)) = true := decide_eq_true c10
          clear c10
          by_cases c11 : (ji9) < (l0.length : Int)
          ·rw [if_pos c11] at H
           have c11b0 : decide ((ji9) < (l0.length : Int)) = true := decide_eq_true c11
           clear c11
           by_cases c12 : ((Op.bytesLess (((rd_T30 l0 (ji9)).f0).toList) (((rd_T30 l0 x10_1).f0).toList)) = true)
           ·rw [if_pos c12] at H
            have c12b0 : (Op.bytesLess (((rd_T30 l0 (ji9)).f0).toList) (((rd_T30 l0 x10_1).f0).toList)) = true := c12
            have c12e : (Op.bytesLess (((rd_T30 l0 x10_1).f0).toList) (((rd_T30 l0 (ji9)).f0).toList) || (((rd_T30 l0 x10_1).f0).toList) == (((rd_T30 l0 (ji9)).f0).toList)) = false := blT_leF c12b0
            clear c12
            replace H := Option.bind_eq_some_iff.mp H
            obtain ⟨t131, A130, H⟩ := H
            replace H : (if t131 = true then (impl_IsRig.l0 k1 l0 l0 (l0.length : Int) (wrap64 (x10_1 + 1))) else (some false)) = some r := H
            have A13 := am A130
            clear A130
            by_cases c14 : t131 = true
            ·subst c14
             have H1 : (impl_IsRig.l0 k1 l0 l0 (l0.length : Int) (wrap64 (x10_1 + 1))) = some r := by rw [if_pos rfl] at H; exact H
             clear H
             have H := H1
             clear H1
             have H' := am H
             clear H
             have p127 : 0 ≤ (x10_1 : Int) := od (by assumption)
             have q127 : x10_1 < (l0.length : Int) := od (by assumption)
             obtain ⟨ad127, e127, hx127_0, hx127_1, hx127_2, hx127_3, hx127_4, hx127_5, hx127_6, hx127_7⟩ := at_T30 (Kd.C_below HR0.out HB.out) x10_1 p127 q127
             cases e127
             replace p127 := eq_true p127
             replace q127 := eq_true q127
             try go_wp2_with (first | ((with_reducible refine gate_dst (N := 4) rfl ?_); refine box_event ?hg (N := 4) ?hd (cs := #[.string (⟨#[]⟩ : ByteArray), .int .i64 0, .string (⟨#[]⟩ : ByteArray), .int .i64 0, .int .i64 0, .int .i64 0, .int .i64 0, .int .i64 0]) (t := 30) ?hr ?_; (case hd => rfl); (case hg => rfl); (case hr => exact gq); intro gb128 hg w15 hbox hb; have n0_ := am (below_step u4_0 hb); have n1_ := am (hbox); have n2_ := bsw w hg (below_size u4_0); have n3_ := bsw w hg (below_size u4_0); clear HB; have HB := n0_; have BK128 := n1_; have GW128 := n2_; have GE128 := n3_; clear n0_ n1_ n2_ n3_ hb hbox hg; obtain ⟨hcz16_0, hcz16_1, hcz16_2, hcz16_3, hcz16_4, hcz16_5, hcz16_6, hcz16_7, hfz16_0, hfz16_1, hfz16_2, hfz16_3, hfz16_4, hfz16_5, hfz16_6, hfz16_7⟩ := cf8 BK128.out))
             have n0_ : Aside0 (((((((((w15.setCell ⟨gb128, 0, none⟩ (.string ((rd_T30 l0 x10_1).f0))).setCell ⟨gb128, 1, none⟩ (.int .i64 ((rd_T30 l0 x10_1).f1))).setCell ⟨gb128, 2, none⟩ (.string ((rd_T30 l0 x10_1).f2))).setCell ⟨gb128, 3, none⟩ (.int .i64 ((rd_T30 l0 x10_1).f3.f0))).setCell ⟨gb128, 4, none⟩ (.int .i64 ((rd_T30 l0 x10_1).f3.f1))).setCell ⟨gb128, 5, none⟩ (.int .i64 ((rd_T30 l0 x10_1).f4))).setCell ⟨gb128, 6, none⟩ (.int .i64 ((rd_T30 l0 x10_1).f5))).setCell ⟨gb128, 7, none⟩ (.int .i64 ((rd_T30 l0 x10_1).f6))).heap[gb128]? = some (.cells #[.string ((rd_T30 l0 x10_1).f0), .int .i64 ((rd_T30 l0 x10_1).f1), .string ((rd_T30 l0 x10_1).f2), .int .i64 ((rd_T30 l0 x10_1).f3.f0), .int .i64 ((rd_T30 l0 x10_1).f3.f1), .int .i64 ((rd_T30 l0 x10_1).f4), .int .i64 ((rd_T30 l0 x10_1).f5), .int .i64 ((rd_T30 l0 x10_1).f6)] 30 (0, 0))) := ⟨by (with_reducible repeat (first | refine blk_drewN ?_ _ | refine blk_drew ?_ | refine blk_alloc ?_ _)); refine blk_put (cs := zr5 ((rd_T30 l0 x10_1).f0) ((rd_T30 l0 x10_1).f1) ((rd_T30 l0 x10_1).f2) ((rd_T30 l0 x10_1).f3.f0) ((rd_T30 l0 x10_1).f3.f1) ((rd_T30 l0 x10_1).f4) ((rd_T30 l0 x10_1).f5) 0) ?_ 7 _ rfl; refine blk_put (cs := zr5 ((rd_T30 l0 x10_1).f0) ((rd_T30 l0 x10_1).f1) ((rd_T30 l0 x10_1).f2) ((rd_T30 l0 x10_1).f3.f0) ((rd_T30 l0 x10_1).f3.f1) ((rd_T30 l0 x10_1).f4) 0 0) ?_ 6 _ rfl; refine blk_put (cs := zr5 ((rd_T30 l0 x10_1).f0) ((rd_T30 l0 x10_1).f1) ((rd_T30 l0 x10_1).f2) ((rd_T30 l0 x10_1).f3.f0) ((rd_T30 l0 x10_1).f3.f1) 0 0 0) ?_ 5 _ rfl; refine blk_put (cs := zr5 ((rd_T30 l0 x10_1).f0) ((rd_T30 l0 x10_1).f1) ((rd_T30 l0 x10_1).f2) ((rd_T30 l0 x10_1).f3.f0) 0 0 0 0) ?_ 4 _ rfl; refine blk_put (cs := zr5 ((rd_T30 l0 x10_1).f0) ((rd_T30 l0 x10_1).f1) ((rd_T30 l0 x10_1).f2) 0 0 0 0 0) ?_ 3 _ rfl; refine blk_put (cs := zr5 ((rd_T30 l0 x10_1).f0) ((rd_T30 l0 x10_1).f1) (⟨#[]⟩ : ByteArray) 0 0 0 0 0) ?_ 2 _ rfl; (with_reducible repeat (first | refine blk_drewN ?_ _ | refine blk_drew ?_ | refine blk_alloc ?_ _)); refine blk_put (cs := zr5 ((rd_T30 l0 x10_1).f0) 0 (⟨#[]⟩ : ByteArray) 0 0 0 0 0) ?_ 1 _ rfl; (with_reducible repeat (first | refine blk_drewN ?_ _ | refine blk_drew ?_ | refine blk_alloc ?_ _)); refine blk_put (cs := zr5 (⟨#[]⟩ : ByteArray) 0 (⟨#[]⟩ : ByteArray) 0 0 0 0 0) ?_ 0 _ rfl; (with_reducible repeat (first | refine blk_drewN ?_ _ | refine blk_drew ?_ | refine blk_alloc ?_ _)); exact BK128.out⟩
             have n1_ : Aside0 (Below w.heap.size w ((((((((w15.setCell ⟨gb128, 0, none⟩ (.string ((rd_T30 l0 x10_1).f0))).setCell ⟨gb128, 1, none⟩ (.int .i64 ((rd_T30 l0 x10_1).f1))).setCell ⟨gb128, 2, none⟩ (.string ((rd_T30 l0 x10_1).f2))).setCell ⟨gb128, 3, none⟩ (.int .i64 ((rd_T30 l0 x10_1).f3.f0))).setCell ⟨gb128, 4, none⟩ (.int .i64 ((rd_T30 l0 x10_1).f3.f1))).setCell ⟨gb128, 5, none⟩ (.int .i64 ((rd_T30 l0 x10_1).f4))).setCell ⟨gb128, 6, none⟩ (.int .i64 ((rd_T30 l0 x10_1).f5))).setCell ⟨gb128, 7, none⟩ (.int .i64 ((rd_T30 l0 x10_1).f6)))) := ⟨s4_1⟩
             (try clear BK128)
             (try clear HB)
             (try simp only [show ∀ (w_ : World) (n_ : Nat) (a_ : Addr) (v_ : Value), (w_.drewN n_).setCell a_ v_ = (w_.setCell a_ v_).drewN n_ from fun _ _ _ _ => rfl, show ∀ (w_ : World) (a_ : Addr) (v_ : Value), w_.drew.setCell a_ v_ = (w_.setCell a_ v_).drew from fun _ _ _ => rfl])
             generalize ((((((((w15.setCell ⟨gb128, 0, none⟩ (.string ((rd_T30 l0 x10_1).f0))).setCell ⟨gb128, 1, none⟩ (.int .i64 ((rd_T30 l0 x10_1).f1))).setCell ⟨gb128, 2, none⟩ (.string ((rd_T30 l0 x10_1).f2))).setCell ⟨gb128, 3, none⟩ (.int .i64 ((rd_T30 l0 x10_1).f3.f0))).setCell ⟨gb128, 4, none⟩ (.int .i64 ((rd_T30 l0 x10_1).f3.f1))).setCell ⟨gb128, 5, none⟩ (.int .i64 ((rd_T30 l0 x10_1).f4))).setCell ⟨gb128, 6, none⟩ (.int .i64 ((rd_T30 l0 x10_1).f5))).setCell ⟨gb128, 7, none⟩ (.int .i64 ((rd_T30 l0 x10_1).f6))) = w17 at n0_ n1_ ⊢
             have BK128 := n0_
             have HB := n1_
             clear n0_ n1_
             have n0_ := am (blk_drew BK128.out)
             have n1_ := am (below_drew1 HB.out)
             clear BK128 HB
             have BK128 := n0_
             have HB := n1_
             clear n0_ n1_
             have p130 : 0 ≤ ((ji9) : Int) := od (by assumption)
             have q130 : (ji9) < (l0.length : Int) := od (by assumption)
             obtain ⟨ad130, e130, hx130_0, hx130_1, hx130_2, hx130_3, hx130_4, hx130_5, hx130_6, hx130_7⟩ := at_T30 HR0.out (ji9) p130 q130
             have hw130_7 := hx130_7
             have hw130_6 := hx130_6
             have hw130_5 := hx130_5
             have hw130_4 := hx130_4
             have hw130_3 := hx130_3
             have hw130_2 := hx130_2
             have hw130_1 := hx130_1
             have hw130_0 := hx130_0
             obtain rfl : ad127 = ad130 := (by injection e130)
             replace hx130_0 := bc HB.out hx130_0
             replace hx130_1 := bc HB.out hx130_1
             replace hx130_2 := bc HB.out hx130_2
             replace hx130_3 := bc HB.out hx130_3
             replace hx130_4 := bc HB.out hx130_4
             replace hx130_5 := bc HB.out hx130_5
             replace hx130_6 := bc HB.out hx130_6
             replace hx130_7 := bc HB.out hx130_7
             replace p130 := eq_true p130
             replace q130 := eq_true q130
             refine start_ (n := 24) (S := fun w' => zc1 w' gb128 (rd_T30 l0 x10_1) (zc2 w' (ad127.add (((ji9)).toNat * 8)) (rd_T30 l0 (ji9)))) (ds := []) mk4_0 (by kernel_rfl) rfl rfl ⟨(blk_cell BK128.out 0).trans rfl, (blk_cell BK128.out 1).trans rfl, (blk_cell BK128.out 2).trans rfl, (blk_cell BK128.out 3).trans rfl, (blk_cell BK128.out 4).trans rfl, (blk_cell BK128.out 5).trans rfl, (blk_cell BK128.out 6).trans rfl, (blk_cell BK128.out 7).trans rfl, (bc HB.out hw130_0), (bc HB.out hw130_1), (bc HB.out hw130_2), (bc HB.out hw130_3), (bc HB.out hw130_4), (bc HB.out hw130_5), (bc HB.out hw130_6), (bc HB.out hw130_7)⟩ (fun hHeld => ?_); refine with_tabW impl_IsRig.tab6 impl_IsRig.bits6 (fun HT_ HW_ => ?_)
             generalize w17.drew = w18 at BK128 HB hx130_0 hx130_1 hx130_2 hx130_3 hx130_4 hx130_5 hx130_6 hx130_7 hHeld ⊢
             refine take_ (i := 0) (N := some 15) (v := ?_) (a' := ?_) mk4_1 rfl rfl (take_ofW HT_.out HW_.out (by kernel_rfl)) (fun _ _ _ h => h) (Or.inl ⟨by rfl, ?_⟩) hHeld ?_ ?_
             rotate_left
             ·rintro w' ⟨s0, s1, s2, s3, s4, s5, s6, s7, s8, s9, s10, s11, s12, s13, s14, s15⟩
              exact gs
             rotate_left
             ·exact ap
             refine one_ (i := 1) (N := some 16) mk4_2 rfl rfl (one_of HT_.out (by kernel_rfl)) (by decide) (fun K hK => ?_)
             refine goes_ Try.func18 (by kernel_rfl) rfl #[.agg #[.string ((rd_T30 l0 x10_1).f0), .int .i64 ((rd_T30 l0 x10_1).f1), .string ((rd_T30 l0 x10_1).f2), .int .i64 ((rd_T30 l0 x10_1).f3.f0), .int .i64 ((rd_T30 l0 x10_1).f3.f1), .int .i64 ((rd_T30 l0 x10_1).f4), .int .i64 ((rd_T30 l0 x10_1).f5), .int .i64 ((rd_T30 l0 x10_1).f6)]] (by rfl) rfl rfl u4_3 ?_
             with_reducible refine (impl_IsDevice.calls k1 ((rd_T30 l0 x10_1).f0) ((rd_T30 l0 x10_1).f1) ((rd_T30 l0 x10_1).f2) ((rd_T30 l0 x10_1).f3.f0) ((rd_T30 l0 x10_1).f3.f1) ((rd_T30 l0 x10_1).f4) ((rd_T30 l0 x10_1).f5) ((rd_T30 l0 x10_1).f6) true _ A6.out).mono ?_
             rintro e w19 ⟨rfl, hb⟩
             refine ⟨_, rfl, ?_⟩
             have n0_ := am (blk_below (g := gb128) (o := zo4 (rd_T30 l0 x10_1)) u4_2 hb)
             have n1_ := am (below_step u4_1 hb)
             clear BK128 HB
             have BK128 := n0_
             have HB := n1_
             clear n0_ n1_
             (try clear hb)
             (try clear hb2)
             (try clear hk)
             (try clear hi)
             refine hK.out _ _ ⟨(blk_cell BK128.out 0).trans rfl, (blk_cell BK128.out 1).trans rfl, (blk_cell BK128.out 2).trans rfl, (blk_cell BK128.out 3).trans rfl, (blk_cell BK128.out 4).trans rfl, (blk_cell BK128.out 5).trans rfl, (blk_cell BK128.out 6).trans rfl, (blk_cell BK128.out 7).trans rfl, (bc HB.out hw130_0), (bc HB.out hw130_1), (bc HB.out hw130_2), (bc HB.out hw130_3), (bc HB.out hw130_4), (bc HB.out hw130_5), (bc HB.out hw130_6), (bc HB.out hw130_7)⟩ (fun hHeld => ?_)
             clear hK K
             refine norm_ (a' := ?_) ?_ ?_
             rotate_left
             ·show Act.put _ (some 16) _ = _
              simp only [Act.put, List.setIfInBounds_toArray, List.set_cons_zero, List.set_cons_succ, i64_w, i32_w]
              rfl
             refine pz 2 17 mk4_3 (any_of HT_.out (by kernel_rfl)) ?_
             refine pz 3 18 mk4_4 (any_of HT_.out (by kernel_rfl)) ?_
             refine pz 4 19 mk4_5 (any_of HT_.out (by kernel_rfl)) ?_
             refine pz 5 20 mk4_6 (any_of HT_.out (by kernel_rfl)) ?_
             refine pz 6 21 mk4_7 (any_of HT_.out (by kernel_rfl)) ?_
             refine pz 7 22 mk4_8 (any_of HT_.out (by kernel_rfl)) ?_
             refine pz 9 24 mk4_9 (any_of HT_.out (by kernel_rfl)) ?_
             refine pz 10 25 mk4_10 (any_of HT_.out (by kernel_rfl)) ?_
             refine pz 11 26 mk4_11 (any_of HT_.out (by kernel_rfl)) ?_
             refine pz 12 27 mk4_12 (any_of HT_.out (by kernel_rfl)) ?_
             refine pz 13 28 mk4_13 (any_of HT_.out (by kernel_rfl)) ?_
             refine take_ (i := 8) (N := some 23) (v := ?_) (a' := ?_) mk4_19 rfl rfl (take_ofW HT_.out HW_.out (by kernel_rfl)) (fun _ _ _ h => h) (Or.inl ⟨by rfl, ?_⟩) hHeld ?_ ?_
             rotate_left
             ·rintro w' ⟨s0, s1, s2, s3, s4, s5, s6, s7, s8, s9, s10, s11, s12, s13, s14, s15⟩
              exact gs
             rotate_left
             ·exact ap
             refine take_ (i := 14) (N := some 29) (v := ?_) (a' := ?_) mk4_20 rfl rfl (take_ofW HT_.out HW_.out (by kernel_rfl)) (fun _ _ _ h => h) (Or.inl ⟨by rfl, ?_⟩) hHeld ?_ ?_
             rotate_left
             ·rintro w' ⟨s0, s1, s2, s3, s4, s5, s6, s7, s8, s9, s10, s11, s12, s13, s14, s15⟩
              exact gs
             rotate_left
             ·exact ap
             refine pz 15 30 mk4_21 (any_of HT_.out (by kernel_rfl)) ?_
             refine pz 16 31 mk4_22 (any_of HT_.out (by kernel_rfl)) ?_
             refine pz 17 32 mk4_23 (any_of HT_.out (by kernel_rfl)) ?_
             refine pz 18 33 mk4_24 (any_of HT_.out (by kernel_rfl)) ?_
             refine pz 19 34 mk4_25 (any_of HT_.out (by kernel_rfl)) ?_
             refine take_ (i := 20) (N := some 35) (v := ?_) (a' := ?_) mk4_26 rfl rfl (take_ofW HT_.out HW_.out (by kernel_rfl)) (fun _ _ _ h => h) (Or.inl ⟨by rfl, ?_⟩) hHeld ?_ ?_
             rotate_left
             ·rintro w' ⟨s0, s1, s2, s3, s4, s5, s6, s7, s8, s9, s10, s11, s12, s13, s14, s15⟩
              exact gs
             rotate_left
             ·exact ap
             refine one_ (i := 21) (N := some 36) mk4_27 rfl rfl (one_of HT_.out (by kernel_rfl)) (by decide) (fun K hK => ?_)
             refine goes_ Try.func65 (by kernel_rfl) rfl #[.slice (some ad127) l0.length c0, .agg #[.string ((rd_T30 l0 x10_1).f0), .int .i64 ((rd_T30 l0 x10_1).f1), .string ((rd_T30 l0 x10_1).f2), .int .i64 ((rd_T30 l0 x10_1).f3.f0), .int .i64 ((rd_T30 l0 x10_1).f3.f1), .int .i64 ((rd_T30 l0 x10_1).f4), .int .i64 ((rd_T30 l0 x10_1).f5), .int .i64 ((rd_T30 l0 x10_1).f6)]] (by rfl) rfl rfl u4_3 ?_
             with_reducible refine (impl_isHung.calls k1 _ _ l0 ((rd_T30 l0 x10_1).f0) ((rd_T30 l0 x10_1).f1) ((rd_T30 l0 x10_1).f2) ((rd_T30 l0 x10_1).f3.f0) ((rd_T30 l0 x10_1).f3.f1) ((rd_T30 l0 x10_1).f4) ((rd_T30 l0 x10_1).f5) ((rd_T30 l0 x10_1).f6) true _ ?side1 ?side2 A13.out).mono ?_
             (case side1 => exact s4_0)
             (case side2 => exact HC0.out)
             rintro e w20 ⟨rfl, hb⟩
             refine ⟨_, rfl, ?_⟩
             have n0_ := am (blk_below (g := gb128) (o := zo4 (rd_T30 l0 x10_1)) u4_2 hb)
             have n1_ := am (below_step u4_1 hb)
             clear BK128 HB
             have BK128 := n0_
             have HB := n1_
             clear n0_ n1_
             (try clear hb)
             (try clear hb2)
             (try clear hk)
             (try clear hi)
             refine hK.out _ _ ⟨(blk_cell BK128.out 0).trans rfl, (blk_cell BK128.out 1).trans rfl, (blk_cell BK128.out 2).trans rfl, (blk_cell BK128.out 3).trans rfl, (blk_cell BK128.out 4).trans rfl, (blk_cell BK128.out 5).trans rfl, (blk_cell BK128.out 6).trans rfl, (blk_cell BK128.out 7).trans rfl, (bc HB.out hw130_0), (bc HB.out hw130_1), (bc HB.out hw130_2), (bc HB.out hw130_3), (bc HB.out hw130_4), (bc HB.out hw130_5), (bc HB.out hw130_6), (bc HB.out hw130_7)⟩ (fun hHeld => ?_)
             clear hK K
             refine norm_ (a' := ?_) ?_ ?_
             rotate_left
             ·show Act.put _ (some 36) _ = _
              simp only [Act.put, List.setIfInBounds_toArray, List.set_cons_zero, List.set_cons_succ, i64_w, i32_w]
              rfl
             refine pz 22 37 mk4_28 (any_of HT_.out (by kernel_rfl)) ?_
             refine pz 23 38 mk4_29 (any_of HT_.out (by kernel_rfl)) ?_
             refine done_ (done_of HT_.out (by kernel_rfl)) ?_
             try go_wp2
             go_roundg k1
             case measure => have := HK1.out; omega
             case rel => exact ⟨(wrap64 (x10_1 + 1)), (by first | rfl | (simp; done) | (simp [*]; done)), H', ⟨by have := HK1.out; omega⟩, ⟨s4_1⟩⟩
            ·replace c14 := Bool.eq_false_iff.mpr c14
             subst c14
             have H1 : (some false) = some r := by rw [if_neg (show ¬ (false = true) by decide)] at H; exact H
             clear H
             have H := H1
             clear H1
             obtain rfl := Option.some.inj H
             have p127 : 0 ≤ (x10_1 : Int) := od (by assumption)
             have q127 : x10_1 < (l0.length : Int) := od (by assumption)
             obtain ⟨ad127, e127, hx127_0, hx127_1, hx127_2, hx127_3, hx127_4, hx127_5, hx127_6, hx127_7⟩ := at_T30 (Kd.C_below HR0.out HB.out) x10_1 p127 q127
             cases e127
             replace p127 := eq_true p127
             replace q127 := eq_true q127
             try go_wp2_with (first | ((with_reducible refine gate_dst (N := 4) rfl ?_); refine box_event ?hg (N := 4) ?hd (cs := #[.string (⟨#[]⟩ : ByteArray), .int .i64 0, .string (⟨#[]⟩ : ByteArray), .int .i64 0, .int .i64 0, .int .i64 0, .int .i64 0, .int .i64 0]) (t := 30) ?hr ?_; (case hd => rfl); (case hg => rfl); (case hr => exact gq); intro gb128 hg w21 hbox hb; have n0_ := am (below_step u4_0 hb); have n1_ := am (hbox); have n2_ := bsw w hg (below_size u4_0); have n3_ := bsw w hg (below_size u4_0); clear HB; have HB := n0_; have BK128 := n1_; have GW128 := n2_; have GE128 := n3_; clear n0_ n1_ n2_ n3_ hb hbox hg; obtain ⟨hcz22_0, hcz22_1, hcz22_2, hcz22_3, hcz22_4, hcz22_5, hcz22_6, hcz22_7, hfz22_0, hfz22_1, hfz22_2, hfz22_3, hfz22_4, hfz22_5, hfz22_6, hfz22_7⟩ := cf8 BK128.out))
             have n0_ : Aside0 (((((((((w21.setCell ⟨gb128, 0, none⟩ (.string ((rd_T30 l0 x10_1).f0))).setCell ⟨gb128, 1, none⟩ (.int .i64 ((rd_T30 l0 x10_1).f1))).setCell ⟨gb128, 2, none⟩ (.string ((rd_T30 l0 x10_1).f2))).setCell ⟨gb128, 3, none⟩ (.int .i64 ((rd_T30 l0 x10_1).f3.f0))).setCell ⟨gb128, 4, none⟩ (.int .i64 ((rd_T30 l0 x10_1).f3.f1))).setCell ⟨gb128, 5, none⟩ (.int .i64 ((rd_T30 l0 x10_1).f4))).setCell ⟨gb128, 6, none⟩ (.int .i64 ((rd_T30 l0 x10_1).f5))).setCell ⟨gb128, 7, none⟩ (.int .i64 ((rd_T30 l0 x10_1).f6))).heap[gb128]? = some (.cells #[.string ((rd_T30 l0 x10_1).f0), .int .i64 ((rd_T30 l0 x10_1).f1), .string ((rd_T30 l0 x10_1).f2), .int .i64 ((rd_T30 l0 x10_1).f3.f0), .int .i64 ((rd_T30 l0 x10_1).f3.f1), .int .i64 ((rd_T30 l0 x10_1).f4), .int .i64 ((rd_T30 l0 x10_1).f5), .int .i64 ((rd_T30 l0 x10_1).f6)] 30 (0, 0))) := ⟨by (with_reducible repeat (first | refine blk_drewN ?_ _ | refine blk_drew ?_ | refine blk_alloc ?_ _)); refine blk_put (cs := zr5 ((rd_T30 l0 x10_1).f0) ((rd_T30 l0 x10_1).f1) ((rd_T30 l0 x10_1).f2) ((rd_T30 l0 x10_1).f3.f0) ((rd_T30 l0 x10_1).f3.f1) ((rd_T30 l0 x10_1).f4) ((rd_T30 l0 x10_1).f5) 0) ?_ 7 _ rfl; refine blk_put (cs := zr5 ((rd_T30 l0 x10_1).f0) ((rd_T30 l0 x10_1).f1) ((rd_T30 l0 x10_1).f2) ((rd_T30 l0 x10_1).f3.f0) ((rd_T30 l0 x10_1).f3.f1) ((rd_T30 l0 x10_1).f4) 0 0) ?_ 6 _ rfl; refine blk_put (cs := zr5 ((rd_T30 l0 x10_1).f0) ((rd_T30 l0 x10_1).f1) ((rd_T30 l0 x10_1).f2) ((rd_T30 l0 x10_1).f3.f0) ((rd_T30 l0 x10_1).f3.f1) 0 0 0) ?_ 5 _ rfl; refine blk_put (cs := zr5 ((rd_T30 l0 x10_1).f0) ((rd_T30 l0 x10_1).f1) ((rd_T30 l0 x10_1).f2) ((rd_T30 l0 x10_1).f3.f0) 0 0 0 0) ?_ 4 _ rfl; refine blk_put (cs := zr5 ((rd_T30 l0 x10_1).f0) ((rd_T30 l0 x10_1).f1) ((rd_T30 l0 x10_1).f2) 0 0 0 0 0) ?_ 3 _ rfl; refine blk_put (cs := zr5 ((rd_T30 l0 x10_1).f0) ((rd_T30 l0 x10_1).f1) (⟨#[]⟩ : ByteArray) 0 0 0 0 0) ?_ 2 _ rfl; (with_reducible repeat (first | refine blk_drewN ?_ _ | refine blk_drew ?_ | refine blk_alloc ?_ _)); refine blk_put (cs := zr5 ((rd_T30 l0 x10_1).f0) 0 (⟨#[]⟩ : ByteArray) 0 0 0 0 0) ?_ 1 _ rfl; (with_reducible repeat (first | refine blk_drewN ?_ _ | refine blk_drew ?_ | refine blk_alloc ?_ _)); refine blk_put (cs := zr5 (⟨#[]⟩ : ByteArray) 0 (⟨#[]⟩ : ByteArray) 0 0 0 0 0) ?_ 0 _ rfl; (with_reducible repeat (first | refine blk_drewN ?_ _ | refine blk_drew ?_ | refine blk_alloc ?_ _)); exact BK128.out⟩
             have n1_ : Aside0 (Below w.heap.size w ((((((((w21.setCell ⟨gb128, 0, none⟩ (.string ((rd_T30 l0 x10_1).f0))).setCell ⟨gb128, 1, none⟩ (.int .i64 ((rd_T30 l0 x10_1).f1))).setCell ⟨gb128, 2, none⟩ (.string ((rd_T30 l0 x10_1).f2))).setCell ⟨gb128, 3, none⟩ (.int .i64 ((rd_T30 l0 x10_1).f3.f0))).setCell ⟨gb128, 4, none⟩ (.int .i64 ((rd_T30 l0 x10_1).f3.f1))).setCell ⟨gb128, 5, none⟩ (.int .i64 ((rd_T30 l0 x10_1).f4))).setCell ⟨gb128, 6, none⟩ (.int .i64 ((rd_T30 l0 x10_1).f5))).setCell ⟨gb128, 7, none⟩ (.int .i64 ((rd_T30 l0 x10_1).f6)))) := ⟨s4_1⟩
             (try clear BK128)
             (try clear HB)
             (try simp only [show ∀ (w_ : World) (n_ : Nat) (a_ : Addr) (v_ : Value), (w_.drewN n_).setCell a_ v_ = (w_.setCell a_ v_).drewN n_ from fun _ _ _ _ => rfl, show ∀ (w_ : World) (a_ : Addr) (v_ : Value), w_.drew.setCell a_ v_ = (w_.setCell a_ v_).drew from fun _ _ _ => rfl])
             generalize ((((((((w21.setCell ⟨gb128, 0, none⟩ (.string ((rd_T30 l0 x10_1).f0))).setCell ⟨gb128, 1, none⟩ (.int .i64 ((rd_T30 l0 x10_1).f1))).setCell ⟨gb128, 2, none⟩ (.string ((rd_T30 l0 x10_1).f2))).setCell ⟨gb128, 3, none⟩ (.int .i64 ((rd_T30 l0 x10_1).f3.f0))).setCell ⟨gb128, 4, none⟩ (.int .i64 ((rd_T30 l0 x10_1).f3.f1))).setCell ⟨gb128, 5, none⟩ (.int .i64 ((rd_T30 l0 x10_1).f4))).setCell ⟨gb128, 6, none⟩ (.int .i64 ((rd_T30 l0 x10_1).f5))).setCell ⟨gb128, 7, none⟩ (.int .i64 ((rd_T30 l0 x10_1).f6))) = w23 at n0_ n1_ ⊢
             have BK128 := n0_
             have HB := n1_
             clear n0_ n1_
             have n0_ := am (blk_drew BK128.out)
             have n1_ := am (below_drew1 HB.out)
             clear BK128 HB
             have BK128 := n0_
             have HB := n1_
             clear n0_ n1_
             have p130 : 0 ≤ ((ji9) : Int) := od (by assumption)
             have q130 : (ji9) < (l0.length : Int) := od (by assumption)
             obtain ⟨ad130, e130, hx130_0, hx130_1, hx130_2, hx130_3, hx130_4, hx130_5, hx130_6, hx130_7⟩ := at_T30 HR0.out (ji9) p130 q130
             have hw130_7 := hx130_7
             have hw130_6 := hx130_6
             have hw130_5 := hx130_5
             have hw130_4 := hx130_4
             have hw130_3 := hx130_3
             have hw130_2 := hx130_2
             have hw130_1 := hx130_1
             have hw130_0 := hx130_0
             obtain rfl : ad127 = ad130 := (by injection e130)
             replace hx130_0 := bc HB.out hx130_0
             replace hx130_1 := bc HB.out hx130_1
             replace hx130_2 := bc HB.out hx130_2
             replace hx130_3 := bc HB.out hx130_3
             replace hx130_4 := bc HB.out hx130_4
             replace hx130_5 := bc HB.out hx130_5
             replace hx130_6 := bc HB.out hx130_6
             replace hx130_7 := bc HB.out hx130_7
             replace p130 := eq_true p130
             replace q130 := eq_true q130
             refine start_ (n := 24) (S := fun w' => zc1 w' gb128 (rd_T30 l0 x10_1) (zc2 w' (ad127.add (((ji9)).toNat * 8)) (rd_T30 l0 (ji9)))) (ds := []) mk4_0 (by kernel_rfl) rfl rfl ⟨(blk_cell BK128.out 0).trans rfl, (blk_cell BK128.out 1).trans rfl, (blk_cell BK128.out 2).trans rfl, (blk_cell BK128.out 3).trans rfl, (blk_cell BK128.out 4).trans rfl, (blk_cell BK128.out 5).trans rfl, (blk_cell BK128.out 6).trans rfl, (blk_cell BK128.out 7).trans rfl, (bc HB.out hw130_0), (bc HB.out hw130_1), (bc HB.out hw130_2), (bc HB.out hw130_3), (bc HB.out hw130_4), (bc HB.out hw130_5), (bc HB.out hw130_6), (bc HB.out hw130_7)⟩ (fun hHeld => ?_); refine with_tabW impl_IsRig.tab6 impl_IsRig.bits6 (fun HT_ HW_ => ?_)
             generalize w23.drew = w24 at BK128 HB hx130_0 hx130_1 hx130_2 hx130_3 hx130_4 hx130_5 hx130_6 hx130_7 hHeld ⊢
             refine take_ (i := 0) (N := some 15) (v := ?_) (a' := ?_) mk4_1 rfl rfl (take_ofW HT_.out HW_.out (by kernel_rfl)) (fun _ _ _ h => h) (Or.inl ⟨by rfl, ?_⟩) hHeld ?_ ?_
             rotate_left
             ·rintro w' ⟨s0, s1, s2, s3, s4, s5, s6, s7, s8, s9, s10, s11, s12, s13, s14, s15⟩
              exact gs
             rotate_left
             ·exact ap
             refine one_ (i := 1) (N := some 16) mk4_2 rfl rfl (one_of HT_.out (by kernel_rfl)) (by decide) (fun K hK => ?_)
             refine goes_ Try.func18 (by kernel_rfl) rfl #[.agg #[.string ((rd_T30 l0 x10_1).f0), .int .i64 ((rd_T30 l0 x10_1).f1), .string ((rd_T30 l0 x10_1).f2), .int .i64 ((rd_T30 l0 x10_1).f3.f0), .int .i64 ((rd_T30 l0 x10_1).f3.f1), .int .i64 ((rd_T30 l0 x10_1).f4), .int .i64 ((rd_T30 l0 x10_1).f5), .int .i64 ((rd_T30 l0 x10_1).f6)]] (by rfl) rfl rfl u4_3 ?_
             with_reducible refine (impl_IsDevice.calls k1 ((rd_T30 l0 x10_1).f0) ((rd_T30 l0 x10_1).f1) ((rd_T30 l0 x10_1).f2) ((rd_T30 l0 x10_1).f3.f0) ((rd_T30 l0 x10_1).f3.f1) ((rd_T30 l0 x10_1).f4) ((rd_T30 l0 x10_1).f5) ((rd_T30 l0 x10_1).f6) true _ A6.out).mono ?_
             rintro e w25 ⟨rfl, hb⟩
             refine ⟨_, rfl, ?_⟩
             have n0_ := am (blk_below (g := gb128) (o := zo4 (rd_T30 l0 x10_1)) u4_2 hb)
             have n1_ := am (below_step u4_1 hb)
             clear BK128 HB
             have BK128 := n0_
             have HB := n1_
             clear n0_ n1_
             (try clear hb)
             (try clear hb2)
             (try clear hk)
             (try clear hi)
             refine hK.out _ _ ⟨(blk_cell BK128.out 0).trans rfl, (blk_cell BK128.out 1).trans rfl, (blk_cell BK128.out 2).trans rfl, (blk_cell BK128.out 3).trans rfl, (blk_cell BK128.out 4).trans rfl, (blk_cell BK128.out 5).trans rfl, (blk_cell BK128.out 6).trans rfl, (blk_cell BK128.out 7).trans rfl, (bc HB.out hw130_0), (bc HB.out hw130_1), (bc HB.out hw130_2), (bc HB.out hw130_3), (bc HB.out hw130_4), (bc HB.out hw130_5), (bc HB.out hw130_6), (bc HB.out hw130_7)⟩ (fun hHeld => ?_)
             clear hK K
             refine norm_ (a' := ?_) ?_ ?_
             rotate_left
             ·show Act.put _ (some 16) _ = _
              simp only [Act.put, List.setIfInBounds_toArray, List.set_cons_zero, List.set_cons_succ, i64_w, i32_w]
              rfl
             refine pz 2 17 mk4_3 (any_of HT_.out (by kernel_rfl)) ?_
             refine pz 3 18 mk4_4 (any_of HT_.out (by kernel_rfl)) ?_
             refine pz 4 19 mk4_5 (any_of HT_.out (by kernel_rfl)) ?_
             refine pz 5 20 mk4_6 (any_of HT_.out (by kernel_rfl)) ?_
             refine pz 6 21 mk4_7 (any_of HT_.out (by kernel_rfl)) ?_
             refine pz 7 22 mk4_8 (any_of HT_.out (by kernel_rfl)) ?_
             refine pz 9 24 mk4_9 (any_of HT_.out (by kernel_rfl)) ?_
             refine pz 10 25 mk4_10 (any_of HT_.out (by kernel_rfl)) ?_
             refine pz 11 26 mk4_11 (any_of HT_.out (by kernel_rfl)) ?_
             refine pz 12 27 mk4_12 (any_of HT_.out (by kernel_rfl)) ?_
             refine pz 13 28 mk4_13 (any_of HT_.out (by kernel_rfl)) ?_
             refine take_ (i := 8) (N := some 23) (v := ?_) (a' := ?_) mk4_19 rfl rfl (take_ofW HT_.out HW_.out (by kernel_rfl)) (fun _ _ _ h => h) (Or.inl ⟨by rfl, ?_⟩) hHeld ?_ ?_
             rotate_left
             ·rintro w' ⟨s0, s1, s2, s3, s4, s5, s6, s7, s8, s9, s10, s11, s12, s13, s14, s15⟩
              exact gs
             rotate_left
             ·exact ap
             refine take_ (i := 14) (N := some 29) (v := ?_) (a' := ?_) mk4_20 rfl rfl (take_ofW HT_.out HW_.out (by kernel_rfl)) (fun _ _ _ h => h) (Or.inl ⟨by rfl, ?_⟩) hHeld ?_ ?_
             rotate_left
             ·rintro w' ⟨s0, s1, s2, s3, s4, s5, s6, s7, s8, s9, s10, s11, s12, s13, s14, s15⟩
              exact gs
             rotate_left
             ·exact ap
             refine pz 15 30 mk4_21 (any_of HT_.out (by kernel_rfl)) ?_
             refine pz 16 31 mk4_22 (any_of HT_.out (by kernel_rfl)) ?_
             refine pz 17 32 mk4_23 (any_of HT_.out (by kernel_rfl)) ?_
             refine pz 18 33 mk4_24 (any_of HT_.out (by kernel_rfl)) ?_
             refine pz 19 34 mk4_25 (any_of HT_.out (by kernel_rfl)) ?_
             refine take_ (i := 20) (N := some 35) (v := ?_) (a' := ?_) mk4_26 rfl rfl (take_ofW HT_.out HW_.out (by kernel_rfl)) (fun _ _ _ h => h) (Or.inl ⟨by rfl, ?_⟩) hHeld ?_ ?_
             rotate_left
             ·rintro w' ⟨s0, s1, s2, s3, s4, s5, s6, s7, s8, s9, s10, s11, s12, s13, s14, s15⟩
              exact gs
             rotate_left
             ·exact ap
             refine one_ (i := 21) (N := some 36) mk4_27 rfl rfl (one_of HT_.out (by kernel_rfl)) (by decide) (fun K hK => ?_)
             refine goes_ Try.func65 (by kernel_rfl) rfl #[.slice (some ad127) l0.length c0, .agg #[.string ((rd_T30 l0 x10_1).f0), .int .i64 ((rd_T30 l0 x10_1).f1), .string ((rd_T30 l0 x10_1).f2), .int .i64 ((rd_T30 l0 x10_1).f3.f0), .int .i64 ((rd_T30 l0 x10_1).f3.f1), .int .i64 ((rd_T30 l0 x10_1).f4), .int .i64 ((rd_T30 l0 x10_1).f5), .int .i64 ((rd_T30 l0 x10_1).f6)]] (by rfl) rfl rfl u4_3 ?_
             with_reducible refine (impl_isHung.calls k1 _ _ l0 ((rd_T30 l0 x10_1).f0) ((rd_T30 l0 x10_1).f1) ((rd_T30 l0 x10_1).f2) ((rd_T30 l0 x10_1).f3.f0) ((rd_T30 l0 x10_1).f3.f1) ((rd_T30 l0 x10_1).f4) ((rd_T30 l0 x10_1).f5) ((rd_T30 l0 x10_1).f6) false _ ?side1 ?side2 A13.out).mono ?_
             (case side1 => exact s4_0)
             (case side2 => exact HC0.out)
             rintro e w26 ⟨rfl, hb⟩
             refine ⟨_, rfl, ?_⟩
             have n0_ := am (blk_below (g := gb128) (o := zo4 (rd_T30 l0 x10_1)) u4_2 hb)
             have n1_ := am (below_step u4_1 hb)
             clear BK128 HB
             have BK128 := n0_
             have HB := n1_
             clear n0_ n1_
             (try clear hb)
             (try clear hb2)
             (try clear hk)
             (try clear hi)
             refine hK.out _ _ ⟨(blk_cell BK128.out 0).trans rfl, (blk_cell BK128.out 1).trans rfl, (blk_cell BK128.out 2).trans rfl, (blk_cell BK128.out 3).trans rfl, (blk_cell BK128.out 4).trans rfl, (blk_cell BK128.out 5).trans rfl, (blk_cell BK128.out 6).trans rfl, (blk_cell BK128.out 7).trans rfl, (bc HB.out hw130_0), (bc HB.out hw130_1), (bc HB.out hw130_2), (bc HB.out hw130_3), (bc HB.out hw130_4), (bc HB.out hw130_5), (bc HB.out hw130_6), (bc HB.out hw130_7)⟩ (fun hHeld => ?_)
             clear hK K
             refine norm_ (a' := ?_) ?_ ?_
             rotate_left
             ·show Act.put _ (some 36) _ = _
              simp only [Act.put, List.setIfInBounds_toArray, List.set_cons_zero, List.set_cons_succ, i64_w, i32_w]
              rfl
             refine pz 22 37 mk4_28 (any_of HT_.out (by kernel_rfl)) ?_
             refine pz 23 38 mk4_29 (any_of HT_.out (by kernel_rfl)) ?_
             refine done_ (done_of HT_.out (by kernel_rfl)) ?_
             try go_wp2
             go_ret
             exact ⟨by first | rfl | (simp [errW_none, errW_some] <;> rfl) | (simp only [← hji9]; first | rfl | (simp [errW_none, errW_some] <;> rfl)) | (simp [*, errW_none, errW_some] <;> rfl), s4_1⟩
           ·rw [if_neg c12] at H
            have c12b0 : (Op.bytesLess (((rd_T30 l0 (ji9)).f0).toList) (((rd_T30 l0 x10_1).f0).toList)) = false := by simpa using c12
            have c12e : (Op.bytesLess (((rd_T30 l0 x10_1).f0).toList) (((rd_T30 l0 (ji9)).f0).toList) || (((rd_T30 l0 x10_1).f0).toList) == (((rd_T30 l0 (ji9)).f0).toList)) = true := blT_leT c12b0
            clear c12
            obtain rfl := Option.some.inj H
            have p127 : 0 ≤ (x10_1 : Int) := od (by assumption)
            have q127 : x10_1 < (l0.length : Int) := od (by assumption)
            obtain ⟨ad127, e127, hx127_0, hx127_1, hx127_2, hx127_3, hx127_4, hx127_5, hx127_6, hx127_7⟩ := at_T30 (Kd.C_below HR0.out HB.out) x10_1 p127 q127
            cases e127
            replace p127 := eq_true p127
            replace q127 := eq_true q127
            try go_wp2_with (first | ((with_reducible refine gate_dst (N := 4) rfl ?_); refine box_event ?hg (N := 4) ?hd (cs := #[.string (⟨#[]⟩ : ByteArray), .int .i64 0, .string (⟨#[]⟩ : ByteArray), .int .i64 0, .int .i64 0, .int .i64 0, .int .i64 0, .int .i64 0]) (t := 30) ?hr ?_; (case hd => rfl); (case hg => rfl); (case hr => exact gq); intro gb128 hg w27 hbox hb; have n0_ := am (below_step u4_0 hb); have n1_ := am (hbox); have n2_ := bsw w hg (below_size u4_0); have n3_ := bsw w hg (below_size u4_0); clear HB; have HB := n0_; have BK128 := n1_; have GW128 := n2_; have GE128 := n3_; clear n0_ n1_ n2_ n3_ hb hbox hg; obtain ⟨hcz28_0, hcz28_1, hcz28_2, hcz28_3, hcz28_4, hcz28_5, hcz28_6, hcz28_7, hfz28_0, hfz28_1, hfz28_2, hfz28_3, hfz28_4, hfz28_5, hfz28_6, hfz28_7⟩ := cf8 BK128.out))
            have n0_ : Aside0 (((((((((w27.setCell ⟨gb128, 0, none⟩ (.string ((rd_T30 l0 x10_1).f0))).setCell ⟨gb128, 1, none⟩ (.int .i64 ((rd_T30 l0 x10_1).f1))).setCell ⟨gb128, 2, none⟩ (.string ((rd_T30 l0 x10_1).f2))).setCell ⟨gb128, 3, none⟩ (.int .i64 ((rd_T30 l0 x10_1).f3.f0))).setCell ⟨gb128, 4, none⟩ (.int .i64 ((rd_T30 l0 x10_1).f3.f1))).setCell ⟨gb128, 5, none⟩ (.int .i64 ((rd_T30 l0 x10_1).f4))).setCell ⟨gb128, 6, none⟩ (.int .i64 ((rd_T30 l0 x10_1).f5))).setCell ⟨gb128, 7, none⟩ (.int .i64 ((rd_T30 l0 x10_1).f6))).heap[gb128]? = some (.cells #[.string ((rd_T30 l0 x10_1).f0), .int .i64 ((rd_T30 l0 x10_1).f1), .string ((rd_T30 l0 x10_1).f2), .int .i64 ((rd_T30 l0 x10_1).f3.f0), .int .i64 ((rd_T30 l0 x10_1).f3.f1), .int .i64 ((rd_T30 l0 x10_1).f4), .int .i64 ((rd_T30 l0 x10_1).f5), .int .i64 ((rd_T30 l0 x10_1).f6)] 30 (0, 0))) := ⟨by (with_reducible repeat (first | refine blk_drewN ?_ _ | refine blk_drew ?_ | refine blk_alloc ?_ _)); refine blk_put (cs := zr5 ((rd_T30 l0 x10_1).f0) ((rd_T30 l0 x10_1).f1) ((rd_T30 l0 x10_1).f2) ((rd_T30 l0 x10_1).f3.f0) ((rd_T30 l0 x10_1).f3.f1) ((rd_T30 l0 x10_1).f4) ((rd_T30 l0 x10_1).f5) 0) ?_ 7 _ rfl; refine blk_put (cs := zr5 ((rd_T30 l0 x10_1).f0) ((rd_T30 l0 x10_1).f1) ((rd_T30 l0 x10_1).f2) ((rd_T30 l0 x10_1).f3.f0) ((rd_T30 l0 x10_1).f3.f1) ((rd_T30 l0 x10_1).f4) 0 0) ?_ 6 _ rfl; refine blk_put (cs := zr5 ((rd_T30 l0 x10_1).f0) ((rd_T30 l0 x10_1).f1) ((rd_T30 l0 x10_1).f2) ((rd_T30 l0 x10_1).f3.f0) ((rd_T30 l0 x10_1).f3.f1) 0 0 0) ?_ 5 _ rfl; refine blk_put (cs := zr5 ((rd_T30 l0 x10_1).f0) ((rd_T30 l0 x10_1).f1) ((rd_T30 l0 x10_1).f2) ((rd_T30 l0 x10_1).f3.f0) 0 0 0 0) ?_ 4 _ rfl; refine blk_put (cs := zr5 ((rd_T30 l0 x10_1).f0) ((rd_T30 l0 x10_1).f1) ((rd_T30 l0 x10_1).f2) 0 0 0 0 0) ?_ 3 _ rfl; refine blk_put (cs := zr5 ((rd_T30 l0 x10_1).f0) ((rd_T30 l0 x10_1).f1) (⟨#[]⟩ : ByteArray) 0 0 0 0 0) ?_ 2 _ rfl; (with_reducible repeat (first | refine blk_drewN ?_ _ | refine blk_drew ?_ | refine blk_alloc ?_ _)); refine blk_put (cs := zr5 ((rd_T30 l0 x10_1).f0) 0 (⟨#[]⟩ : ByteArray) 0 0 0 0 0) ?_ 1 _ rfl; (with_reducible repeat (first | refine blk_drewN ?_ _ | refine blk_drew ?_ | refine blk_alloc ?_ _)); refine blk_put (cs := zr5 (⟨#[]⟩ : ByteArray) 0 (⟨#[]⟩ : ByteArray) 0 0 0 0 0) ?_ 0 _ rfl; (with_reducible repeat (first | refine blk_drewN ?_ _ | refine blk_drew ?_ | refine blk_alloc ?_ _)); exact BK128.out⟩
            have n1_ : Aside0 (Below w.heap.size w ((((((((w27.setCell ⟨gb128, 0, none⟩ (.string ((rd_T30 l0 x10_1).f0))).setCell ⟨gb128, 1, none⟩ (.int .i64 ((rd_T30 l0 x10_1).f1))).setCell ⟨gb128, 2, none⟩ (.string ((rd_T30 l0 x10_1).f2))).setCell ⟨gb128, 3, none⟩ (.int .i64 ((rd_T30 l0 x10_1).f3.f0))).setCell ⟨gb128, 4, none⟩ (.int .i64 ((rd_T30 l0 x10_1).f3.f1))).setCell ⟨gb128, 5, none⟩ (.int .i64 ((rd_T30 l0 x10_1).f4))).setCell ⟨gb128, 6, none⟩ (.int .i64 ((rd_T30 l0 x10_1).f5))).setCell ⟨gb128, 7, none⟩ (.int .i64 ((rd_T30 l0 x10_1).f6)))) := ⟨s4_1⟩
            (try clear BK128)
            (try clear HB)
            (try simp only [show ∀ (w_ : World) (n_ : Nat) (a_ : Addr) (v_ : Value), (w_.drewN n_).setCell a_ v_ = (w_.setCell a_ v_).drewN n_ from fun _ _ _ _ => rfl, show ∀ (w_ : World) (a_ : Addr) (v_ : Value), w_.drew.setCell a_ v_ = (w_.setCell a_ v_).drew from fun _ _ _ => rfl])
            generalize ((((((((w27.setCell ⟨gb128, 0, none⟩ (.string ((rd_T30 l0 x10_1).f0))).setCell ⟨gb128, 1, none⟩ (.int .i64 ((rd_T30 l0 x10_1).f1))).setCell ⟨gb128, 2, none⟩ (.string ((rd_T30 l0 x10_1).f2))).setCell ⟨gb128, 3, none⟩ (.int .i64 ((rd_T30 l0 x10_1).f3.f0))).setCell ⟨gb128, 4, none⟩ (.int .i64 ((rd_T30 l0 x10_1).f3.f1))).setCell ⟨gb128, 5, none⟩ (.int .i64 ((rd_T30 l0 x10_1).f4))).setCell ⟨gb128, 6, none⟩ (.int .i64 ((rd_T30 l0 x10_1).f5))).setCell ⟨gb128, 7, none⟩ (.int .i64 ((rd_T30 l0 x10_1).f6))) = w29 at n0_ n1_ ⊢
            have BK128 := n0_
            have HB := n1_
            clear n0_ n1_
            have n0_ := am (blk_drew BK128.out)
            have n1_ := am (below_drew1 HB.out)
            clear BK128 HB
            have BK128 := n0_
            have HB := n1_
            clear n0_ n1_
            have p130 : 0 ≤ ((ji9) : Int) := od (by assumption)
            have q130 : (ji9) < (l0.length : Int) := od (by assumption)
            obtain ⟨ad130, e130, hx130_0, hx130_1, hx130_2, hx130_3, hx130_4, hx130_5, hx130_6, hx130_7⟩ := at_T30 HR0.out (ji9) p130 q130
            have hw130_7 := hx130_7
            have hw130_6 := hx130_6
            have hw130_5 := hx130_5
            have hw130_4 := hx130_4
            have hw130_3 := hx130_3
            have hw130_2 := hx130_2
            have hw130_1 := hx130_1
            have hw130_0 := hx130_0
            obtain rfl : ad127 = ad130 := (by injection e130)
            replace hx130_0 := bc HB.out hx130_0
            replace hx130_1 := bc HB.out hx130_1
            replace hx130_2 := bc HB.out hx130_2
            replace hx130_3 := bc HB.out hx130_3
            replace hx130_4 := bc HB.out hx130_4
            replace hx130_5 := bc HB.out hx130_5
            replace hx130_6 := bc HB.out hx130_6
            replace hx130_7 := bc HB.out hx130_7
            replace p130 := eq_true p130
            replace q130 := eq_true q130
            refine start_ (n := 24) (S := fun w' => zc1 w' gb128 (rd_T30 l0 x10_1) (zc2 w' (ad127.add (((ji9)).toNat * 8)) (rd_T30 l0 (ji9)))) (ds := []) mk4_0 (by kernel_rfl) rfl rfl ⟨(blk_cell BK128.out 0).trans rfl, (blk_cell BK128.out 1).trans rfl, (blk_cell BK128.out 2).trans rfl, (blk_cell BK128.out 3).trans rfl, (blk_cell BK128.out 4).trans rfl, (blk_cell BK128.out 5).trans rfl, (blk_cell BK128.out 6).trans rfl, (blk_cell BK128.out 7).trans rfl, (bc HB.out hw130_0), (bc HB.out hw130_1), (bc HB.out hw130_2), (bc HB.out hw130_3), (bc HB.out hw130_4), (bc HB.out hw130_5), (bc HB.out hw130_6), (bc HB.out hw130_7)⟩ (fun hHeld => ?_); refine with_tabW impl_IsRig.tab6 impl_IsRig.bits6 (fun HT_ HW_ => ?_)
            generalize w29.drew = w30 at BK128 HB hx130_0 hx130_1 hx130_2 hx130_3 hx130_4 hx130_5 hx130_6 hx130_7 hHeld ⊢
            refine take_ (i := 0) (N := some 15) (v := ?_) (a' := ?_) mk4_1 rfl rfl (take_ofW HT_.out HW_.out (by kernel_rfl)) (fun _ _ _ h => h) (Or.inl ⟨by rfl, ?_⟩) hHeld ?_ ?_
            rotate_left
            ·rintro w' ⟨s0, s1, s2, s3, s4, s5, s6, s7, s8, s9, s10, s11, s12, s13, s14, s15⟩
             exact gs
            rotate_left
            ·exact ap
            refine one_ (i := 1) (N := some 16) mk4_2 rfl rfl (one_of HT_.out (by kernel_rfl)) (by decide) (fun K hK => ?_)
            refine goes_ Try.func18 (by kernel_rfl) rfl #[.agg #[.string ((rd_T30 l0 x10_1).f0), .int .i64 ((rd_T30 l0 x10_1).f1), .string ((rd_T30 l0 x10_1).f2), .int .i64 ((rd_T30 l0 x10_1).f3.f0), .int .i64 ((rd_T30 l0 x10_1).f3.f1), .int .i64 ((rd_T30 l0 x10_1).f4), .int .i64 ((rd_T30 l0 x10_1).f5), .int .i64 ((rd_T30 l0 x10_1).f6)]] (by rfl) rfl rfl u4_3 ?_
            with_reducible refine (impl_IsDevice.calls k1 ((rd_T30 l0 x10_1).f0) ((rd_T30 l0 x10_1).f1) ((rd_T30 l0 x10_1).f2) ((rd_T30 l0 x10_1).f3.f0) ((rd_T30 l0 x10_1).f3.f1) ((rd_T30 l0 x10_1).f4) ((rd_T30 l0 x10_1).f5) ((rd_T30 l0 x10_1).f6) true _ A6.out).mono ?_
            rintro e w31 ⟨rfl, hb⟩
            refine ⟨_, rfl, ?_⟩
            have n0_ := am (blk_below (g := gb128) (o := zo4 (rd_T30 l0 x10_1)) u4_2 hb)
            have n1_ := am (below_step u4_1 hb)
            clear BK128 HB
            have BK128 := n0_
            have HB := n1_
            clear n0_ n1_
            (try clear hb)
            (try clear hb2)
            (try clear hk)
            (try clear hi)
            refine hK.out _ _ ⟨(blk_cell BK128.out 0).trans rfl, (blk_cell BK128.out 1).trans rfl, (blk_cell BK128.out 2).trans rfl, (blk_cell BK128.out 3).trans rfl, (blk_cell BK128.out 4).trans rfl, (blk_cell BK128.out 5).trans rfl, (blk_cell BK128.out 6).trans rfl, (blk_cell BK128.out 7).trans rfl, (bc HB.out hw130_0), (bc HB.out hw130_1), (bc HB.out hw130_2), (bc HB.out hw130_3), (bc HB.out hw130_4), (bc HB.out hw130_5), (bc HB.out hw130_6), (bc HB.out hw130_7)⟩ (fun hHeld => ?_)
            clear hK K
            refine norm_ (a' := ?_) ?_ ?_
            rotate_left
            ·show Act.put _ (some 16) _ = _
             simp only [Act.put, List.setIfInBounds_toArray, List.set_cons_zero, List.set_cons_succ, i64_w, i32_w]
             rfl
            refine pz 2 17 mk4_3 (any_of HT_.out (by kernel_rfl)) ?_
            refine pz 3 18 mk4_4 (any_of HT_.out (by kernel_rfl)) ?_
            refine pz 4 19 mk4_5 (any_of HT_.out (by kernel_rfl)) ?_
            refine pz 5 20 mk4_6 (any_of HT_.out (by kernel_rfl)) ?_
            refine pz 6 21 mk4_7 (any_of HT_.out (by kernel_rfl)) ?_
            refine pz 7 22 mk4_8 (any_of HT_.out (by kernel_rfl)) ?_
            refine pz 9 24 mk4_9 (any_of HT_.out (by kernel_rfl)) ?_
            refine pz 10 25 mk4_10 (any_of HT_.out (by kernel_rfl)) ?_
            refine pz 11 26 mk4_11 (any_of HT_.out (by kernel_rfl)) ?_
            refine pz 12 27 mk4_12 (any_of HT_.out (by kernel_rfl)) ?_
            refine pz 13 28 mk4_13 (any_of HT_.out (by kernel_rfl)) ?_
            refine take_ (i := 8) (N := some 23) (v := ?_) (a' := ?_) mk4_19 rfl rfl (take_ofW HT_.out HW_.out (by kernel_rfl)) (fun _ _ _ h => h) (Or.inl ⟨by rfl, ?_⟩) hHeld ?_ ?_
            rotate_left
            ·rintro w' ⟨s0, s1, s2, s3, s4, s5, s6, s7, s8, s9, s10, s11, s12, s13, s14, s15⟩
             exact gs
            rotate_left
            ·exact ap
            refine take_ (i := 14) (N := some 29) (v := ?_) (a' := ?_) mk4_20 rfl rfl (take_ofW HT_.out HW_.out (by kernel_rfl)) (fun _ _ _ h => h) (Or.inl ⟨by rfl, ?_⟩) hHeld ?_ ?_
            rotate_left
            ·rintro w' ⟨s0, s1, s2, s3, s4, s5, s6, s7, s8, s9, s10, s11, s12, s13, s14, s15⟩
             exact gs
            rotate_left
            ·exact ap
            refine pz 15 30 mk4_21 (any_of HT_.out (by kernel_rfl)) ?_
            refine pz 16 31 mk4_22 (any_of HT_.out (by kernel_rfl)) ?_
            refine pz 17 32 mk4_23 (any_of HT_.out (by kernel_rfl)) ?_
            refine pz 18 33 mk4_24 (any_of HT_.out (by kernel_rfl)) ?_
            refine pure_ (i := 19) (N := some 34) (v := undef) (a' := ?_) mk4_25 rfl rfl (any_of HT_.out (by kernel_rfl)) (fun _ _ _ h => h) (Or.inr ⟨by rfl, rfl⟩) ?_ ?_
            rotate_left
            ·exact ap
            refine pure_ (i := 20) (N := some 35) (v := undef) (a' := ?_) mk4_26 rfl rfl (any_of HT_.out (by kernel_rfl)) (fun _ _ _ h => h) (Or.inr ⟨by rfl, rfl⟩) ?_ ?_
            rotate_left
            ·exact ap
            refine pure_ (i := 21) (N := some 36) (v := undef) (a' := ?_) mk4_27 rfl rfl (any_of HT_.out (by kernel_rfl)) (fun _ _ _ h => h) (Or.inr ⟨by rfl, rfl⟩) ?_ ?_
            rotate_left
            ·exact ap
            refine pure_ (i := 22) (N := some 37) (v := undef) (a' := ?_) mk4_28 rfl rfl (any_of HT_.out (by kernel_rfl)) (fun _ _ _ h => h) (Or.inr ⟨by rfl, rfl⟩) ?_ ?_
            rotate_left
            ·exact ap
            refine pz 23 38 mk4_29 (any_of HT_.out (by kernel_rfl)) ?_
            refine done_ (done_of HT_.out (by kernel_rfl)) ?_
            try go_wp2
            go_ret
            exact ⟨by first | rfl | (simp [errW_none, errW_some] <;> rfl) | (simp only [← hji9]; first | rfl | (simp [errW_none, errW_some] <;> rfl)) | (simp [*, errW_none, errW_some] <;> rfl), s4_1⟩
          ·rw [if_neg c11] at H
           exact absurd H (by simp)
         ·rw [if_neg c10] at H
          exact absurd H (by simp)
        ·rw [if_neg c8] at H
         have c8b0 : decide (0 < x10_1) = false := decide_eq_false c8
         clear c8
         replace H := Option.bind_eq_some_iff.mp H
         obtain ⟨t132, A320, H⟩ := H
         replace H : (if t132 = true then (impl_IsRig.l0 k1 l0 l0 (l0.length : Int) (wrap64 (x10_1 + 1))) else (some false)) = some r := H
         have A32 := am A320
         clear A320
         by_cases c33 : t132 = true
         ·subst c33
          have H1 : (impl_IsRig.l0 k1 l0 l0 (l0.length : Int) (wrap64 (x10_1 + 1))) = some r := by rw [if_pos rfl] at H; exact H
          clear H
          have H := H1
          clear H1
          have H' := am H
          clear H
          have p127 : 0 ≤ (x10_1 : Int) := od (by assumption)
          have q127 : x10_1 < (l0.length : Int) := od (by assumption)
          obtain ⟨ad127, e127, hx127_0, hx127_1, hx127_2, hx127_3, hx127_4, hx127_5, hx127_6, hx127_7⟩ := at_T30 (Kd.C_below HR0.out HB.out) x10_1 p127 q127
          cases e127
          replace p127 := eq_true p127
          replace q127 := eq_true q127
          try go_wp2_with (first | ((with_reducible refine gate_dst (N := 4) rfl ?_); refine box_event ?hg (N := 4) ?hd (cs := #[.string (⟨#[]⟩ : ByteArray), .int .i64 0, .string (⟨#[]⟩ : ByteArray), .int .i64 0, .int .i64 0, .int .i64 0, .int .i64 0, .int .i64 0]) (t := 30) ?hr ?_; (case hd => rfl); (case hg => rfl); (case hr => exact gq); intro gb128 hg w34 hbox hb; have n0_ := am (below_step u4_0 hb); have n1_ := am (hbox); have n2_ := bsw w hg (below_size u4_0); have n3_ := bsw w hg (below_size u4_0); clear HB; have HB := n0_; have BK128 := n1_; have GW128 := n2_; have GE128 := n3_; clear n0_ n1_ n2_ n3_ hb hbox hg; obtain ⟨hcz35_0, hcz35_1, hcz35_2, hcz35_3, hcz35_4, hcz35_5, hcz35_6, hcz35_7, hfz35_0, hfz35_1, hfz35_2, hfz35_3, hfz35_4, hfz35_5, hfz35_6, hfz35_7⟩ := cf8 BK128.out))
          have n0_ : Aside0 (((((((((w34.setCell ⟨gb128, 0, none⟩ (.string ((rd_T30 l0 x10_1).f0))).setCell ⟨gb128, 1, none⟩ (.int .i64 ((rd_T30 l0 x10_1).f1))).setCell ⟨gb128, 2, none⟩ (.string ((rd_T30 l0 x10_1).f2))).setCell ⟨gb128, 3, none⟩ (.int .i64 ((rd_T30 l0 x10_1).f3.f0))).setCell ⟨gb128, 4, none⟩ (.int .i64 ((rd_T30 l0 x10_1).f3.f1))).setCell ⟨gb128, 5, none⟩ (.int .i64 ((rd_T30 l0 x10_1).f4))).setCell ⟨gb128, 6, none⟩ (.int .i64 ((rd_T30 l0 x10_1).f5))).setCell ⟨gb128, 7, none⟩ (.int .i64 ((rd_T30 l0 x10_1).f6))).heap[gb128]? = some (.cells #[.string ((rd_T30 l0 x10_1).f0), .int .i64 ((rd_T30 l0 x10_1).f1), .string ((rd_T30 l0 x10_1).f2), .int .i64 ((rd_T30 l0 x10_1).f3.f0), .int .i64 ((rd_T30 l0 x10_1).f3.f1), .int .i64 ((rd_T30 l0 x10_1).f4), .int .i64 ((rd_T30 l0 x10_1).f5), .int .i64 ((rd_T30 l0 x10_1).f6)] 30 (0, 0))) := ⟨by (with_reducible repeat (first | refine blk_drewN ?_ _ | refine blk_drew ?_ | refine blk_alloc ?_ _)); refine blk_put (cs := zr5 ((rd_T30 l0 x10_1).f0) ((rd_T30 l0 x10_1).f1) ((rd_T30 l0 x10_1).f2) ((rd_T30 l0 x10_1).f3.f0) ((rd_T30 l0 x10_1).f3.f1) ((rd_T30 l0 x10_1).f4) ((rd_T30 l0 x10_1).f5) 0) ?_ 7 _ rfl; refine blk_put (cs := zr5 ((rd_T30 l0 x10_1).f0) ((rd_T30 l0 x10_1).f1) ((rd_T30 l0 x10_1).f2) ((rd_T30 l0 x10_1).f3.f0) ((rd_T30 l0 x10_1).f3.f1) ((rd_T30 l0 x10_1).f4) 0 0) ?_ 6 _ rfl; refine blk_put (cs := zr5 ((rd_T30 l0 x10_1).f0) ((rd_T30 l0 x10_1).f1) ((rd_T30 l0 x10_1).f2) ((rd_T30 l0 x10_1).f3.f0) ((rd_T30 l0 x10_1).f3.f1) 0 0 0) ?_ 5 _ rfl; refine blk_put (cs := zr5 ((rd_T30 l0 x10_1).f0) ((rd_T30 l0 x10_1).f1) ((rd_T30 l0 x10_1).f2) ((rd_T30 l0 x10_1).f3.f0) 0 0 0 0) ?_ 4 _ rfl; refine blk_put (cs := zr5 ((rd_T30 l0 x10_1).f0) ((rd_T30 l0 x10_1).f1) ((rd_T30 l0 x10_1).f2) 0 0 0 0 0) ?_ 3 _ rfl; refine blk_put (cs := zr5 ((rd_T30 l0 x10_1).f0) ((rd_T30 l0 x10_1).f1) (⟨#[]⟩ : ByteArray) 0 0 0 0 0) ?_ 2 _ rfl; (with_reducible repeat (first | refine blk_drewN ?_ _ | refine blk_drew ?_ | refine blk_alloc ?_ _)); refine blk_put (cs := zr5 ((rd_T30 l0 x10_1).f0) 0 (⟨#[]⟩ : ByteArray) 0 0 0 0 0) ?_ 1 _ rfl; (with_reducible repeat (first | refine blk_drewN ?_ _ | refine blk_drew ?_ | refine blk_alloc ?_ _)); refine blk_put (cs := zr5 (⟨#[]⟩ : ByteArray) 0 (⟨#[]⟩ : ByteArray) 0 0 0 0 0) ?_ 0 _ rfl; (with_reducible repeat (first | refine blk_drewN ?_ _ | refine blk_drew ?_ | refine blk_alloc ?_ _)); exact BK128.out⟩
          have n1_ : Aside0 (Below w.heap.size w ((((((((w34.setCell ⟨gb128, 0, none⟩ (.string ((rd_T30 l0 x10_1).f0))).setCell ⟨gb128, 1, none⟩ (.int .i64 ((rd_T30 l0 x10_1).f1))).setCell ⟨gb128, 2, none⟩ (.string ((rd_T30 l0 x10_1).f2))).setCell ⟨gb128, 3, none⟩ (.int .i64 ((rd_T30 l0 x10_1).f3.f0))).setCell ⟨gb128, 4, none⟩ (.int .i64 ((rd_T30 l0 x10_1).f3.f1))).setCell ⟨gb128, 5, none⟩ (.int .i64 ((rd_T30 l0 x10_1).f4))).setCell ⟨gb128, 6, none⟩ (.int .i64 ((rd_T30 l0 x10_1).f5))).setCell ⟨gb128, 7, none⟩ (.int .i64 ((rd_T30 l0 x10_1).f6)))) := ⟨s4_1⟩
          (try clear BK128)
          (try clear HB)
          (try simp only [show ∀ (w_ : World) (n_ : Nat) (a_ : Addr) (v_ : Value), (w_.drewN n_).setCell a_ v_ = (w_.setCell a_ v_).drewN n_ from fun _ _ _ _ => rfl, show ∀ (w_ : World) (a_ : Addr) (v_ : Value), w_.drew.setCell a_ v_ = (w_.setCell a_ v_).drew from fun _ _ _ => rfl])
          generalize ((((((((w34.setCell ⟨gb128, 0, none⟩ (.string ((rd_T30 l0 x10_1).f0))).setCell ⟨gb128, 1, none⟩ (.int .i64 ((rd_T30 l0 x10_1).f1))).setCell ⟨gb128, 2, none⟩ (.string ((rd_T30 l0 x10_1).f2))).setCell ⟨gb128, 3, none⟩ (.int .i64 ((rd_T30 l0 x10_1).f3.f0))).setCell ⟨gb128, 4, none⟩ (.int .i64 ((rd_T30 l0 x10_1).f3.f1))).setCell ⟨gb128, 5, none⟩ (.int .i64 ((rd_T30 l0 x10_1).f4))).setCell ⟨gb128, 6, none⟩ (.int .i64 ((rd_T30 l0 x10_1).f5))).setCell ⟨gb128, 7, none⟩ (.int .i64 ((rd_T30 l0 x10_1).f6))) = w36 at n0_ n1_ ⊢
          have BK128 := n0_
          have HB := n1_
          clear n0_ n1_
          have n0_ := am (blk_drew BK128.out)
          have n1_ := am (below_drew1 HB.out)
          clear BK128 HB
          have BK128 := n0_
          have HB := n1_
          clear n0_ n1_
          refine start_ (n := 24) (S := fun w' => zc3 w' gb128 (rd_T30 l0 x10_1)) (ds := []) mk4_0 (by kernel_rfl) rfl rfl ⟨(blk_cell BK128.out 0).trans rfl, (blk_cell BK128.out 1).trans rfl, (blk_cell BK128.out 2).trans rfl, (blk_cell BK128.out 3).trans rfl, (blk_cell BK128.out 4).trans rfl, (blk_cell BK128.out 5).trans rfl, (blk_cell BK128.out 6).trans rfl, (blk_cell BK128.out 7).trans rfl⟩ (fun hHeld => ?_); refine with_tabW impl_IsRig.tab6 impl_IsRig.bits6 (fun HT_ HW_ => ?_)
          generalize w36.drew = w37 at BK128 HB hHeld ⊢
          refine take_ (i := 0) (N := some 15) (v := ?_) (a' := ?_) mk4_1 rfl rfl (take_ofW HT_.out HW_.out (by kernel_rfl)) (fun _ _ _ h => h) (Or.inl ⟨by rfl, ?_⟩) hHeld ?_ ?_
          rotate_left
          ·rintro w' ⟨s0, s1, s2, s3, s4, s5, s6, s7⟩
           exact gs
          rotate_left
          ·exact ap
          refine one_ (i := 1) (N := some 16) mk4_2 rfl rfl (one_of HT_.out (by kernel_rfl)) (by decide) (fun K hK => ?_)
          refine goes_ Try.func18 (by kernel_rfl) rfl #[.agg #[.string ((rd_T30 l0 x10_1).f0), .int .i64 ((rd_T30 l0 x10_1).f1), .string ((rd_T30 l0 x10_1).f2), .int .i64 ((rd_T30 l0 x10_1).f3.f0), .int .i64 ((rd_T30 l0 x10_1).f3.f1), .int .i64 ((rd_T30 l0 x10_1).f4), .int .i64 ((rd_T30 l0 x10_1).f5), .int .i64 ((rd_T30 l0 x10_1).f6)]] (by rfl) rfl rfl u4_3 ?_
          with_reducible refine (impl_IsDevice.calls k1 ((rd_T30 l0 x10_1).f0) ((rd_T30 l0 x10_1).f1) ((rd_T30 l0 x10_1).f2) ((rd_T30 l0 x10_1).f3.f0) ((rd_T30 l0 x10_1).f3.f1) ((rd_T30 l0 x10_1).f4) ((rd_T30 l0 x10_1).f5) ((rd_T30 l0 x10_1).f6) true _ A6.out).mono ?_
          rintro e w38 ⟨rfl, hb⟩
          refine ⟨_, rfl, ?_⟩
          have n0_ := am (blk_below (g := gb128) (o := zo4 (rd_T30 l0 x10_1)) u4_2 hb)
          have n1_ := am (below_step u4_1 hb)
          clear BK128 HB
          have BK128 := n0_
          have HB := n1_
          clear n0_ n1_
          (try clear hb)
          (try clear hb2)
          (try clear hk)
          (try clear hi)
          refine hK.out _ _ ⟨(blk_cell BK128.out 0).trans rfl, (blk_cell BK128.out 1).trans rfl, (blk_cell BK128.out 2).trans rfl, (blk_cell BK128.out 3).trans rfl, (blk_cell BK128.out 4).trans rfl, (blk_cell BK128.out 5).trans rfl, (blk_cell BK128.out 6).trans rfl, (blk_cell BK128.out 7).trans rfl⟩ (fun hHeld => ?_)
          clear hK K
          refine norm_ (a' := ?_) ?_ ?_
          rotate_left
          ·show Act.put _ (some 16) _ = _
           simp only [Act.put, List.setIfInBounds_toArray, List.set_cons_zero, List.set_cons_succ, i64_w, i32_w]
           rfl
          refine pz 2 17 mk4_3 (any_of HT_.out (by kernel_rfl)) ?_
          refine pz 3 18 mk4_4 (any_of HT_.out (by kernel_rfl)) ?_
          refine pz 4 19 mk4_5 (any_of HT_.out (by kernel_rfl)) ?_
          refine pz 5 20 mk4_6 (any_of HT_.out (by kernel_rfl)) ?_
          refine pz 6 21 mk4_7 (any_of HT_.out (by kernel_rfl)) ?_
          refine pure_ (i := 7) (N := some 22) (v := undef) (a' := ?_) mk4_8 rfl rfl (any_of HT_.out (by kernel_rfl)) (fun _ _ _ h => h) (Or.inr ⟨by rfl, rfl⟩) ?_ ?_
          rotate_left
          ·exact ap
          refine pure_ (i := 8) (N := some 23) (v := undef) (a' := ?_) mk4_14 rfl rfl (any_of HT_.out (by kernel_rfl)) (fun _ _ _ h => h) (Or.inr ⟨by rfl, rfl⟩) ?_ ?_
          rotate_left
          ·exact ap
          refine pure_ (i := 9) (N := some 24) (v := undef) (a' := ?_) mk4_15 rfl rfl (any_of HT_.out (by kernel_rfl)) (fun _ _ _ h => h) (Or.inr ⟨by rfl, rfl⟩) ?_ ?_
          rotate_left
          ·exact ap
          refine pure_ (i := 10) (N := some 25) (v := undef) (a' := ?_) mk4_16 rfl rfl (any_of HT_.out (by kernel_rfl)) (fun _ _ _ h => h) (Or.inr ⟨by rfl, rfl⟩) ?_ ?_
          rotate_left
          ·exact ap
          refine pure_ (i := 11) (N := some 26) (v := undef) (a' := ?_) mk4_17 rfl rfl (any_of HT_.out (by kernel_rfl)) (fun _ _ _ h => h) (Or.inr ⟨by rfl, rfl⟩) ?_ ?_
          rotate_left
          ·exact ap
          refine pure_ (i := 12) (N := some 27) (v := undef) (a' := ?_) mk4_18 rfl rfl (any_of HT_.out (by kernel_rfl)) (fun _ _ _ h => h) (Or.inr ⟨by rfl, rfl⟩) ?_ ?_
          rotate_left
          ·exact ap
          refine pure_ (i := 13) (N := some 28) (v := undef) (a' := ?_) mk4_19 rfl rfl (any_of HT_.out (by kernel_rfl)) (fun _ _ _ h => h) (Or.inr ⟨by rfl, rfl⟩) ?_ ?_
          rotate_left
          ·exact ap
          refine pure_ (i := 14) (N := some 29) (v := undef) (a' := ?_) mk4_20 rfl rfl (any_of HT_.out (by kernel_rfl)) (fun _ _ _ h => h) (Or.inr ⟨by rfl, rfl⟩) ?_ ?_
          rotate_left
          ·exact ap
          refine pure_ (i := 15) (N := some 30) (v := undef) (a' := ?_) mk4_21 rfl rfl (any_of HT_.out (by kernel_rfl)) (fun _ _ _ h => h) (Or.inr ⟨by rfl, rfl⟩) ?_ ?_
          rotate_left
          ·exact ap
          refine pz 16 31 mk4_22 (any_of HT_.out (by kernel_rfl)) ?_
          refine pz 17 32 mk4_23 (any_of HT_.out (by kernel_rfl)) ?_
          refine pz 18 33 mk4_24 (any_of HT_.out (by kernel_rfl)) ?_
          refine pz 19 34 mk4_25 (any_of HT_.out (by kernel_rfl)) ?_
          refine take_ (i := 20) (N := some 35) (v := ?_) (a' := ?_) mk4_26 rfl rfl (take_ofW HT_.out HW_.out (by kernel_rfl)) (fun _ _ _ h => h) (Or.inl ⟨by rfl, ?_⟩) hHeld ?_ ?_
          rotate_left
          ·rintro w' ⟨s0, s1, s2, s3, s4, s5, s6, s7⟩
           exact gs
          rotate_left
          ·exact ap
          refine one_ (i := 21) (N := some 36) mk4_27 rfl rfl (one_of HT_.out (by kernel_rfl)) (by decide) (fun K hK => ?_)
          refine goes_ Try.func65 (by kernel_rfl) rfl #[.slice (some ad127) l0.length c0, .agg #[.string ((rd_T30 l0 x10_1).f0), .int .i64 ((rd_T30 l0 x10_1).f1), .string ((rd_T30 l0 x10_1).f2), .int .i64 ((rd_T30 l0 x10_1).f3.f0), .int .i64 ((rd_T30 l0 x10_1).f3.f1), .int .i64 ((rd_T30 l0 x10_1).f4), .int .i64 ((rd_T30 l0 x10_1).f5), .int .i64 ((rd_T30 l0 x10_1).f6)]] (by rfl) rfl rfl u4_3 ?_
          with_reducible refine (impl_isHung.calls k1 _ _ l0 ((rd_T30 l0 x10_1).f0) ((rd_T30 l0 x10_1).f1) ((rd_T30 l0 x10_1).f2) ((rd_T30 l0 x10_1).f3.f0) ((rd_T30 l0 x10_1).f3.f1) ((rd_T30 l0 x10_1).f4) ((rd_T30 l0 x10_1).f5) ((rd_T30 l0 x10_1).f6) true _ ?side1 ?side2 A32.out).mono ?_
          (case side1 => exact s4_0)
          (case side2 => exact HC0.out)
          rintro e w39 ⟨rfl, hb⟩
          refine ⟨_, rfl, ?_⟩
          have n0_ := am (blk_below (g := gb128) (o := zo4 (rd_T30 l0 x10_1)) u4_2 hb)
          have n1_ := am (below_step u4_1 hb)
          clear BK128 HB
          have BK128 := n0_
          have HB := n1_
          clear n0_ n1_
          (try clear hb)
          (try clear hb2)
          (try clear hk)
          (try clear hi)
          refine hK.out _ _ ⟨(blk_cell BK128.out 0).trans rfl, (blk_cell BK128.out 1).trans rfl, (blk_cell BK128.out 2).trans rfl, (blk_cell BK128.out 3).trans rfl, (blk_cell BK128.out 4).trans rfl, (blk_cell BK128.out 5).trans rfl, (blk_cell BK128.out 6).trans rfl, (blk_cell BK128.out 7).trans rfl⟩ (fun hHeld => ?_)
          clear hK K
          refine norm_ (a' := ?_) ?_ ?_
          rotate_left
          ·show Act.put _ (some 36) _ = _
           simp only [Act.put, List.setIfInBounds_toArray, List.set_cons_zero, List.set_cons_succ, i64_w, i32_w]
           rfl
          refine pz 22 37 mk4_28 (any_of HT_.out (by kernel_rfl)) ?_
          refine pz 23 38 mk4_29 (any_of HT_.out (by kernel_rfl)) ?_
          refine done_ (done_of HT_.out (by kernel_rfl)) ?_
          try go_wp2
          go_roundg k1
          case measure => have := HK1.out; omega
          case rel => exact ⟨(wrap64 (x10_1 + 1)), (by first | rfl | (simp; done) | (simp [*]; done)), H', ⟨by have := HK1.out; omega⟩, ⟨s4_1⟩⟩
         ·replace c33 := Bool.eq_false_iff.mpr c33
          subst c33
          have H1 : (some false) = some r := by rw [if_neg (show ¬ (false = true) by decide)] at H; exact H
          clear H
          have H := H1
          clear H1
          obtain rfl := Option.some.inj H
          have p127 : 0 ≤ (x10_1 : Int) := od (by assumption)
          have q127 : x10_1 < (l0.length : Int) := od (by assumption)
          obtain ⟨ad127, e127, hx127_0, hx127_1, hx127_2, hx127_3, hx127_4, hx127_5, hx127_6, hx127_7⟩ := at_T30 (Kd.C_below HR0.out HB.out) x10_1 p127 q127
          cases e127
          replace p127 := eq_true p127
          replace q127 := eq_true q127
          try go_wp2_with (first | ((with_reducible refine gate_dst (N := 4) rfl ?_); refine box_event ?hg (N := 4) ?hd (cs := #[.string (⟨#[]⟩ : ByteArray), .int .i64 0, .string (⟨#[]⟩ : ByteArray), .int .i64 0, .int .i64 0, .int .i64 0, .int .i64 0, .int .i64 0]) (t := 30) ?hr ?_; (case hd => rfl); (case hg => rfl); (case hr => exact gq); intro gb128 hg w40 hbox hb; have n0_ := am (below_step u4_0 hb); have n1_ := am (hbox); have n2_ := bsw w hg (below_size u4_0); have n3_ := bsw w hg (below_size u4_0); clear HB; have HB := n0_; have BK128 := n1_; have GW128 := n2_; have GE128 := n3_; clear n0_ n1_ n2_ n3_ hb hbox hg; obtain ⟨hcz41_0, hcz41_1, hcz41_2, hcz41_3, hcz41_4, hcz41_5, hcz41_6, hcz41_7, hfz41_0, hfz41_1, hfz41_2, hfz41_3, hfz41_4, hfz41_5, hfz41_6, hfz41_7⟩ := cf8 BK128.out))
          have n0_ : Aside0 (((((((((w40.setCell ⟨gb128, 0, none⟩ (.string ((rd_T30 l0 x10_1).f0))).setCell ⟨gb128, 1, none⟩ (.int .i64 ((rd_T30 l0 x10_1).f1))).setCell ⟨gb128, 2, none⟩ (.string ((rd_T30 l0 x10_1).f2))).setCell ⟨gb128, 3, none⟩ (.int .i64 ((rd_T30 l0 x10_1).f3.f0))).setCell ⟨gb128, 4, none⟩ (.int .i64 ((rd_T30 l0 x10_1).f3.f1))).setCell ⟨gb128, 5, none⟩ (.int .i64 ((rd_T30 l0 x10_1).f4))).setCell ⟨gb128, 6, none⟩ (.int .i64 ((rd_T30 l0 x10_1).f5))).setCell ⟨gb128, 7, none⟩ (.int .i64 ((rd_T30 l0 x10_1).f6))).heap[gb128]? = some (.cells #[.string ((rd_T30 l0 x10_1).f0), .int .i64 ((rd_T30 l0 x10_1).f1), .string ((rd_T30 l0 x10_1).f2), .int .i64 ((rd_T30 l0 x10_1).f3.f0), .int .i64 ((rd_T30 l0 x10_1).f3.f1), .int .i64 ((rd_T30 l0 x10_1).f4), .int .i64 ((rd_T30 l0 x10_1).f5), .int .i64 ((rd_T30 l0 x10_1).f6)] 30 (0, 0))) := ⟨by (with_reducible repeat (first | refine blk_drewN ?_ _ | refine blk_drew ?_ | refine blk_alloc ?_ _)); refine blk_put (cs := zr5 ((rd_T30 l0 x10_1).f0) ((rd_T30 l0 x10_1).f1) ((rd_T30 l0 x10_1).f2) ((rd_T30 l0 x10_1).f3.f0) ((rd_T30 l0 x10_1).f3.f1) ((rd_T30 l0 x10_1).f4) ((rd_T30 l0 x10_1).f5) 0) ?_ 7 _ rfl; refine blk_put (cs := zr5 ((rd_T30 l0 x10_1).f0) ((rd_T30 l0 x10_1).f1) ((rd_T30 l0 x10_1).f2) ((rd_T30 l0 x10_1).f3.f0) ((rd_T30 l0 x10_1).f3.f1) ((rd_T30 l0 x10_1).f4) 0 0) ?_ 6 _ rfl; refine blk_put (cs := zr5 ((rd_T30 l0 x10_1).f0) ((rd_T30 l0 x10_1).f1) ((rd_T30 l0 x10_1).f2) ((rd_T30 l0 x10_1).f3.f0) ((rd_T30 l0 x10_1).f3.f1) 0 0 0) ?_ 5 _ rfl; refine blk_put (cs := zr5 ((rd_T30 l0 x10_1).f0) ((rd_T30 l0 x10_1).f1) ((rd_T30 l0 x10_1).f2) ((rd_T30 l0 x10_1).f3.f0) 0 0 0 0) ?_ 4 _ rfl; refine blk_put (cs := zr5 ((rd_T30 l0 x10_1).f0) ((rd_T30 l0 x10_1).f1) ((rd_T30 l0 x10_1).f2) 0 0 0 0 0) ?_ 3 _ rfl; refine blk_put (cs := zr5 ((rd_T30 l0 x10_1).f0) ((rd_T30 l0 x10_1).f1) (⟨#[]⟩ : ByteArray) 0 0 0 0 0) ?_ 2 _ rfl; (with_reducible repeat (first | refine blk_drewN ?_ _ | refine blk_drew ?_ | refine blk_alloc ?_ _)); refine blk_put (cs := zr5 ((rd_T30 l0 x10_1).f0) 0 (⟨#[]⟩ : ByteArray) 0 0 0 0 0) ?_ 1 _ rfl; (with_reducible repeat (first | refine blk_drewN ?_ _ | refine blk_drew ?_ | refine blk_alloc ?_ _)); refine blk_put (cs := zr5 (⟨#[]⟩ : ByteArray) 0 (⟨#[]⟩ : ByteArray) 0 0 0 0 0) ?_ 0 _ rfl; (with_reducible repeat (first | refine blk_drewN ?_ _ | refine blk_drew ?_ | refine blk_alloc ?_ _)); exact BK128.out⟩
          have n1_ : Aside0 (Below w.heap.size w ((((((((w40.setCell ⟨gb128, 0, none⟩ (.string ((rd_T30 l0 x10_1).f0))).setCell ⟨gb128, 1, none⟩ (.int .i64 ((rd_T30 l0 x10_1).f1))).setCell ⟨gb128, 2, none⟩ (.string ((rd_T30 l0 x10_1).f2))).setCell ⟨gb128, 3, none⟩ (.int .i64 ((rd_T30 l0 x10_1).f3.f0))).setCell ⟨gb128, 4, none⟩ (.int .i64 ((rd_T30 l0 x10_1).f3.f1))).setCell ⟨gb128, 5, none⟩ (.int .i64 ((rd_T30 l0 x10_1).f4))).setCell ⟨gb128, 6, none⟩ (.int .i64 ((rd_T30 l0 x10_1).f5))).setCell ⟨gb128, 7, none⟩ (.int .i64 ((rd_T30 l0 x10_1).f6)))) := ⟨s4_1⟩
          (try clear BK128)
          (try clear HB)
          (try simp only [show ∀ (w_ : World) (n_ : Nat) (a_ : Addr) (v_ : Value), (w_.drewN n_).setCell a_ v_ = (w_.setCell a_ v_).drewN n_ from fun _ _ _ _ => rfl, show ∀ (w_ : World) (a_ : Addr) (v_ : Value), w_.drew.setCell a_ v_ = (w_.setCell a_ v_).drew from fun _ _ _ => rfl])
          generalize ((((((((w40.setCell ⟨gb128, 0, none⟩ (.string ((rd_T30 l0 x10_1).f0))).setCell ⟨gb128, 1, none⟩ (.int .i64 ((rd_T30 l0 x10_1).f1))).setCell ⟨gb128, 2, none⟩ (.string ((rd_T30 l0 x10_1).f2))).setCell ⟨gb128, 3, none⟩ (.int .i64 ((rd_T30 l0 x10_1).f3.f0))).setCell ⟨gb128, 4, none⟩ (.int .i64 ((rd_T30 l0 x10_1).f3.f1))).setCell ⟨gb128, 5, none⟩ (.int .i64 ((rd_T30 l0 x10_1).f4))).setCell ⟨gb128, 6, none⟩ (.int .i64 ((rd_T30 l0 x10_1).f5))).setCell ⟨gb128, 7, none⟩ (.int .i64 ((rd_T30 l0 x10_1).f6))) = w42 at n0_ n1_ ⊢
          have BK128 := n0_
          have HB := n1_
          clear n0_ n1_
          have n0_ := am (blk_drew BK128.out)
          have n1_ := am (below_drew1 HB.out)
          clear BK128 HB
          have BK128 := n0_
          have HB := n1_
          clear n0_ n1_
          refine start_ (n := 24) (S := fun w' => zc3 w' gb128 (rd_T30 l0 x10_1)) (ds := []) mk4_0 (by kernel_rfl) rfl rfl ⟨(blk_cell BK128.out 0).trans rfl, (blk_cell BK128.out 1).trans rfl, (blk_cell BK128.out 2).trans rfl, (blk_cell BK128.out 3).trans rfl, (blk_cell BK128.out 4).trans rfl, (blk_cell BK128.out 5).trans rfl, (blk_cell BK128.out 6).trans rfl, (blk_cell BK128.out 7).trans rfl⟩ (fun hHeld => ?_); refine with_tabW impl_IsRig.tab6 impl_IsRig.bits6 (fun HT_ HW_ => ?_)
          generalize w42.drew = w43 at BK128 HB hHeld ⊢
          refine take_ (i := 0) (N := some 15) (v := ?_) (a' := ?_) mk4_1 rfl rfl (take_ofW HT_.out HW_.out (by kernel_rfl)) (fun _ _ _ h => h) (Or.inl ⟨by rfl, ?_⟩) hHeld ?_ ?_
          rotate_left
          ·rintro w' ⟨s0, s1, s2, s3, s4, s5, s6, s7⟩
           exact gs
          rotate_left
          ·exact ap
          refine one_ (i := 1) (N := some 16) mk4_2 rfl rfl (one_of HT_.out (by kernel_rfl)) (by decide) (fun K hK => ?_)
          refine goes_ Try.func18 (by kernel_rfl) rfl #[.agg #[.string ((rd_T30 l0 x10_1).f0), .int .i64 ((rd_T30 l0 x10_1).f1), .string ((rd_T30 l0 x10_1).f2), .int .i64 ((rd_T30 l0 x10_1).f3.f0), .int .i64 ((rd_T30 l0 x10_1).f3.f1), .int .i64 ((rd_T30 l0 x10_1).f4), .int .i64 ((rd_T30 l0 x10_1).f5), .int .i64 ((rd_T30 l0 x10_1).f6)]] (by rfl) rfl rfl u4_3 ?_
          with_reducible refine (impl_IsDevice.calls k1 ((rd_T30 l0 x10_1).f0) ((rd_T30 l0 x10_1).f1) ((rd_T30 l0 x10_1).f2) ((rd_T30 l0 x10_1).f3.f0) ((rd_T30 l0 x10_1).f3.f1) ((rd_T30 l0 x10_1).f4) ((rd_T30 l0 x10_1).f5) ((rd_T30 l0 x10_1).f6) true _ A6.out).mono ?_
          rintro e w44 ⟨rfl, hb⟩
          refine ⟨_, rfl, ?_⟩
          have n0_ := am (blk_below (g := gb128) (o := zo4 (rd_T30 l0 x10_1)) u4_2 hb)
          have n1_ := am (below_step u4_1 hb)
          clear BK128 HB
          have BK128 := n0_
          have HB := n1_
          clear n0_ n1_
          (try clear hb)
          (try clear hb2)
          (try clear hk)
          (try clear hi)
          refine hK.out _ _ ⟨(blk_cell BK128.out 0).trans rfl, (blk_cell BK128.out 1).trans rfl, (blk_cell BK128.out 2).trans rfl, (blk_cell BK128.out 3).trans rfl, (blk_cell BK128.out 4).trans rfl, (blk_cell BK128.out 5).trans rfl, (blk_cell BK128.out 6).trans rfl, (blk_cell BK128.out 7).trans rfl⟩ (fun hHeld => ?_)
          clear hK K
          refine norm_ (a' := ?_) ?_ ?_
          rotate_left
          ·show Act.put _ (some 16) _ = _
           simp only [Act.put, List.setIfInBounds_toArray, List.set_cons_zero, List.set_cons_succ, i64_w, i32_w]
           rfl
          refine pz 2 17 mk4_3 (any_of HT_.out (by kernel_rfl)) ?_
          refine pz 3 18 mk4_4 (any_of HT_.out (by kernel_rfl)) ?_
          refine pz 4 19 mk4_5 (any_of HT_.out (by kernel_rfl)) ?_
          refine pz 5 20 mk4_6 (any_of HT_.out (by kernel_rfl)) ?_
          refine pz 6 21 mk4_7 (any_of HT_.out (by kernel_rfl)) ?_
          refine pure_ (i := 7) (N := some 22) (v := undef) (a' := ?_) mk4_8 rfl rfl (any_of HT_.out (by kernel_rfl)) (fun _ _ _ h => h) (Or.inr ⟨by rfl, rfl⟩) ?_ ?_
          rotate_left
          ·exact ap
          refine pure_ (i := 8) (N := some 23) (v := undef) (a' := ?_) mk4_14 rfl rfl (any_of HT_.out (by kernel_rfl)) (fun _ _ _ h => h) (Or.inr ⟨by rfl, rfl⟩) ?_ ?_
          rotate_left
          ·exact ap
          refine pure_ (i := 9) (N := some 24) (v := undef) (a' := ?_) mk4_15 rfl rfl (any_of HT_.out (by kernel_rfl)) (fun _ _ _ h => h) (Or.inr ⟨by rfl, rfl⟩) ?_ ?_
          rotate_left
          ·exact ap
          refine pure_ (i := 10) (N := some 25) (v := undef) (a' := ?_) mk4_16 rfl rfl (any_of HT_.out (by kernel_rfl)) (fun _ _ _ h => h) (Or.inr ⟨by rfl, rfl⟩) ?_ ?_
          rotate_left
          ·exact ap
          refine pure_ (i := 11) (N := some 26) (v := undef) (a' := ?_) mk4_17 rfl rfl (any_of HT_.out (by kernel_rfl)) (fun _ _ _ h => h) (Or.inr ⟨by rfl, rfl⟩) ?_ ?_
          rotate_left
          ·exact ap
          refine pure_ (i := 12) (N := some 27) (v := undef) (a' := ?_) mk4_18 rfl rfl (any_of HT_.out (by kernel_rfl)) (fun _ _ _ h => h) (Or.inr ⟨by rfl, rfl⟩) ?_ ?_
          rotate_left
          ·exact ap
          refine pure_ (i := 13) (N := some 28) (v := undef) (a' := ?_) mk4_19 rfl rfl (any_of HT_.out (by kernel_rfl)) (fun _ _ _ h => h) (Or.inr ⟨by rfl, rfl⟩) ?_ ?_
          rotate_left
          ·exact ap
          refine pure_ (i := 14) (N := some 29) (v := undef) (a' := ?_) mk4_20 rfl rfl (any_of HT_.out (by kernel_rfl)) (fun _ _ _ h => h) (Or.inr ⟨by rfl, rfl⟩) ?_ ?_
          rotate_left
          ·exact ap
          refine pure_ (i := 15) (N := some 30) (v := undef) (a' := ?_) mk4_21 rfl rfl (any_of HT_.out (by kernel_rfl)) (fun _ _ _ h => h) (Or.inr ⟨by rfl, rfl⟩) ?_ ?_
          rotate_left
          ·exact ap
          refine pz 16 31 mk4_22 (any_of HT_.out (by kernel_rfl)) ?_
          refine pz 17 32 mk4_23 (any_of HT_.out (by kernel_rfl)) ?_
          refine pz 18 33 mk4_24 (any_of HT_.out (by kernel_rfl)) ?_
          refine pz 19 34 mk4_25 (any_of HT_.out (by kernel_rfl)) ?_
          refine take_ (i := 20) (N := some 35) (v := ?_) (a' := ?_) mk4_26 rfl rfl (take_ofW HT_.out HW_.out (by kernel_rfl)) (fun _ _ _ h => h) (Or.inl ⟨by rfl, ?_⟩) hHeld ?_ ?_
          rotate_left
          ·rintro w' ⟨s0, s1, s2, s3, s4, s5, s6, s7⟩
           exact gs
          rotate_left
          ·exact ap
          refine one_ (i := 21) (N := some 36) mk4_27 rfl rfl (one_of HT_.out (by kernel_rfl)) (by decide) (fun K hK => ?_)
          refine goes_ Try.func65 (by kernel_rfl) rfl #[.slice (some ad127) l0.length c0, .agg #[.string ((rd_T30 l0 x10_1).f0), .int .i64 ((rd_T30 l0 x10_1).f1), .string ((rd_T30 l0 x10_1).f2), .int .i64 ((rd_T30 l0 x10_1).f3.f0), .int .i64 ((rd_T30 l0 x10_1).f3.f1), .int .i64 ((rd_T30 l0 x10_1).f4), .int .i64 ((rd_T30 l0 x10_1).f5), .int .i64 ((rd_T30 l0 x10_1).f6)]] (by rfl) rfl rfl u4_3 ?_
          with_reducible refine (impl_isHung.calls k1 _ _ l0 ((rd_T30 l0 x10_1).f0) ((rd_T30 l0 x10_1).f1) ((rd_T30 l0 x10_1).f2) ((rd_T30 l0 x10_1).f3.f0) ((rd_T30 l0 x10_1).f3.f1) ((rd_T30 l0 x10_1).f4) ((rd_T30 l0 x10_1).f5) ((rd_T30 l0 x10_1).f6) false _ ?side1 ?side2 A32.out).mono ?_
          (case side1 => exact s4_0)
          (case side2 => exact HC0.out)
          rintro e w45 ⟨rfl, hb⟩
          refine ⟨_, rfl, ?_⟩
          have n0_ := am (blk_below (g := gb128) (o := zo4 (rd_T30 l0 x10_1)) u4_2 hb)
          have n1_ := am (below_step u4_1 hb)
          clear BK128 HB
          have BK128 := n0_
          have HB := n1_
          clear n0_ n1_
          (try clear hb)
          (try clear hb2)
          (try clear hk)
          (try clear hi)
          refine hK.out _ _ ⟨(blk_cell BK128.out 0).trans rfl, (blk_cell BK128.out 1).trans rfl, (blk_cell BK128.out 2).trans rfl, (blk_cell BK128.out 3).trans rfl, (blk_cell BK128.out 4).trans rfl, (blk_cell BK128.out 5).trans rfl, (blk_cell BK128.out 6).trans rfl, (blk_cell BK128.out 7).trans rfl⟩ (fun hHeld => ?_)
          clear hK K
          refine norm_ (a' := ?_) ?_ ?_
          rotate_left
          ·show Act.put _ (some 36) _ = _
           simp only [Act.put, List.setIfInBounds_toArray, List.set_cons_zero, List.set_cons_succ, i64_w, i32_w]
           rfl
          refine pz 22 37 mk4_28 (any_of HT_.out (by kernel_rfl)) ?_
          refine pz 23 38 mk4_29 (any_of HT_.out (by kernel_rfl)) ?_
          refine done_ (done_of HT_.out (by kernel_rfl)) ?_
          try go_wp2
          go_ret
          exact ⟨by first | rfl | (simp [*] <;> rfl), s4_1⟩
       ·replace c7 := Bool.eq_false_iff.mpr c7
        subst c7
        have H1 : (some false) = some r := by rw [if_neg (show ¬ (false = true) by decide)] at H; exact H
        clear H
        have H := H1
        clear H1
        obtain rfl := Option.some.inj H
        have p127 : 0 ≤ (x10_1 : Int) := od (by assumption)
        have q127 : x10_1 < (l0.length : Int) := od (by assumption)
        obtain ⟨ad127, e127, hx127_0, hx127_1, hx127_2, hx127_3, hx127_4, hx127_5, hx127_6, hx127_7⟩ := at_T30 (Kd.C_below HR0.out HB.out) x10_1 p127 q127
        cases e127
        replace p127 := eq_true p127
        replace q127 := eq_true q127
        try go_wp2_with (first | ((with_reducible refine gate_dst (N := 4) rfl ?_); refine box_event ?hg (N := 4) ?hd (cs := #[.string (⟨#[]⟩ : ByteArray), .int .i64 0, .string (⟨#[]⟩ : ByteArray), .int .i64 0, .int .i64 0, .int .i64 0, .int .i64 0, .int .i64 0]) (t := 30) ?hr ?_; (case hd => rfl); (case hg => rfl); (case hr => exact gq); intro gb128 hg w46 hbox hb; have n0_ := am (below_step u4_0 hb); have n1_ := am (hbox); have n2_ := bsw w hg (below_size u4_0); have n3_ := bsw w hg (below_size u4_0); clear HB; have HB := n0_; have BK128 := n1_; have GW128 := n2_; have GE128 := n3_; clear n0_ n1_ n2_ n3_ hb hbox hg; obtain ⟨hcz47_0, hcz47_1, hcz47_2, hcz47_3, hcz47_4, hcz47_5, hcz47_6, hcz47_7, hfz47_0, hfz47_1, hfz47_2, hfz47_3, hfz47_4, hfz47_5, hfz47_6, hfz47_7⟩ := cf8 BK128.out))
        have n0_ : Aside0 (((((((((w46.setCell ⟨gb128, 0, none⟩ (.string ((rd_T30 l0 x10_1).f0))).setCell ⟨gb128, 1, none⟩ (.int .i64 ((rd_T30 l0 x10_1).f1))).setCell ⟨gb128, 2, none⟩ (.string ((rd_T30 l0 x10_1).f2))).setCell ⟨gb128, 3, none⟩ (.int .i64 ((rd_T30 l0 x10_1).f3.f0))).setCell ⟨gb128, 4, none⟩ (.int .i64 ((rd_T30 l0 x10_1).f3.f1))).setCell ⟨gb128, 5, none⟩ (.int .i64 ((rd_T30 l0 x10_1).f4))).setCell ⟨gb128, 6, none⟩ (.int .i64 ((rd_T30 l0 x10_1).f5))).setCell ⟨gb128, 7, none⟩ (.int .i64 ((rd_T30 l0 x10_1).f6))).heap[gb128]? = some (.cells #[.string ((rd_T30 l0 x10_1).f0), .int .i64 ((rd_T30 l0 x10_1).f1), .string ((rd_T30 l0 x10_1).f2), .int .i64 ((rd_T30 l0 x10_1).f3.f0), .int .i64 ((rd_T30 l0 x10_1).f3.f1), .int .i64 ((rd_T30 l0 x10_1).f4), .int .i64 ((rd_T30 l0 x10_1).f5), .int .i64 ((rd_T30 l0 x10_1).f6)] 30 (0, 0))) := ⟨by (with_reducible repeat (first | refine blk_drewN ?_ _ | refine blk_drew ?_ | refine blk_alloc ?_ _)); refine blk_put (cs := zr5 ((rd_T30 l0 x10_1).f0) ((rd_T30 l0 x10_1).f1) ((rd_T30 l0 x10_1).f2) ((rd_T30 l0 x10_1).f3.f0) ((rd_T30 l0 x10_1).f3.f1) ((rd_T30 l0 x10_1).f4) ((rd_T30 l0 x10_1).f5) 0) ?_ 7 _ rfl; refine blk_put (cs := zr5 ((rd_T30 l0 x10_1).f0) ((rd_T30 l0 x10_1).f1) ((rd_T30 l0 x10_1).f2) ((rd_T30 l0 x10_1).f3.f0) ((rd_T30 l0 x10_1).f3.f1) ((rd_T30 l0 x10_1).f4) 0 0) ?_ 6 _ rfl; refine blk_put (cs := zr5 ((rd_T30 l0 x10_1).f0) ((rd_T30 l0 x10_1).f1) ((rd_T30 l0 x10_1).f2) ((rd_T30 l0 x10_1).f3.f0) ((rd_T30 l0 x10_1).f3.f1) 0 0 0) ?_ 5 _ rfl; refine blk_put (cs := zr5 ((rd_T30 l0 x10_1).f0) ((rd_T30 l0 x10_1).f1) ((rd_T30 l0 x10_1).f2) ((rd_T30 l0 x10_1).f3.f0) 0 0 0 0) ?_ 4 _ rfl; refine blk_put (cs := zr5 ((rd_T30 l0 x10_1).f0) ((rd_T30 l0 x10_1).f1) ((rd_T30 l0 x10_1).f2) 0 0 0 0 0) ?_ 3 _ rfl; refine blk_put (cs := zr5 ((rd_T30 l0 x10_1).f0) ((rd_T30 l0 x10_1).f1) (⟨#[]⟩ : ByteArray) 0 0 0 0 0) ?_ 2 _ rfl; (with_reducible repeat (first | refine blk_drewN ?_ _ | refine blk_drew ?_ | refine blk_alloc ?_ _)); refine blk_put (cs := zr5 ((rd_T30 l0 x10_1).f0) 0 (⟨#[]⟩ : ByteArray) 0 0 0 0 0) ?_ 1 _ rfl; (with_reducible repeat (first | refine blk_drewN ?_ _ | refine blk_drew ?_ | refine blk_alloc ?_ _)); refine blk_put (cs := zr5 (⟨#[]⟩ : ByteArray) 0 (⟨#[]⟩ : ByteArray) 0 0 0 0 0) ?_ 0 _ rfl; (with_reducible repeat (first | refine blk_drewN ?_ _ | refine blk_drew ?_ | refine blk_alloc ?_ _)); exact BK128.out⟩
        have n1_ : Aside0 (Below w.heap.size w ((((((((w46.setCell ⟨gb128, 0, none⟩ (.string ((rd_T30 l0 x10_1).f0))).setCell ⟨gb128, 1, none⟩ (.int .i64 ((rd_T30 l0 x10_1).f1))).setCell ⟨gb128, 2, none⟩ (.string ((rd_T30 l0 x10_1).f2))).setCell ⟨gb128, 3, none⟩ (.int .i64 ((rd_T30 l0 x10_1).f3.f0))).setCell ⟨gb128, 4, none⟩ (.int .i64 ((rd_T30 l0 x10_1).f3.f1))).setCell ⟨gb128, 5, none⟩ (.int .i64 ((rd_T30 l0 x10_1).f4))).setCell ⟨gb128, 6, none⟩ (.int .i64 ((rd_T30 l0 x10_1).f5))).setCell ⟨gb128, 7, none⟩ (.int .i64 ((rd_T30 l0 x10_1).f6)))) := ⟨s4_1⟩
        (try clear BK128)
        (try clear HB)
        (try simp only [show ∀ (w_ : World) (n_ : Nat) (a_ : Addr) (v_ : Value), (w_.drewN n_).setCell a_ v_ = (w_.setCell a_ v_).drewN n_ from fun _ _ _ _ => rfl, show ∀ (w_ : World) (a_ : Addr) (v_ : Value), w_.drew.setCell a_ v_ = (w_.setCell a_ v_).drew from fun _ _ _ => rfl])
        generalize ((((((((w46.setCell ⟨gb128, 0, none⟩ (.string ((rd_T30 l0 x10_1).f0))).setCell ⟨gb128, 1, none⟩ (.int .i64 ((rd_T30 l0 x10_1).f1))).setCell ⟨gb128, 2, none⟩ (.string ((rd_T30 l0 x10_1).f2))).setCell ⟨gb128, 3, none⟩ (.int .i64 ((rd_T30 l0 x10_1).f3.f0))).setCell ⟨gb128, 4, none⟩ (.int .i64 ((rd_T30 l0 x10_1).f3.f1))).setCell ⟨gb128, 5, none⟩ (.int .i64 ((rd_T30 l0 x10_1).f4))).setCell ⟨gb128, 6, none⟩ (.int .i64 ((rd_T30 l0 x10_1).f5))).setCell ⟨gb128, 7, none⟩ (.int .i64 ((rd_T30 l0 x10_1).f6))) = w48 at n0_ n1_ ⊢
        have BK128 := n0_
        have HB := n1_
        clear n0_ n1_
        have n0_ := am (blk_drew BK128.out)
        have n1_ := am (below_drew1 HB.out)
        clear BK128 HB
        have BK128 := n0_
        have HB := n1_
        clear n0_ n1_
        refine start_ (n := 24) (S := fun w' => zc3 w' gb128 (rd_T30 l0 x10_1)) (ds := []) mk4_0 (by kernel_rfl) rfl rfl ⟨(blk_cell BK128.out 0).trans rfl, (blk_cell BK128.out 1).trans rfl, (blk_cell BK128.out 2).trans rfl, (blk_cell BK128.out 3).trans rfl, (blk_cell BK128.out 4).trans rfl, (blk_cell BK128.out 5).trans rfl, (blk_cell BK128.out 6).trans rfl, (blk_cell BK128.out 7).trans rfl⟩ (fun hHeld => ?_); refine with_tabW impl_IsRig.tab6 impl_IsRig.bits6 (fun HT_ HW_ => ?_)
        generalize w48.drew = w49 at BK128 HB hHeld ⊢
        refine take_ (i := 0) (N := some 15) (v := ?_) (a' := ?_) mk4_1 rfl rfl (take_ofW HT_.out HW_.out (by kernel_rfl)) (fun _ _ _ h => h) (Or.inl ⟨by rfl, ?_⟩) hHeld ?_ ?_
        rotate_left
        ·rintro w' ⟨s0, s1, s2, s3, s4, s5, s6, s7⟩
         exact gs
        rotate_left
        ·exact ap
        refine one_ (i := 1) (N := some 16) mk4_2 rfl rfl (one_of HT_.out (by kernel_rfl)) (by decide) (fun K hK => ?_)
        refine goes_ Try.func18 (by kernel_rfl) rfl #[.agg #[.string ((rd_T30 l0 x10_1).f0), .int .i64 ((rd_T30 l0 x10_1).f1), .string ((rd_T30 l0 x10_1).f2), .int .i64 ((rd_T30 l0 x10_1).f3.f0), .int .i64 ((rd_T30 l0 x10_1).f3.f1), .int .i64 ((rd_T30 l0 x10_1).f4), .int .i64 ((rd_T30 l0 x10_1).f5), .int .i64 ((rd_T30 l0 x10_1).f6)]] (by rfl) rfl rfl u4_3 ?_
        with_reducible refine (impl_IsDevice.calls k1 ((rd_T30 l0 x10_1).f0) ((rd_T30 l0 x10_1).f1) ((rd_T30 l0 x10_1).f2) ((rd_T30 l0 x10_1).f3.f0) ((rd_T30 l0 x10_1).f3.f1) ((rd_T30 l0 x10_1).f4) ((rd_T30 l0 x10_1).f5) ((rd_T30 l0 x10_1).f6) false _ A6.out).mono ?_
        rintro e w50 ⟨rfl, hb⟩
        refine ⟨_, rfl, ?_⟩
        have n0_ := am (blk_below (g := gb128) (o := zo4 (rd_T30 l0 x10_1)) u4_2 hb)
        have n1_ := am (below_step u4_1 hb)
        clear BK128 HB
        have BK128 := n0_
        have HB := n1_
        clear n0_ n1_
        (try clear hb)
        (try clear hb2)
        (try clear hk)
        (try clear hi)
        refine hK.out _ _ ⟨(blk_cell BK128.out 0).trans rfl, (blk_cell BK128.out 1).trans rfl, (blk_cell BK128.out 2).trans rfl, (blk_cell BK128.out 3).trans rfl, (blk_cell BK128.out 4).trans rfl, (blk_cell BK128.out 5).trans rfl, (blk_cell BK128.out 6).trans rfl, (blk_cell BK128.out 7).trans rfl⟩ (fun hHeld => ?_)
        clear hK K
        refine norm_ (a' := ?_) ?_ ?_
        rotate_left
        ·show Act.put _ (some 16) _ = _
         simp only [Act.put, List.setIfInBounds_toArray, List.set_cons_zero, List.set_cons_succ, i64_w, i32_w]
         rfl
        refine pz 2 17 mk4_3 (any_of HT_.out (by kernel_rfl)) ?_
        refine pz 3 18 mk4_4 (any_of HT_.out (by kernel_rfl)) ?_
        refine pure_ (i := 4) (N := some 19) (v := undef) (a' := ?_) mk4_5 rfl rfl (any_of HT_.out (by kernel_rfl)) (fun _ _ _ h => h) (Or.inr ⟨by rfl, rfl⟩) ?_ ?_
        rotate_left
        ·exact ap
        refine pure_ (i := 5) (N := some 20) (v := undef) (a' := ?_) mk4_6 rfl rfl (any_of HT_.out (by kernel_rfl)) (fun _ _ _ h => h) (Or.inr ⟨by rfl, rfl⟩) ?_ ?_
        rotate_left
        ·exact ap
        refine pure_ (i := 6) (N := some 21) (v := undef) (a' := ?_) mk4_7 rfl rfl (any_of HT_.out (by kernel_rfl)) (fun _ _ _ h => h) (Or.inr ⟨by rfl, rfl⟩) ?_ ?_
        rotate_left
        ·exact ap
        refine pure_ (i := 7) (N := some 22) (v := undef) (a' := ?_) mk4_8 rfl rfl (any_of HT_.out (by kernel_rfl)) (fun _ _ _ h => h) (Or.inr ⟨by rfl, rfl⟩) ?_ ?_
        rotate_left
        ·exact ap
        refine pure_ (i := 8) (N := some 23) (v := undef) (a' := ?_) mk4_14 rfl rfl (any_of HT_.out (by kernel_rfl)) (fun _ _ _ h => h) (Or.inr ⟨by rfl, rfl⟩) ?_ ?_
        rotate_left
        ·exact ap
        refine pure_ (i := 9) (N := some 24) (v := undef) (a' := ?_) mk4_15 rfl rfl (any_of HT_.out (by kernel_rfl)) (fun _ _ _ h => h) (Or.inr ⟨by rfl, rfl⟩) ?_ ?_
        rotate_left
        ·exact ap
        refine pure_ (i := 10) (N := some 25) (v := undef) (a' := ?_) mk4_16 rfl rfl (any_of HT_.out (by kernel_rfl)) (fun _ _ _ h => h) (Or.inr ⟨by rfl, rfl⟩) ?_ ?_
        rotate_left
        ·exact ap
        refine pure_ (i := 11) (N := some 26) (v := undef) (a' := ?_) mk4_17 rfl rfl (any_of HT_.out (by kernel_rfl)) (fun _ _ _ h => h) (Or.inr ⟨by rfl, rfl⟩) ?_ ?_
        rotate_left
        ·exact ap
        refine pure_ (i := 12) (N := some 27) (v := undef) (a' := ?_) mk4_18 rfl rfl (any_of HT_.out (by kernel_rfl)) (fun _ _ _ h => h) (Or.inr ⟨by rfl, rfl⟩) ?_ ?_
        rotate_left
        ·exact ap
        refine pure_ (i := 13) (N := some 28) (v := undef) (a' := ?_) mk4_19 rfl rfl (any_of HT_.out (by kernel_rfl)) (fun _ _ _ h => h) (Or.inr ⟨by rfl, rfl⟩) ?_ ?_
        rotate_left
        ·exact ap
        refine pure_ (i := 14) (N := some 29) (v := undef) (a' := ?_) mk4_20 rfl rfl (any_of HT_.out (by kernel_rfl)) (fun _ _ _ h => h) (Or.inr ⟨by rfl, rfl⟩) ?_ ?_
        rotate_left
        ·exact ap
        refine pure_ (i := 15) (N := some 30) (v := undef) (a' := ?_) mk4_21 rfl rfl (any_of HT_.out (by kernel_rfl)) (fun _ _ _ h => h) (Or.inr ⟨by rfl, rfl⟩) ?_ ?_
        rotate_left
        ·exact ap
        refine pure_ (i := 16) (N := some 31) (v := undef) (a' := ?_) mk4_22 rfl rfl (any_of HT_.out (by kernel_rfl)) (fun _ _ _ h => h) (Or.inr ⟨by rfl, rfl⟩) ?_ ?_
        rotate_left
        ·exact ap
        refine pz 17 32 mk4_23 (any_of HT_.out (by kernel_rfl)) ?_
        refine pz 18 33 mk4_24 (any_of HT_.out (by kernel_rfl)) ?_
        refine pure_ (i := 19) (N := some 34) (v := undef) (a' := ?_) mk4_25 rfl rfl (any_of HT_.out (by kernel_rfl)) (fun _ _ _ h => h) (Or.inr ⟨by rfl, rfl⟩) ?_ ?_
        rotate_left
        ·exact ap
        refine pure_ (i := 20) (N := some 35) (v := undef) (a' := ?_) mk4_26 rfl rfl (any_of HT_.out (by kernel_rfl)) (fun _ _ _ h => h) (Or.inr ⟨by rfl, rfl⟩) ?_ ?_
        rotate_left
        ·exact ap
        refine pure_ (i := 21) (N := some 36) (v := undef) (a' := ?_) mk4_27 rfl rfl (any_of HT_.out (by kernel_rfl)) (fun _ _ _ h => h) (Or.inr ⟨by rfl, rfl⟩) ?_ ?_
        rotate_left
        ·exact ap
        refine pure_ (i := 22) (N := some 37) (v := undef) (a' := ?_) mk4_28 rfl rfl (any_of HT_.out (by kernel_rfl)) (fun _ _ _ h => h) (Or.inr ⟨by rfl, rfl⟩) ?_ ?_
        rotate_left
        ·exact ap
        refine pz 23 38 mk4_29 (any_of HT_.out (by kernel_rfl)) ?_
        refine done_ (done_of HT_.out (by kernel_rfl)) ?_
        try go_wp2
        go_ret
        exact ⟨by first | rfl | (simp [*] <;> rfl), s4_1⟩
      ·rw [if_neg c5] at H
       exact absurd H (by simp)
     ·rw [if_neg c4] at H
      exact absurd H (by simp)
    ·rw [if_neg c3] at H
     have c3b0 : decide (x10_1 < (l0.length : Int)) = false := decide_eq_false c3
     clear c3
     obtain rfl := Option.some.inj H
     go_wp2
     go_ret
     exact ⟨by first | rfl | (simp [*] <;> rfl), s4_2⟩

end Go.Proofs.Ytkedcokhcgklpaa.MFnLines
