-- Written by a program for this claim.
import Derived.Test.YtkedcokhcgklpaaMFnLinesx0
import Derived.Test.YtkedcokhcgklpaaMFnLinesx7
namespace Go.Proofs.Ytkedcokhcgklpaa.MFnLines
open Go.RowKit Go.Proofs.YtkedcokhcgklpaaW.PrintWords Go.Proofs.YtkedcokhcgklpaaW.PrintLast Go.Proofs.YtkedcokhcgklpaaW.PrintMore
attribute [local go_sem] max2_int min2_int max_two min_two max_three min_three max_four min_four   -- for this text's walks alone
set_option linter.unusedVariables false
set_option linter.unusedSimpArgs false

theorem s8_0 {p : Prop} (h : p := by repeat (first | exact (Kd.C_below HR0.out HB.out) | (with_reducible refine Kd.C_alloc ?_ _) | (with_reducible refine Kd.C_drewN ?_ _) | (with_reducible refine Kd.C_drew ?_))) : p := h
theorem s8_1 {p : Prop} (h : p := by repeat (first | (with_reducible first | exact HB.out | apply below_alloc | apply pw_below_drewN | apply below_drew1 | refine below_set ?_ GE165.out) | exact HB.out)) : p := h
theorem s8_2 {p : Prop} (h : p := by repeat (first | (with_reducible first | exact HB.out | apply below_alloc | apply pw_below_drewN | apply below_drew1) | exact HB.out)) : p := h
abbrev mk8_0 : Array Bool := #[false, false, false, false, false, false, false, false, false, false, false, false, false, false, false, false, false, false, false, false, false, false, false, false]
abbrev mk8_1 : Array Bool := #[true, false, false, false, false, false, false, false, false, false, false, false, false, false, false, false, false, false, false, false, false, false, false, false]
abbrev mk8_2 : Array Bool := #[true, true, false, false, false, false, false, false, false, false, false, false, false, false, false, false, false, false, false, false, false, false, false, false]
abbrev mk8_3 : Array Bool := #[true, true, true, false, false, false, false, false, false, false, false, false, false, false, false, false, false, false, false, false, false, false, false, false]
abbrev mk8_4 : Array Bool := #[true, true, true, true, false, false, false, false, false, false, false, false, false, false, false, false, false, false, false, false, false, false, false, false]
abbrev mk8_5 : Array Bool := #[true, true, true, true, true, false, false, false, false, false, false, false, false, false, false, false, false, false, false, false, false, false, false, false]
abbrev mk8_6 : Array Bool := #[true, true, true, true, true, true, false, false, false, false, false, false, false, false, false, false, false, false, false, false, false, false, false, false]
abbrev mk8_7 : Array Bool := #[true, true, true, true, true, true, true, false, false, false, false, false, false, false, false, false, false, false, false, false, false, false, false, false]
abbrev mk8_8 : Array Bool := #[true, true, true, true, true, true, true, true, false, false, false, false, false, false, false, false, false, false, false, false, false, false, false, false]
abbrev mk8_9 : Array Bool := #[true, true, true, true, true, true, true, true, true, false, false, false, false, false, false, false, false, false, false, false, false, false, false, false]
abbrev mk8_10 : Array Bool := #[true, true, true, true, true, true, true, true, true, true, false, false, false, false, false, false, false, false, false, false, false, false, false, false]
abbrev mk8_11 : Array Bool := #[true, true, true, true, true, true, true, true, true, true, true, false, false, false, false, false, false, false, false, false, false, false, false, false]
abbrev mk8_12 : Array Bool := #[true, true, true, true, true, true, true, true, true, true, true, true, false, false, false, false, false, false, false, false, false, false, false, false]
abbrev mk8_13 : Array Bool := #[true, true, true, true, true, true, true, true, true, true, true, true, false, true, false, false, false, false, false, false, false, false, false, false]
abbrev mk8_14 : Array Bool := #[true, true, true, true, true, true, true, true, true, true, true, true, true, false, false, false, false, false, false, false, false, false, false, false]
abbrev mk8_15 : Array Bool := #[true, true, true, true, true, true, true, true, true, true, true, true, true, true, false, false, false, false, false, false, false, false, false, false]
abbrev mk8_16 : Array Bool := #[true, true, true, true, true, true, true, true, true, true, true, true, true, true, true, false, false, false, false, false, false, false, false, false]
abbrev mk8_17 : Array Bool := #[true, true, true, true, true, true, true, true, true, true, true, true, true, true, true, true, false, false, false, false, false, false, false, false]
abbrev mk8_18 : Array Bool := #[true, true, true, true, true, true, true, true, true, true, true, true, true, true, true, true, true, false, false, false, false, false, false, false]
abbrev mk8_19 : Array Bool := #[true, true, true, true, true, true, true, true, true, true, true, true, true, true, true, true, true, true, false, false, false, false, false, false]
abbrev mk8_20 : Array Bool := #[true, true, true, true, true, true, true, true, true, true, true, true, true, true, true, true, true, true, true, false, false, false, false, false]
abbrev mk8_21 : Array Bool := #[true, true, true, true, true, true, true, true, true, true, true, true, true, true, true, true, true, true, true, true, false, false, false, false]
abbrev mk8_22 : Array Bool := #[true, true, true, true, true, true, true, true, true, true, true, true, true, true, true, true, true, true, true, true, true, false, false, false]
abbrev mk8_23 : Array Bool := #[true, true, true, true, true, true, true, true, true, true, true, true, true, true, true, true, true, true, true, true, true, true, false, false]
abbrev mk8_24 : Array Bool := #[true, true, true, true, true, true, true, true, true, true, true, true, true, true, true, true, true, true, true, true, true, true, true, false]
abbrev mk8_25 : Array Bool := #[true, true, true, true, true, true, true, true, true, true, true, true, true, true, true, true, true, true, true, true, true, true, true, true]
theorem u8_0 {p : Prop} (h : p := by repeat (first | (with_reducible first | exact HB.out | apply below_alloc | apply pw_below_drewN | apply below_drew1) | exact HB.out)) : p := h
theorem u8_1 {p : Prop} (h : p := by repeat (first | (with_reducible first | exact HB.out | apply below_alloc | apply pw_below_drewN | apply below_drew1 | refine below_set ?_ GE165.out) | exact HB.out)) : p := h
theorem u8_2 {p : Prop} (h : p := by (with_reducible repeat (first | refine blk_drewN ?_ _ | refine blk_drew ?_ | refine blk_alloc ?_ _)); exact BK165.out) : p := h
theorem u8_3 {p : Prop} (h : p := by (try simp only [List.map_toArray, List.map_cons, List.map_nil]); first | done | rfl) : p := h
/-! ### spec_IsRig: function 24 -/
def spec_IsRig.l0 : Nat → List (S30) → List (S30) → Int → Int → Option (Bool)
 | 0, _, _, _, _ => none
 | k + 1, x0, x5, x6, x7 => if x7 < x6 then (if 0 ≤ x7 then (if x7 < (x5.length : Int) then ((spec_IsDevice.f k ((rd_T30 x5 x7).f0) ((rd_T30 x5 x7).f1) ((rd_T30 x5 x7).f2) ((rd_T30 x5 x7).f3.f0) ((rd_T30 x5 x7).f3.f1) ((rd_T30 x5 x7).f4) ((rd_T30 x5 x7).f5) ((rd_T30 x5 x7).f6)).bind fun t166 => (if t166 = true then (if x7 > 0 then (if 0 ≤ (wrap64 (x7 - 1)) then (if (wrap64 (x7 - 1)) < (x0.length : Int) then (if ((Op.bytesLess (((rd_T30 x0 (wrap64 (x7 - 1))).f0).toList) (((rd_T30 x5 x7).f0).toList)) = true) then ((spec_l6Hangs.f k x0 ((rd_T30 x5 x7).f0) ((rd_T30 x5 x7).f1) ((rd_T30 x5 x7).f2) ((rd_T30 x5 x7).f3.f0) ((rd_T30 x5 x7).f3.f1) ((rd_T30 x5 x7).f4) ((rd_T30 x5 x7).f5) ((rd_T30 x5 x7).f6)).bind fun t168 => (if t168 = true then (spec_IsRig.l0 k x0 x5 x6 (wrap64 (x7 + 1))) else (some false))) else (some false)) else (none)) else (none)) else ((spec_l6Hangs.f k x0 ((rd_T30 x5 x7).f0) ((rd_T30 x5 x7).f1) ((rd_T30 x5 x7).f2) ((rd_T30 x5 x7).f3.f0) ((rd_T30 x5 x7).f3.f1) ((rd_T30 x5 x7).f4) ((rd_T30 x5 x7).f5) ((rd_T30 x5 x7).f6)).bind fun t169 => (if t169 = true then (spec_IsRig.l0 k x0 x5 x6 (wrap64 (x7 + 1))) else (some false)))) else (some false))) else (none)) else (none)) else (some (decide ((x0.length : Int) ≤ 8)))
def spec_IsRig.f (k : Nat) (l0 : List (S30)) : Option (Bool) := spec_IsRig.l0 k l0 l0 (l0.length : Int) 0
theorem spec_IsRig.mono_l : ∀ k, (∀ y0 y1 y2 y3, LeO (spec_IsRig.l0 k y0 y1 y2 y3) (spec_IsRig.l0 (k + 1) y0 y1 y2 y3))
 | 0 => fun _ _ _ _ r h => by simp [spec_IsRig.l0] at h
 | k + 1 => by
  have ih0 := spec_IsRig.mono_l k
  ·intro y0 y1 y2 y3
   unfold spec_IsRig.l0
   repeat' first
   | (with_reducible exact ih0 _ _ _ _)
   | (with_reducible exact spec_IsDevice.mono _ _ _ _ _ _ _ _ _)
   | (with_reducible exact spec_l6Hangs.mono _ _ _ _ _ _ _ _ _ _)
   | (with_reducible exact LeO.refl _)
   | (with_reducible exact LeO.none _)
   | (with_reducible refine LeO.ite ?_ ?_)
   | (with_reducible refine LeO.bind ?_ (fun _ => ?_))
theorem spec_IsRig.mono : ∀ a0 k, LeO (spec_IsRig.f k a0) (spec_IsRig.f (k + 1) a0) := by
 intro a0 k
 have ih0 := spec_IsRig.mono_l k
 unfold spec_IsRig.f
 repeat' first
   | (with_reducible exact ih0 _ _ _ _)
   | (with_reducible exact spec_IsDevice.mono _ _ _ _ _ _ _ _ _)
   | (with_reducible exact spec_l6Hangs.mono _ _ _ _ _ _ _ _ _ _)
   | (with_reducible exact LeO.refl _)
   | (with_reducible exact LeO.none _)
   | (with_reducible refine LeO.ite ?_ ?_)
   | (with_reducible refine LeO.bind ?_ (fun _ => ?_))
def spec_IsRig.T4 : Bool × List (List Nat × List Nat) := (true, [([], []), ([0], [0]), ([1], [1]), ([2, 1], [2]), ([3], [3]), ([4, 3], [3, 4]), ([5, 3, 3], [3, 5]), ([6], [6]), ([6], [6]), ([8, 6], [6, 8]), ([7, 9, 6], [6, 7, 9]), ([10, 6], [6, 10]), ([11, 6], [6, 11]), ([6], [6]), ([13, 6], [6, 13]), ([12, 14, 6], [6, 12, 14]), ([6, 15, 3], [3, 6, 15]), ([3, 16], [3, 16]), ([17, 6], [17]), ([18], [18]), ([18], [18]), ([19, 20, 18, 18], [18, 19, 20]), ([21, 18], [18, 21]), ([18, 22], [18, 22])])
def spec_IsRig.B4 : List Nat := [0, 1, 3, 7, 15, 31, 63, 127, 127, 383, 1023, 2047, 4095, 127, 8319, 32767, 65535, 131071, 262143, 524287, 524287, 2097151, 4194303, 8388607]
theorem spec_IsRig.tab4 : rtab .any (opsOf Try.f24 4) = spec_IsRig.T4 := by kernel_rfl
theorem spec_IsRig.bits4 : waitsOk spec_IsRig.T4.2 spec_IsRig.B4 = true := by kernel_rfl
set_option maxHeartbeats 8000000 in
set_option maxRecDepth 100000 in
theorem spec_IsRig.calls (k : Nat) (A0 : Option Addr) (c0 : Nat) (l0 : List (S30)) (r : Bool) (w : World) (hr0 : Kd.C k30 w A0 l0.length l0) (hc0 : l0.length ≤ c0) (h : spec_IsRig.f k l0 = some r) :
  Calls Try.prog 24 #[.slice A0 l0.length c0] w fun e w' => e = .returned (.bool r) ∧ Below w.heap.size w w' := by
 have hu30 := Try.underlying30
 have HR0 := am hr0
 have HC0 := am hc0
 clear hr0 hc0
 have HB := am (Below.refl w.heap.size w)
 have H : (spec_IsRig.l0 k l0 l0 (l0.length : Int) 0) = some r := h
 clear h
 have H' := am H
 clear H
 go_enter Try.func24, Try.ntmps24
 go_wp2
 go_loopg [7] k (fun kq v7 w' => ∃ (x7_1 : Int), v7 = .int .i64 x7_1 ∧ Aside0 (spec_IsRig.l0 kq l0 l0 (l0.length : Int) x7_1 = some r) ∧ Aside0 (kq ≤ k) ∧ Aside0 (Below w.heap.size w w'))
 case atStart => exact ⟨(0), (by first | rfl | (simp; done) | (simp [*]; done)), H', ⟨Nat.le_refl _⟩, ⟨s8_2⟩⟩
 case round =>
  clear H'
  obtain ⟨x7_1, rfl, HA, HK1, HB⟩ := hrel
  cases gk with
  | zero => exact absurd HA.out (by simp [spec_IsRig.l0])
  | succ k1 =>
   have H := HA.out
   clear HA
   simp only [spec_IsRig.l0] at H
   by_cases c2 : x7_1 < (l0.length : Int)
   ·rw [if_pos c2] at H
    have c2b0 : decide (x7_1 < (l0.length : Int)) = true := decide_eq_true c2
    clear c2
    by_cases c3 : 0 ≤ x7_1
    ·rw [if_pos c3] at H
     have c3b0 : decide (0 ≤ x7_1) = true := decide_eq_true c3
     clear c3
     by_cases c4 : x7_1 < (l0.length : Int)
     ·rw [if_pos c4] at H
      have c4b0 : decide (x7_1 < (l0.length : Int)) = true := decide_eq_true c4
      clear c4
      replace H := Option.bind_eq_some_iff.mp H
      obtain ⟨t166, A50, H⟩ := H
      replace H : (if t166 = true then (if x7_1 > 0 then (if 0 ≤ (wrap64 (x7_1 - 1)) then (if (wrap64 (x7_1 - 1)) < (l0.length : Int) then (if ((Op.bytesLess (((rd_T30 l0 (wrap64 (x7_1 - 1))).f0).toList) (((rd_T30 l0 x7_1).f0).toList)) = true) then ((spec_l6Hangs.f k1 l0 ((rd_T30 l0 x7_1).f0) ((rd_T30 l0 x7_1).f1) ((rd_T30 l0 x7_1).f2) ((rd_T30 l0 x7_1).f3.f0) ((rd_T30 l0 x7_1).f3.f1) ((rd_T30 l0 x7_1).f4) ((rd_T30 l0 x7_1).f5) ((rd_T30 l0 x7_1).f6)).bind fun t168 => (if t168 = true then (spec_IsRig.l0 k1 l0 l0 (l0.length : Int) (wrap64 (x7_1 + 1))) else (some false))) else (some false)) else (none)) else (none)) else ((spec_l6Hangs.f k1 l0 ((rd_T30 l0 x7_1).f0) ((rd_T30 l0 x7_1).f1) ((rd_T30 l0 x7_1).f2) ((rd_T30 l0 x7_1).f3.f0) ((rd_T30 l0 x7_1).f3.f1) ((rd_T30 l0 x7_1).f4) ((rd_T30 l0 x7_1).f5) ((rd_T30 l0 x7_1).f6)).bind fun t169 => (if t169 = true then (spec_IsRig.l0 k1 l0 l0 (l0.length : Int) (wrap64 (x7_1 + 1))) else (some false)))) else (some false)) = some r := H
      have A5 := am A50
      clear A50
      by_cases c6 : t166 = true
      ·subst c6
       have H1 : (if x7_1 > 0 then (if 0 ≤ (wrap64 (x7_1 - 1)) then (if (wrap64 (x7_1 - 1)) < (l0.length : Int) then (if ((Op.bytesLess (((rd_T30 l0 (wrap64 (x7_1 - 1))).f0).toList) (((rd_T30 l0 x7_1).f0).toList)) = true) then ((spec_l6Hangs.f k1 l0 ((rd_T30 l0 x7_1).f0) ((rd_T30 l0 x7_1).f1) ((rd_T30 l0 x7_1).f2) ((rd_T30 l0 x7_1).f3.f0) ((rd_T30 l0 x7_1).f3.f1) ((rd_T30 l0 x7_1).f4) ((rd_T30 l0 x7_1).f5) ((rd_T30 l0 x7_1).f6)).bind fun t168 => (if t168 = true then (spec_IsRig.l0 k1 l0 l0 (l0.length : Int) (wrap64 (x7_1 + 1))) else (some false))) else (some false)) else (none)) else (none)) else ((spec_l6Hangs.f k1 l0 ((rd_T30 l0 x7_1).f0) ((rd_T30 l0 x7_1).f1) ((rd_T30 l0 x7_1).f2) ((rd_T30 l0 x7_1).f3.f0) ((rd_T30 l0 x7_1).f3.f1) ((rd_T30 l0 x7_1).f4) ((rd_T30 l0 x7_1).f5) ((rd_T30 l0 x7_1).f6)).bind fun t169 => (if t169 = true then (spec_IsRig.l0 k1 l0 l0 (l0.length : Int) (wrap64 (x7_1 + 1))) else (some false)))) = some r := by rw [if_pos rfl] at H; exact H
       clear H
       have H := H1
       clear H1
       by_cases c7 : x7_1 > 0
       ·rw [if_pos c7] at H
        have c7b0 : decide (0 < x7_1) = true := decide_eq_true c7
        clear c7
        obtain ⟨ji8, hji8⟩ : ∃ j_ : Int, (wrap64 (x7_1 - 1)) = j_ := ⟨_, rfl⟩
        replace H : (if 0 ≤ (ji8) then (if (ji8) < (l0.length : Int) then (if ((Op.bytesLess (((rd_T30 l0 (ji8)).f0).toList) (((rd_T30 l0 x7_1).f0).toList)) = true) then ((spec_l6Hangs.f k1 l0 ((rd_T30 l0 x7_1).f0) ((rd_T30 l0 x7_1).f1) ((rd_T30 l0 x7_1).f2) ((rd_T30 l0 x7_1).f3.f0) ((rd_T30 l0 x7_1).f3.f1) ((rd_T30 l0 x7_1).f4) ((rd_T30 l0 x7_1).f5) ((rd_T30 l0 x7_1).f6)).bind fun t168 => (if t168 = true then (spec_IsRig.l0 k1 l0 l0 (l0.length : Int) (wrap64 (x7_1 + 1))) else (some false))) else (some false)) else (none)) else (none)) = some r := by first | (rw [hji8] at H; exact H) | (simp only [hji8] at H ⊢; exact H)
        (try rw [hji8] at A5)
        have hji8w : (IntKind.i64.wrap (x7_1 - 1)) = ji8 := (i64_w _).trans hji8
        by_cases c9 : 0 ≤ (ji8)
        ·rw [if_pos c9] at H
         have c9b0 : decide (0 ≤ (ji8)) = true := decide_eq_true c9
         clear c9
         by_cases c10 : (ji8) < (l0.length : Int)
         ·rw [if_pos c10] at H
          have c10b0 : decide ((ji8) < (l0.length : Int)) = true := decide_eq_true c10
          clear c10
          by_cases c11 : ((Op.bytesLess (((rd_T30 l0 (ji8)).f0).toList) (((rd_T30 l0 x7_1).f0).toList)) = true)
          ·rw [if_pos c11] at H
           have c11b0 : (Op.bytesLess (((rd_T30 l0 (ji8)).f0).toList) (((rd_T30 l0 x7_1).f0).toList)) = true := c11
           clear c11
           replace H := Option.bind_eq_some_iff.mp H
           obtain ⟨t168, A120, H⟩ := H
           replace H : (if t168 = true then (spec_IsRig.l0 k1 l0 l0 (l0.length : Int) (wrap64 (x7_1 + 1))) else (some false)) = some r := H
           have A12 := am A120
           clear A120
           by_cases c13 : t168 = true
           ·subst c13
            have H1 : (spec_IsRig.l0 k1 l0 l0 (l0.length : Int) (wrap64 (x7_1 + 1))) = some r := by rw [if_pos rfl] at H; exact H
            clear H
            have H := H1
            clear H1
            have H' := am H
            clear H
            have p164 : 0 ≤ (x7_1 : Int) := od (by assumption)
            have q164 : x7_1 < (l0.length : Int) := od (by assumption)
            obtain ⟨ad164, e164, hx164_0, hx164_1, hx164_2, hx164_3, hx164_4, hx164_5, hx164_6, hx164_7⟩ := at_T30 (Kd.C_below HR0.out HB.out) x7_1 p164 q164
            cases e164
            replace p164 := eq_true p164
            replace q164 := eq_true q164
            try go_wp2_with (first | ((with_reducible refine gate_dst (N := 4) rfl ?_); refine box_event ?hg (N := 4) ?hd (cs := #[.string (⟨#[]⟩ : ByteArray), .int .i64 0, .string (⟨#[]⟩ : ByteArray), .int .i64 0, .int .i64 0, .int .i64 0, .int .i64 0, .int .i64 0]) (t := 30) ?hr ?_; (case hd => rfl); (case hg => rfl); (case hr => exact gq); intro gb165 hg w14 hbox hb; have n0_ := am (below_step u8_0 hb); have n1_ := am (hbox); have n2_ := bsw w hg (below_size u8_0); have n3_ := bsw w hg (below_size u8_0); clear HB; have HB := n0_; have BK165 := n1_; have GW165 := n2_; have GE165 := n3_; clear n0_ n1_ n2_ n3_ hb hbox hg; obtain ⟨hcz15_0, hcz15_1, hcz15_2, hcz15_3, hcz15_4, hcz15_5, hcz15_6, hcz15_7, hfz15_0, hfz15_1, hfz15_2, hfz15_3, hfz15_4, hfz15_5, hfz15_6, hfz15_7⟩ := cf8 BK165.out))
            have n0_ : Aside0 (((((((((w14.setCell ⟨gb165, 0, none⟩ (.string ((rd_T30 l0 x7_1).f0))).setCell ⟨gb165, 1, none⟩ (.int .i64 ((rd_T30 l0 x7_1).f1))).setCell ⟨gb165, 2, none⟩ (.string ((rd_T30 l0 x7_1).f2))).setCell ⟨gb165, 3, none⟩ (.int .i64 ((rd_T30 l0 x7_1).f3.f0))).setCell ⟨gb165, 4, none⟩ (.int .i64 ((rd_T30 l0 x7_1).f3.f1))).setCell ⟨gb165, 5, none⟩ (.int .i64 ((rd_T30 l0 x7_1).f4))).setCell ⟨gb165, 6, none⟩ (.int .i64 ((rd_T30 l0 x7_1).f5))).setCell ⟨gb165, 7, none⟩ (.int .i64 ((rd_T30 l0 x7_1).f6))).heap[gb165]? = some (.cells #[.string ((rd_T30 l0 x7_1).f0), .int .i64 ((rd_T30 l0 x7_1).f1), .string ((rd_T30 l0 x7_1).f2), .int .i64 ((rd_T30 l0 x7_1).f3.f0), .int .i64 ((rd_T30 l0 x7_1).f3.f1), .int .i64 ((rd_T30 l0 x7_1).f4), .int .i64 ((rd_T30 l0 x7_1).f5), .int .i64 ((rd_T30 l0 x7_1).f6)] 30 (0, 0))) := ⟨by (with_reducible repeat (first | refine blk_drewN ?_ _ | refine blk_drew ?_ | refine blk_alloc ?_ _)); refine blk_put (cs := zr5 ((rd_T30 l0 x7_1).f0) ((rd_T30 l0 x7_1).f1) ((rd_T30 l0 x7_1).f2) ((rd_T30 l0 x7_1).f3.f0) ((rd_T30 l0 x7_1).f3.f1) ((rd_T30 l0 x7_1).f4) ((rd_T30 l0 x7_1).f5) 0) ?_ 7 _ rfl; refine blk_put (cs := zr5 ((rd_T30 l0 x7_1).f0) ((rd_T30 l0 x7_1).f1) ((rd_T30 l0 x7_1).f2) ((rd_T30 l0 x7_1).f3.f0) ((rd_T30 l0 x7_1).f3.f1) ((rd_T30 l0 x7_1).f4) 0 0) ?_ 6 _ rfl; refine blk_put (cs := zr5 ((rd_T30 l0 x7_1).f0) ((rd_T30 l0 x7_1).f1) ((rd_T30 l0 x7_1).f2) ((rd_T30 l0 x7_1).f3.f0) ((rd_T30 l0 x7_1).f3.f1) 0 0 0) ?_ 5 _ rfl; refine blk_put (cs := zr5 ((rd_T30 l0 x7_1).f0) ((rd_T30 l0 x7_1).f1) ((rd_T30 l0 x7_1).f2) ((rd_T30 l0 x7_1).f3.f0) 0 0 0 0) ?_ 4 _ rfl; refine blk_put (cs := zr5 ((rd_T30 l0 x7_1).f0) ((rd_T30 l0 x7_1).f1) ((rd_T30 l0 x7_1).f2) 0 0 0 0 0) ?_ 3 _ rfl; refine blk_put (cs := zr5 ((rd_T30 l0 x7_1).f0) ((rd_T30 l0 x7_1).f1) (⟨#[]⟩ : ByteArray) 0 0 0 0 0) ?_ 2 _ rfl; (with_reducible repeat (first | refine blk_drewN ?_ _ | refine blk_drew ?_ | refine blk_alloc ?_ _)); refine blk_put (cs := zr5 ((rd_T30 l0 x7_1).f0) 0 (⟨#[]⟩ : ByteArray) 0 0 0 0 0) ?_ 1 _ rfl; (with_reducible repeat (first | refine blk_drewN ?_ _ | refine blk_drew ?_ | refine blk_alloc ?_ _)); refine blk_put (cs := zr5 (⟨#[]⟩ : ByteArray) 0 (⟨#[]⟩ : ByteArray) 0 0 0 0 0) ?_ 0 _ rfl; (with_reducible repeat (first | refine blk_drewN ?_ _ | refine blk_drew ?_ | refine blk_alloc ?_ _)); exact BK165.out⟩
            have n1_ : Aside0 (Below w.heap.size w ((((((((w14.setCell ⟨gb165, 0, none⟩ (.string ((rd_T30 l0 x7_1).f0))).setCell ⟨gb165, 1, none⟩ (.int .i64 ((rd_T30 l0 x7_1).f1))).setCell ⟨gb165, 2, none⟩ (.string ((rd_T30 l0 x7_1).f2))).setCell ⟨gb165, 3, none⟩ (.int .i64 ((rd_T30 l0 x7_1).f3.f0))).setCell ⟨gb165, 4, none⟩ (.int .i64 ((rd_T30 l0 x7_1).f3.f1))).setCell ⟨gb165, 5, none⟩ (.int .i64 ((rd_T30 l0 x7_1).f4))).setCell ⟨gb165, 6, none⟩ (.int .i64 ((rd_T30 l0 x7_1).f5))).setCell ⟨gb165, 7, none⟩ (.int .i64 ((rd_T30 l0 x7_1).f6)))) := ⟨s8_1⟩
            (try clear BK165)
            (try clear HB)
            (try simp only [show ∀ (w_ : World) (n_ : Nat) (a_ : Addr) (v_ : Value), (w_.drewN n_).setCell a_ v_ = (w_.setCell a_ v_).drewN n_ from fun _ _ _ _ => rfl, show ∀ (w_ : World) (a_ : Addr) (v_ : Value), w_.drew.setCell a_ v_ = (w_.setCell a_ v_).drew from fun _ _ _ => rfl])
            generalize ((((((((w14.setCell ⟨gb165, 0, none⟩ (.string ((rd_T30 l0 x7_1).f0))).setCell ⟨gb165, 1, none⟩ (.int .i64 ((rd_T30 l0 x7_1).f1))).setCell ⟨gb165, 2, none⟩ (.string ((rd_T30 l0 x7_1).f2))).setCell ⟨gb165, 3, none⟩ (.int .i64 ((rd_T30 l0 x7_1).f3.f0))).setCell ⟨gb165, 4, none⟩ (.int .i64 ((rd_T30 l0 x7_1).f3.f1))).setCell ⟨gb165, 5, none⟩ (.int .i64 ((rd_T30 l0 x7_1).f4))).setCell ⟨gb165, 6, none⟩ (.int .i64 ((rd_T30 l0 x7_1).f5))).setCell ⟨gb165, 7, none⟩ (.int .i64 ((rd_T30 l0 x7_1).f6))) = w16 at n0_ n1_ ⊢
            have BK165 := n0_
            have HB := n1_
            clear n0_ n1_
            have n0_ := am (blk_drew BK165.out)
            have n1_ := am (below_drew1 HB.out)
            clear BK165 HB
            have BK165 := n0_
            have HB := n1_
            clear n0_ n1_
            have p167 : 0 ≤ ((ji8) : Int) := od (by assumption)
            have q167 : (ji8) < (l0.length : Int) := od (by assumption)
            obtain ⟨ad167, e167, hx167_0, hx167_1, hx167_2, hx167_3, hx167_4, hx167_5, hx167_6, hx167_7⟩ := at_T30 HR0.out (ji8) p167 q167
            have hw167_7 := hx167_7
            have hw167_6 := hx167_6
            have hw167_5 := hx167_5
            have hw167_4 := hx167_4
            have hw167_3 := hx167_3
            have hw167_2 := hx167_2
            have hw167_1 := hx167_1
            have hw167_0 := hx167_0
            obtain rfl : ad164 = ad167 := (by injection e167)
            replace hx167_0 := bc HB.out hx167_0
            replace hx167_1 := bc HB.out hx167_1
            replace hx167_2 := bc HB.out hx167_2
            replace hx167_3 := bc HB.out hx167_3
            replace hx167_4 := bc HB.out hx167_4
            replace hx167_5 := bc HB.out hx167_5
            replace hx167_6 := bc HB.out hx167_6
            replace hx167_7 := bc HB.out hx167_7
            replace p167 := eq_true p167
            replace q167 := eq_true q167
            refine start_ (n := 24) (S := fun w' => zc1 w' gb165 (rd_T30 l0 x7_1) (zc2 w' (ad164.add (((ji8)).toNat * 8)) (rd_T30 l0 (ji8)))) (ds := []) mk8_0 (by kernel_rfl) rfl rfl ⟨(blk_cell BK165.out 0).trans rfl, (blk_cell BK165.out 1).trans rfl, (blk_cell BK165.out 2).trans rfl, (blk_cell BK165.out 3).trans rfl, (blk_cell BK165.out 4).trans rfl, (blk_cell BK165.out 5).trans rfl, (blk_cell BK165.out 6).trans rfl, (blk_cell BK165.out 7).trans rfl, (bc HB.out hw167_0), (bc HB.out hw167_1), (bc HB.out hw167_2), (bc HB.out hw167_3), (bc HB.out hw167_4), (bc HB.out hw167_5), (bc HB.out hw167_6), (bc HB.out hw167_7)⟩ (fun hHeld => ?_); refine with_tabW spec_IsRig.tab4 spec_IsRig.bits4 (fun HT_ HW_ => ?_)
            generalize w16.drew = w17 at BK165 HB hx167_0 hx167_1 hx167_2 hx167_3 hx167_4 hx167_5 hx167_6 hx167_7 hHeld ⊢
            refine take_ (i := 0) (N := some 12) (v := ?_) (a' := ?_) mk8_1 rfl rfl (take_ofW HT_.out HW_.out (by kernel_rfl)) (fun _ _ _ h => h) (Or.inl ⟨by rfl, ?_⟩) hHeld ?_ ?_
            rotate_left
            ·rintro w' ⟨s0, s1, s2, s3, s4, s5, s6, s7, s8, s9, s10, s11, s12, s13, s14, s15⟩
             exact gs
            rotate_left
            ·exact ap
            refine one_ (i := 1) (N := some 13) mk8_2 rfl rfl (one_of HT_.out (by kernel_rfl)) (by decide) (fun K hK => ?_)
            refine goes_ Try.func16 (by kernel_rfl) rfl #[.agg #[.string ((rd_T30 l0 x7_1).f0), .int .i64 ((rd_T30 l0 x7_1).f1), .string ((rd_T30 l0 x7_1).f2), .int .i64 ((rd_T30 l0 x7_1).f3.f0), .int .i64 ((rd_T30 l0 x7_1).f3.f1), .int .i64 ((rd_T30 l0 x7_1).f4), .int .i64 ((rd_T30 l0 x7_1).f5), .int .i64 ((rd_T30 l0 x7_1).f6)]] (by rfl) rfl rfl u8_3 ?_
            with_reducible refine (spec_IsDevice.calls k1 ((rd_T30 l0 x7_1).f0) ((rd_T30 l0 x7_1).f1) ((rd_T30 l0 x7_1).f2) ((rd_T30 l0 x7_1).f3.f0) ((rd_T30 l0 x7_1).f3.f1) ((rd_T30 l0 x7_1).f4) ((rd_T30 l0 x7_1).f5) ((rd_T30 l0 x7_1).f6) true _ A5.out).mono ?_
            rintro e w18 ⟨rfl, hb⟩
            refine ⟨_, rfl, ?_⟩
            have n0_ := am (blk_below (g := gb165) (o := zo4 (rd_T30 l0 x7_1)) u8_2 hb)
            have n1_ := am (below_step u8_1 hb)
            clear BK165 HB
            have BK165 := n0_
            have HB := n1_
            clear n0_ n1_
            (try clear hb)
            (try clear hb2)
            (try clear hk)
            (try clear hi)
            refine hK.out _ _ ⟨(blk_cell BK165.out 0).trans rfl, (blk_cell BK165.out 1).trans rfl, (blk_cell BK165.out 2).trans rfl, (blk_cell BK165.out 3).trans rfl, (blk_cell BK165.out 4).trans rfl, (blk_cell BK165.out 5).trans rfl, (blk_cell BK165.out 6).trans rfl, (blk_cell BK165.out 7).trans rfl, (bc HB.out hw167_0), (bc HB.out hw167_1), (bc HB.out hw167_2), (bc HB.out hw167_3), (bc HB.out hw167_4), (bc HB.out hw167_5), (bc HB.out hw167_6), (bc HB.out hw167_7)⟩ (fun hHeld => ?_)
            clear hK K
            refine norm_ (a' := ?_) ?_ ?_
            rotate_left
            ·show Act.put _ (some 13) _ = _
             simp only [Act.put, List.setIfInBounds_toArray, List.set_cons_zero, List.set_cons_succ, i64_w, i32_w]
             rfl
            refine pz 2 14 mk8_3 (any_of HT_.out (by kernel_rfl)) ?_
            refine pz 3 15 mk8_4 (any_of HT_.out (by kernel_rfl)) ?_
            refine pz 4 16 mk8_5 (any_of HT_.out (by kernel_rfl)) ?_
            refine pz 5 17 mk8_6 (any_of HT_.out (by kernel_rfl)) ?_
            refine pz 6 18 mk8_7 (any_of HT_.out (by kernel_rfl)) ?_
            refine pz 7 19 mk8_8 (any_of HT_.out (by kernel_rfl)) ?_
            refine pz 8 20 mk8_9 (any_of HT_.out (by kernel_rfl)) ?_
            refine pz 9 21 mk8_10 (any_of HT_.out (by kernel_rfl)) ?_
            refine pz 10 22 mk8_11 (any_of HT_.out (by kernel_rfl)) ?_
            refine pz 11 23 mk8_12 (any_of HT_.out (by kernel_rfl)) ?_
            refine pz 13 25 mk8_13 (any_of HT_.out (by kernel_rfl)) ?_
            refine take_ (i := 12) (N := some 24) (v := ?_) (a' := ?_) mk8_15 rfl rfl (take_ofW HT_.out HW_.out (by kernel_rfl)) (fun _ _ _ h => h) (Or.inl ⟨by rfl, ?_⟩) hHeld ?_ ?_
            rotate_left
            ·rintro w' ⟨s0, s1, s2, s3, s4, s5, s6, s7, s8, s9, s10, s11, s12, s13, s14, s15⟩
             exact gs
            rotate_left
            ·exact ap
            refine take_ (i := 14) (N := some 26) (v := ?_) (a' := ?_) mk8_16 rfl rfl (take_ofW HT_.out HW_.out (by kernel_rfl)) (fun _ _ _ h => h) (Or.inl ⟨by rfl, ?_⟩) hHeld ?_ ?_
            rotate_left
            ·rintro w' ⟨s0, s1, s2, s3, s4, s5, s6, s7, s8, s9, s10, s11, s12, s13, s14, s15⟩
             exact gs
            rotate_left
            ·exact ap
            refine pz 15 27 mk8_17 (any_of HT_.out (by kernel_rfl)) ?_
            refine pz 16 28 mk8_18 (any_of HT_.out (by kernel_rfl)) ?_
            refine pz 17 29 mk8_19 (any_of HT_.out (by kernel_rfl)) ?_
            refine pz 18 30 mk8_20 (any_of HT_.out (by kernel_rfl)) ?_
            refine pz 19 31 mk8_21 (any_of HT_.out (by kernel_rfl)) ?_
            refine take_ (i := 20) (N := some 32) (v := ?_) (a' := ?_) mk8_22 rfl rfl (take_ofW HT_.out HW_.out (by kernel_rfl)) (fun _ _ _ h => h) (Or.inl ⟨by rfl, ?_⟩) hHeld ?_ ?_
            rotate_left
            ·rintro w' ⟨s0, s1, s2, s3, s4, s5, s6, s7, s8, s9, s10, s11, s12, s13, s14, s15⟩
             exact gs
            rotate_left
            ·exact ap
            refine one_ (i := 21) (N := some 33) mk8_23 rfl rfl (one_of HT_.out (by kernel_rfl)) (by decide) (fun K hK => ?_)
            refine goes_ Try.func64 (by kernel_rfl) rfl #[.slice (some ad164) l0.length c0, .agg #[.string ((rd_T30 l0 x7_1).f0), .int .i64 ((rd_T30 l0 x7_1).f1), .string ((rd_T30 l0 x7_1).f2), .int .i64 ((rd_T30 l0 x7_1).f3.f0), .int .i64 ((rd_T30 l0 x7_1).f3.f1), .int .i64 ((rd_T30 l0 x7_1).f4), .int .i64 ((rd_T30 l0 x7_1).f5), .int .i64 ((rd_T30 l0 x7_1).f6)]] (by rfl) rfl rfl u8_3 ?_
            with_reducible refine (spec_l6Hangs.calls k1 _ _ l0 ((rd_T30 l0 x7_1).f0) ((rd_T30 l0 x7_1).f1) ((rd_T30 l0 x7_1).f2) ((rd_T30 l0 x7_1).f3.f0) ((rd_T30 l0 x7_1).f3.f1) ((rd_T30 l0 x7_1).f4) ((rd_T30 l0 x7_1).f5) ((rd_T30 l0 x7_1).f6) true _ ?side1 ?side2 A12.out).mono ?_
            (case side1 => exact s8_0)
            (case side2 => exact HC0.out)
            rintro e w19 ⟨rfl, hb⟩
            refine ⟨_, rfl, ?_⟩
            have n0_ := am (blk_below (g := gb165) (o := zo4 (rd_T30 l0 x7_1)) u8_2 hb)
            have n1_ := am (below_step u8_1 hb)
            clear BK165 HB
            have BK165 := n0_
            have HB := n1_
            clear n0_ n1_
            (try clear hb)
            (try clear hb2)
            (try clear hk)
            (try clear hi)
            refine hK.out _ _ ⟨(blk_cell BK165.out 0).trans rfl, (blk_cell BK165.out 1).trans rfl, (blk_cell BK165.out 2).trans rfl, (blk_cell BK165.out 3).trans rfl, (blk_cell BK165.out 4).trans rfl, (blk_cell BK165.out 5).trans rfl, (blk_cell BK165.out 6).trans rfl, (blk_cell BK165.out 7).trans rfl, (bc HB.out hw167_0), (bc HB.out hw167_1), (bc HB.out hw167_2), (bc HB.out hw167_3), (bc HB.out hw167_4), (bc HB.out hw167_5), (bc HB.out hw167_6), (bc HB.out hw167_7)⟩ (fun hHeld => ?_)
            clear hK K
            refine norm_ (a' := ?_) ?_ ?_
            rotate_left
            ·show Act.put _ (some 33) _ = _
             simp only [Act.put, List.setIfInBounds_toArray, List.set_cons_zero, List.set_cons_succ, i64_w, i32_w]
             rfl
            refine pz 22 34 mk8_24 (any_of HT_.out (by kernel_rfl)) ?_
            refine pz 23 35 mk8_25 (any_of HT_.out (by kernel_rfl)) ?_
            refine done_ (done_of HT_.out (by kernel_rfl)) ?_
            try go_wp2
            go_roundg k1
            case measure => have := HK1.out; omega
            case rel => exact ⟨(wrap64 (x7_1 + 1)), (by first | rfl | (simp; done) | (simp [*]; done)), H', ⟨by have := HK1.out; omega⟩, ⟨s8_1⟩⟩
           ·replace c13 := Bool.eq_false_iff.mpr c13
            subst c13
            have H1 : (some false) = some r := by rw [if_neg (show ¬ (false = true) by decide)] at H; exact H
            clear H
            have H := H1
            clear H1
            obtain rfl := Option.some.inj H
            have p164 : 0 ≤ (x7_1 : Int) := od (by assumption)
            have q164 : x7_1 < (l0.length : Int) := od (by assumption)
            obtain ⟨ad164, e164, hx164_0, hx164_1, hx164_2, hx164_3, hx164_4, hx164_5, hx164_6, hx164_7⟩ := at_T30 (Kd.C_below HR0.out HB.out) x7_1 p164 q164
            cases e164
            replace p164 := eq_true p164
            replace q164 := eq_true q164
            try go_wp2_with (first | ((with_reducible refine gate_dst (N := 4) rfl ?_); refine box_event ?hg (N := 4) ?hd (cs := #[.string (⟨#[]⟩ : ByteArray), .int .i64 0, .string (⟨#[]⟩ : ByteArray), .int .i64 0, .int .i64 0, .int .i64 0, .int .i64 0, .int .i64 0]) (t := 30) ?hr ?_; (case hd => rfl); (case hg => rfl); (case hr => exact gq); intro gb165 hg w20 hbox hb; have n0_ := am (below_step u8_0 hb); have n1_ := am (hbox); have n2_ := bsw w hg (below_size u8_0); have n3_ := bsw w hg (below_size u8_0); clear HB; have HB := n0_; have BK165 := n1_; have GW165 := n2_; have GE165 := n3_; clear n0_ n1_ n2_ n3_ hb hbox hg; obtain ⟨hcz21_0, hcz21_1, hcz21_2, hcz21_3, hcz21_4, hcz21_5, hcz21_6, hcz21_7, hfz21_0, hfz21_1, hfz21_2, hfz21_3, hfz21_4, hfz21_5, hfz21_6, hfz21_7⟩ := cf8 BK165.out))
            have n0_ : Aside0 (((((((((w20.setCell ⟨gb165, 0, none⟩ (.string ((rd_T30 l0 x7_1).f0))).setCell ⟨gb165, 1, none⟩ (.int .i64 ((rd_T30 l0 x7_1).f1))).setCell ⟨gb165, 2, none⟩ (.string ((rd_T30 l0 x7_1).f2))).setCell ⟨gb165, 3, none⟩ (.int .i64 ((rd_T30 l0 x7_1).f3.f0))).setCell ⟨gb165, 4, none⟩ (.int .i64 ((rd_T30 l0 x7_1).f3.f1))).setCell ⟨gb165, 5, none⟩ (.int .i64 ((rd_T30 l0 x7_1).f4))).setCell ⟨gb165, 6, none⟩ (.int .i64 ((rd_T30 l0 x7_1).f5))).setCell ⟨gb165, 7, none⟩ (.int .i64 ((rd_T30 l0 x7_1).f6))).heap[gb165]? = some (.cells #[.string ((rd_T30 l0 x7_1).f0), .int .i64 ((rd_T30 l0 x7_1).f1), .string ((rd_T30 l0 x7_1).f2), .int .i64 ((rd_T30 l0 x7_1).f3.f0), .int .i64 ((rd_T30 l0 x7_1).f3.f1), .int .i64 ((rd_T30 l0 x7_1).f4), .int .i64 ((rd_T30 l0 x7_1).f5), .int .i64 ((rd_T30 l0 x7_1).f6)] 30 (0, 0))) := ⟨by (with_reducible repeat (first | refine blk_drewN ?_ _ | refine blk_drew ?_ | refine blk_alloc ?_ _)); refine blk_put (cs := zr5 ((rd_T30 l0 x7_1).f0) ((rd_T30 l0 x7_1).f1) ((rd_T30 l0 x7_1).f2) ((rd_T30 l0 x7_1).f3.f0) ((rd_T30 l0 x7_1).f3.f1) ((rd_T30 l0 x7_1).f4) ((rd_T30 l0 x7_1).f5) 0) ?_ 7 _ rfl; refine blk_put (cs := zr5 ((rd_T30 l0 x7_1).f0) ((rd_T30 l0 x7_1).f1) ((rd_T30 l0 x7_1).f2) ((rd_T30 l0 x7_1).f3.f0) ((rd_T30 l0 x7_1).f3.f1) ((rd_T30 l0 x7_1).f4) 0 0) ?_ 6 _ rfl; refine blk_put (cs := zr5 ((rd_T30 l0 x7_1).f0) ((rd_T30 l0 x7_1).f1) ((rd_T30 l0 x7_1).f2) ((rd_T30 l0 x7_1).f3.f0) ((rd_T30 l0 x7_1).f3.f1) 0 0 0) ?_ 5 _ rfl; refine blk_put (cs := zr5 ((rd_T30 l0 x7_1).f0) ((rd_T30 l0 x7_1).f1) ((rd_T30 l0 x7_1).f2) ((rd_T30 l0 x7_1).f3.f0) 0 0 0 0) ?_ 4 _ rfl; refine blk_put (cs := zr5 ((rd_T30 l0 x7_1).f0) ((rd_T30 l0 x7_1).f1) ((rd_T30 l0 x7_1).f2) 0 0 0 0 0) ?_ 3 _ rfl; refine blk_put (cs := zr5 ((rd_T30 l0 x7_1).f0) ((rd_T30 l0 x7_1).f1) (⟨#[]⟩ : ByteArray) 0 0 0 0 0) ?_ 2 _ rfl; (with_reducible repeat (first | refine blk_drewN ?_ _ | refine blk_drew ?_ | refine blk_alloc ?_ _)); refine blk_put (cs := zr5 ((rd_T30 l0 x7_1).f0) 0 (⟨#[]⟩ : ByteArray) 0 0 0 0 0) ?_ 1 _ rfl; (with_reducible repeat (first | refine blk_drewN ?_ _ | refine blk_drew ?_ | refine blk_alloc ?_ _)); refine blk_put (cs := zr5 (⟨#[]⟩ : ByteArray) 0 (⟨#[]⟩ : ByteArray) 0 0 0 0 0) ?_ 0 _ rfl; (with_reducible repeat (first | refine blk_drewN ?_ _ | refine blk_drew ?_ | refine blk_alloc ?_ _)); exact BK165.out⟩
            have n1_ : Aside0 (Below w.heap.size w ((((((((w20.setCell ⟨gb165, 0, none⟩ (.string ((rd_T30 l0 x7_1).f0))).setCell ⟨gb165, 1, none⟩ (.int .i64 ((rd_T30 l0 x7_1).f1))).setCell ⟨gb165, 2, none⟩ (.string ((rd_T30 l0 x7_1).f2))).setCell ⟨gb165, 3, none⟩ (.int .i64 ((rd_T30 l0 x7_1).f3.f0))).setCell ⟨gb165, 4, none⟩ (.int .i64 ((rd_T30 l0 x7_1).f3.f1))).setCell ⟨gb165, 5, none⟩ (.int .i64 ((rd_T30 l0 x7_1).f4))).setCell ⟨gb165, 6, none⟩ (.int .i64 ((rd_T30 l0 x7_1).f5))).setCell ⟨gb165, 7, none⟩ (.int .i64 ((rd_T30 l0 x7_1).f6)))) := ⟨s8_1⟩
            (try clear BK165)
            (try clear HB)
            (try simp only [show ∀ (w_ : World) (n_ : Nat) (a_ : Addr) (v_ : Value), (w_.drewN n_).setCell a_ v_ = (w_.setCell a_ v_).drewN n_ from fun _ _ _ _ => rfl, show ∀ (w_ : World) (a_ : Addr) (v_ : Value), w_.drew.setCell a_ v_ = (w_.setCell a_ v_).drew from fun _ _ _ => rfl])
            generalize ((((((((w20.setCell ⟨gb165, 0, none⟩ (.string ((rd_T30 l0 x7_1).f0))).setCell ⟨gb165, 1, none⟩ (.int .i64 ((rd_T30 l0 x7_1).f1))).setCell ⟨gb165, 2, none⟩ (.string ((rd_T30 l0 x7_1).f2))).setCell ⟨gb165, 3, none⟩ (.int .i64 ((rd_T30 l0 x7_1).f3.f0))).setCell ⟨gb165, 4, none⟩ (.int .i64 ((rd_T30 l0 x7_1).f3.f1))).setCell ⟨gb165, 5, none⟩ (.int .i64 ((rd_T30 l0 x7_1).f4))).setCell ⟨gb165, 6, none⟩ (.int .i64 ((rd_T30 l0 x7_1).f5))).setCell ⟨gb165, 7, none⟩ (.int .i64 ((rd_T30 l0 x7_1).f6))) = w22 at n0_ n1_ ⊢
            have BK165 := n0_
            have HB := n1_
            clear n0_ n1_
            have n0_ := am (blk_drew BK165.out)
            have n1_ := am (below_drew1 HB.out)
            clear BK165 HB
            have BK165 := n0_
            have HB := n1_
            clear n0_ n1_
            have p167 : 0 ≤ ((ji8) : Int) := od (by assumption)
            have q167 : (ji8) < (l0.length : Int) := od (by assumption)
            obtain ⟨ad167, e167, hx167_0, hx167_1, hx167_2, hx167_3, hx167_4, hx167_5, hx167_6, hx167_7⟩ := at_T30 HR0.out (ji8) p167 q167
            have hw167_7 := hx167_7
            have hw167_6 := hx167_6
            have hw167_5 := hx167_5
            have hw167_4 := hx167_4
            have hw167_3 := hx167_3
            have hw167_2 := hx167_2
            have hw167_1 := hx167_1
            have hw167_0 := hx167_0
            obtain rfl : ad164 = ad167 := (by injection e167)
            replace hx167_0 := bc HB.out hx167_0
            replace hx167_1 := bc HB.out hx167_1
            replace hx167_2 := bc HB.out hx167_2
            replace hx167_3 := bc HB.out hx167_3
            replace hx167_4 := bc HB.out hx167_4
            replace hx167_5 := bc HB.out hx167_5
            replace hx167_6 := bc HB.out hx167_6
            replace hx167_7 := bc HB.out hx167_7
            replace p167 := eq_true p167
            replace q167 := eq_true q167
            refine start_ (n := 24) (S := fun w' => zc1 w' gb165 (rd_T30 l0 x7_1) (zc2 w' (ad164.add (((ji8)).toNat * 8)) (rd_T30 l0 (ji8)))) (ds := []) mk8_0 (by kernel_rfl) rfl rfl ⟨(blk_cell BK165.out 0).trans rfl, (blk_cell BK165.out 1).trans rfl, (blk_cell BK165.out 2).trans rfl, (blk_cell BK165.out 3).trans rfl, (blk_cell BK165.out 4).trans rfl, (blk_cell BK165.out 5).trans rfl, (blk_cell BK165.out 6).trans rfl, (blk_cell BK165.out 7).trans rfl, (bc HB.out hw167_0), (bc HB.out hw167_1), (bc HB.out hw167_2), (bc HB.out hw167_3), (bc HB.out hw167_4), (bc HB.out hw167_5), (bc HB.out hw167_6), (bc HB.out hw167_7)⟩ (fun hHeld => ?_); refine with_tabW spec_IsRig.tab4 spec_IsRig.bits4 (fun HT_ HW_ => ?_)
            generalize w22.drew = w23 at BK165 HB hx167_0 hx167_1 hx167_2 hx167_3 hx167_4 hx167_5 hx167_6 hx167_7 hHeld ⊢
            refine take_ (i := 0) (N := some 12) (v := ?_) (a' := ?_) mk8_1 rfl rfl (take_ofW HT_.out HW_.out (by kernel_rfl)) (fun _ _ _ h => h) (Or.inl ⟨by rfl, ?_⟩) hHeld ?_ ?_
            rotate_left
            ·rintro w' ⟨s0, s1, s2, s3, s4, s5, s6, s7, s8, s9, s10, s11, s12, s13, s14, s15⟩
             exact gs
            rotate_left
            ·exact ap
            refine one_ (i := 1) (N := some 13) mk8_2 rfl rfl (one_of HT_.out (by kernel_rfl)) (by decide) (fun K hK => ?_)
            refine goes_ Try.func16 (by kernel_rfl) rfl #[.agg #[.string ((rd_T30 l0 x7_1).f0), .int .i64 ((rd_T30 l0 x7_1).f1), .string ((rd_T30 l0 x7_1).f2), .int .i64 ((rd_T30 l0 x7_1).f3.f0), .int .i64 ((rd_T30 l0 x7_1).f3.f1), .int .i64 ((rd_T30 l0 x7_1).f4), .int .i64 ((rd_T30 l0 x7_1).f5), .int .i64 ((rd_T30 l0 x7_1).f6)]] (by rfl) rfl rfl u8_3 ?_
            with_reducible refine (spec_IsDevice.calls k1 ((rd_T30 l0 x7_1).f0) ((rd_T30 l0 x7_1).f1) ((rd_T30 l0 x7_1).f2) ((rd_T30 l0 x7_1).f3.f0) ((rd_T30 l0 x7_1).f3.f1) ((rd_T30 l0 x7_1).f4) ((rd_T30 l0 x7_1).f5) ((rd_T30 l0 x7_1).f6) true _ A5.out).mono ?_
            rintro e w24 ⟨rfl, hb⟩
            refine ⟨_, rfl, ?_⟩
            have n0_ := am (blk_below (g := gb165) (o := zo4 (rd_T30 l0 x7_1)) u8_2 hb)
            have n1_ := am (below_step u8_1 hb)
            clear BK165 HB
            have BK165 := n0_
            have HB := n1_
            clear n0_ n1_
            (try clear hb)
            (try clear hb2)
            (try clear hk)
            (try clear hi)
            refine hK.out _ _ ⟨(blk_cell BK165.out 0).trans rfl, (blk_cell BK165.out 1).trans rfl, (blk_cell BK165.out 2).trans rfl, (blk_cell BK165.out 3).trans rfl, (blk_cell BK165.out 4).trans rfl, (blk_cell BK165.out 5).trans rfl, (blk_cell BK165.out 6).trans rfl, (blk_cell BK165.out 7).trans rfl, (bc HB.out hw167_0), (bc HB.out hw167_1), (bc HB.out hw167_2), (bc HB.out hw167_3), (bc HB.out hw167_4), (bc HB.out hw167_5), (bc HB.out hw167_6), (bc HB.out hw167_7)⟩ (fun hHeld => ?_)
            clear hK K
            refine norm_ (a' := ?_) ?_ ?_
            rotate_left
            ·show Act.put _ (some 13) _ = _
             simp only [Act.put, List.setIfInBounds_toArray, List.set_cons_zero, List.set_cons_succ, i64_w, i32_w]
             rfl
            refine pz 2 14 mk8_3 (any_of HT_.out (by kernel_rfl)) ?_
            refine pz 3 15 mk8_4 (any_of HT_.out (by kernel_rfl)) ?_
            refine pz 4 16 mk8_5 (any_of HT_.out (by kernel_rfl)) ?_
            refine pz 5 17 mk8_6 (any_of HT_.out (by kernel_rfl)) ?_
            refine pz 6 18 mk8_7 (any_of HT_.out (by kernel_rfl)) ?_
            refine pz 7 19 mk8_8 (any_of HT_.out (by kernel_rfl)) ?_
            refine pz 8 20 mk8_9 (any_of HT_.out (by kernel_rfl)) ?_
            refine pz 9 21 mk8_10 (any_of HT_.out (by kernel_rfl)) ?_
            refine pz 10 22 mk8_11 (any_of HT_.out (by kernel_rfl)) ?_
            refine pz 11 23 mk8_12 (any_of HT_.out (by kernel_rfl)) ?_
            refine pz 13 25 mk8_13 (any_of HT_.out (by kernel_rfl)) ?_
            refine take_ (i := 12) (N := some 24) (v := ?_) (a' := ?_) mk8_15 rfl rfl (take_ofW HT_.out HW_.out (by kernel_rfl)) (fun _ _ _ h => h) (Or.inl ⟨by rfl, ?_⟩) hHeld ?_ ?_
            rotate_left
            ·rintro w' ⟨s0, s1, s2, s3, s4, s5, s6, s7, s8, s9, s10, s11, s12, s13, s14, s15⟩
             exact gs
            rotate_left
            ·exact ap
            refine take_ (i := 14) (N := some 26) (v := ?_) (a' := ?_) mk8_16 rfl rfl (take_ofW HT_.out HW_.out (by kernel_rfl)) (fun _ _ _ h => h) (Or.inl ⟨by rfl, ?_⟩) hHeld ?_ ?_
            rotate_left
            ·rintro w' ⟨s0, s1, s2, s3, s4, s5, s6, s7, s8, s9, s10, s11, s12, s13, s14, s15⟩
             exact gs
            rotate_left
            ·exact ap
            refine pz 15 27 mk8_17 (any_of HT_.out (by kernel_rfl)) ?_
            refine pz 16 28 mk8_18 (any_of HT_.out (by kernel_rfl)) ?_
            refine pz 17 29 mk8_19 (any_of HT_.out (by kernel_rfl)) ?_
            refine pz 18 30 mk8_20 (any_of HT_.out (by kernel_rfl)) ?_
            refine pz 19 31 mk8_21 (any_of HT_.out (by kernel_rfl)) ?_
            refine take_ (i := 20) (N := some 32) (v := ?_) (a' := ?_) mk8_22 rfl rfl (take_ofW HT_.out HW_.out (by kernel_rfl)) (fun _ _ _ h => h) (Or.inl ⟨by rfl, ?_⟩) hHeld ?_ ?_
            rotate_left
            ·rintro w' ⟨s0, s1, s2, s3, s4, s5, s6, s7, s8, s9, s10, s11, s12, s13, s14, s15⟩
             exact gs
            rotate_left
            ·exact ap
            refine one_ (i := 21) (N := some 33) mk8_23 rfl rfl (one_of HT_.out (by kernel_rfl)) (by decide) (fun K hK => ?_)
            refine goes_ Try.func64 (by kernel_rfl) rfl #[.slice (some ad164) l0.length c0, .agg #[.string ((rd_T30 l0 x7_1).f0), .int .i64 ((rd_T30 l0 x7_1).f1), .string ((rd_T30 l0 x7_1).f2), .int .i64 ((rd_T30 l0 x7_1).f3.f0), .int .i64 ((rd_T30 l0 x7_1).f3.f1), .int .i64 ((rd_T30 l0 x7_1).f4), .int .i64 ((rd_T30 l0 x7_1).f5), .int .i64 ((rd_T30 l0 x7_1).f6)]] (by rfl) rfl rfl u8_3 ?_
            with_reducible refine (spec_l6Hangs.calls k1 _ _ l0 ((rd_T30 l0 x7_1).f0) ((rd_T30 l0 x7_1).f1) ((rd_T30 l0 x7_1).f2) ((rd_T30 l0 x7_1).f3.f0) ((rd_T30 l0 x7_1).f3.f1) ((rd_T30 l0 x7_1).f4) ((rd_T30 l0 x7_1).f5) ((rd_T30 l0 x7_1).f6) false _ ?side1 ?side2 A12.out).mono ?_
            (case side1 => exact s8_0)
            (case side2 => exact HC0.out)
            rintro e w25 ⟨rfl, hb⟩
            refine ⟨_, rfl, ?_⟩
            have n0_ := am (blk_below (g := gb165) (o := zo4 (rd_T30 l0 x7_1)) u8_2 hb)
            have n1_ := am (below_step u8_1 hb)
            clear BK165 HB
            have BK165 := n0_
            have HB := n1_
            clear n0_ n1_
            (try clear hb)
            (try clear hb2)
            (try clear hk)
            (try clear hi)
            refine hK.out _ _ ⟨(blk_cell BK165.out 0).trans rfl, (blk_cell BK165.out 1).trans rfl, (blk_cell BK165.out 2).trans rfl, (blk_cell BK165.out 3).trans rfl, (blk_cell BK165.out 4).trans rfl, (blk_cell BK165.out 5).trans rfl, (blk_cell BK165.out 6).trans rfl, (blk_cell BK165.out 7).trans rfl, (bc HB.out hw167_0), (bc HB.out hw167_1), (bc HB.out hw167_2), (bc HB.out hw167_3), (bc HB.out hw167_4), (bc HB.out hw167_5), (bc HB.out hw167_6), (bc HB.out hw167_7)⟩ (fun hHeld => ?_)
            clear hK K
            refine norm_ (a' := ?_) ?_ ?_
            rotate_left
            ·show Act.put _ (some 33) _ = _
             simp only [Act.put, List.setIfInBounds_toArray, List.set_cons_zero, List.set_cons_succ, i64_w, i32_w]
             rfl
            refine pz 22 34 mk8_24 (any_of HT_.out (by kernel_rfl)) ?_
            refine pz 23 35 mk8_25 (any_of HT_.out (by kernel_rfl)) ?_
            refine done_ (done_of HT_.out (by kernel_rfl)) ?_
            try go_wp2
            go_ret
            exact ⟨by first | rfl | (simp [errW_none, errW_some] <;> rfl) | (simp only [← hji8]; first | rfl | (simp [errW_none, errW_some] <;> rfl)) | (simp [*, errW_none, errW_some] <;> rfl), s8_1⟩
          ·rw [if_neg c11] at H
           have c11b0 : (Op.bytesLess (((rd_T30 l0 (ji8)).f0).toList) (((rd_T30 l0 x7_1).f0).toList)) = false := by simpa using c11
           clear c11
           obtain rfl := Option.some.inj H
           have p164 : 0 ≤ (x7_1 : Int) := od (by assumption)
           have q164 : x7_1 < (l0.length : Int) := od (by assumption)
           obtain ⟨ad164, e164, hx164_0, hx164_1, hx164_2, hx164_3, hx164_4, hx164_5, hx164_6, hx164_7⟩ := at_T30 (Kd.C_below HR0.out HB.out) x7_1 p164 q164
           cases e164
           replace p164 := eq_true p164
           replace q164 := eq_true q164
           try go_wp2_with (first | ((with_reducible refine gate_dst (N := 4) rfl ?_); refine box_event ?hg (N := 4) ?hd (cs := #[.string (⟨#[]⟩ : ByteArray), .int .i64 0, .string (⟨#[]⟩ : ByteArray), .int .i64 0, .int .i64 0, .int .i64 0, .int .i64 0, .int .i64 0]) (t := 30) ?hr ?_; (case hd => rfl); (case hg => rfl); (case hr => exact gq); intro gb165 hg w26 hbox hb; have n0_ := am (below_step u8_0 hb); have n1_ := am (hbox); have n2_ := bsw w hg (below_size u8_0); have n3_ := bsw w hg (below_size u8_0); clear HB; have HB := n0_; have BK165 := n1_; have GW165 := n2_; have GE165 := n3_; clear n0_ n1_ n2_ n3_ hb hbox hg; obtain ⟨hcz27_0, hcz27_1, hcz27_2, hcz27_3, hcz27_4, hcz27_5, hcz27_6, hcz27_7, hfz27_0, hfz27_1, hfz27_2, hfz27_3, hfz27_4, hfz27_5, hfz27_6, hfz27_7⟩ := cf8 BK165.out))
           have n0_ : Aside0 (((((((((w26.setCell ⟨gb165, 0, none⟩ (.string ((rd_T30 l0 x7_1).f0))).setCell ⟨gb165, 1, none⟩ (.int .i64 ((rd_T30 l0 x7_1).f1))).setCell ⟨gb165, 2, none⟩ (.string ((rd_T30 l0 x7_1).f2))).setCell ⟨gb165, 3, none⟩ (.int .i64 ((rd_T30 l0 x7_1).f3.f0))).setCell ⟨gb165, 4, none⟩ (.int .i64 ((rd_T30 l0 x7_1).f3.f1))).setCell ⟨gb165, 5, none⟩ (.int .i64 ((rd_T30 l0 x7_1).f4))).setCell ⟨gb165, 6, none⟩ (.int .i64 ((rd_T30 l0 x7_1).f5))).setCell ⟨gb165, 7, none⟩ (.int .i64 ((rd_T30 l0 x7_1).f6))).heap[gb165]? = some (.cells #[.string ((rd_T30 l0 x7_1).f0), .int .i64 ((rd_T30 l0 x7_1).f1), .string ((rd_T30 l0 x7_1).f2), .int .i64 ((rd_T30 l0 x7_1).f3.f0), .int .i64 ((rd_T30 l0 x7_1).f3.f1), .int .i64 ((rd_T30 l0 x7_1).f4), .int .i64 ((rd_T30 l0 x7_1).f5), .int .i64 ((rd_T30 l0 x7_1).f6)] 30 (0, 0))) := ⟨by (with_reducible repeat (first | refine blk_drewN ?_ _ | refine blk_drew ?_ | refine blk_alloc ?_ _)); refine blk_put (cs := zr5 ((rd_T30 l0 x7_1).f0) ((rd_T30 l0 x7_1).f1) ((rd_T30 l0 x7_1).f2) ((rd_T30 l0 x7_1).f3.f0) ((rd_T30 l0 x7_1).f3.f1) ((rd_T30 l0 x7_1).f4) ((rd_T30 l0 x7_1).f5) 0) ?_ 7 _ rfl; refine blk_put (cs := zr5 ((rd_T30 l0 x7_1).f0) ((rd_T30 l0 x7_1).f1) ((rd_T30 l0 x7_1).f2) ((rd_T30 l0 x7_1).f3.f0) ((rd_T30 l0 x7_1).f3.f1) ((rd_T30 l0 x7_1).f4) 0 0) ?_ 6 _ rfl; refine blk_put (cs := zr5 ((rd_T30 l0 x7_1).f0) ((rd_T30 l0 x7_1).f1) ((rd_T30 l0 x7_1).f2) ((rd_T30 l0 x7_1).f3.f0) ((rd_T30 l0 x7_1).f3.f1) 0 0 0) ?_ 5 _ rfl; refine blk_put (cs := zr5 ((rd_T30 l0 x7_1).f0) ((rd_T30 l0 x7_1).f1) ((rd_T30 l0 x7_1).f2) ((rd_T30 l0 x7_1).f3.f0) 0 0 0 0) ?_ 4 _ rfl; refine blk_put (cs := zr5 ((rd_T30 l0 x7_1).f0) ((rd_T30 l0 x7_1).f1) ((rd_T30 l0 x7_1).f2) 0 0 0 0 0) ?_ 3 _ rfl; refine blk_put (cs := zr5 ((rd_T30 l0 x7_1).f0) ((rd_T30 l0 x7_1).f1) (⟨#[]⟩ : ByteArray) 0 0 0 0 0) ?_ 2 _ rfl; (with_reducible repeat (first | refine blk_drewN ?_ _ | refine blk_drew ?_ | refine blk_alloc ?_ _)); refine blk_put (cs := zr5 ((rd_T30 l0 x7_1).f0) 0 (⟨#[]⟩ : ByteArray) 0 0 0 0 0) ?_ 1 _ rfl; (with_reducible repeat (first | refine blk_drewN ?_ _ | refine blk_drew ?_ | refine blk_alloc ?_ _)); refine blk_put (cs := zr5 (⟨#[]⟩ : ByteArray) 0 (⟨#[]⟩ : ByteArray) 0 0 0 0 0) ?_ 0 _ rfl; (with_reducible repeat (first | refine blk_drewN ?_ _ | refine blk_drew ?_ | refine blk_alloc ?_ _)); exact BK165.out⟩
           have n1_ : Aside0 (Below w.heap.size w ((((((((w26.setCell ⟨gb165, 0, none⟩ (.string ((rd_T30 l0 x7_1).f0))).setCell ⟨gb165, 1, none⟩ (.int .i64 ((rd_T30 l0 x7_1).f1))).setCell ⟨gb165, 2, none⟩ (.string ((rd_T30 l0 x7_1).f2))).setCell ⟨gb165, 3, none⟩ (.int .i64 ((rd_T30 l0 x7_1).f3.f0))).setCell ⟨gb165, 4, none⟩ (.int .i64 ((rd_T30 l0 x7_1).f3.f1))).setCell ⟨gb165, 5, none⟩ (.int .i64 ((rd_T30 l0 x7_1).f4))).setCell ⟨gb165, 6, none⟩ (.int .i64 ((rd_T30 l0 x7_1).f5))).setCell ⟨gb165, 7, none⟩ (.int .i64 ((rd_T30 l0 x7_1).f6)))) := ⟨s8_1⟩
           (try clear BK165)
           (try clear HB)
           (try simp only [show ∀ (w_ : World) (n_ : Nat) (a_ : Addr) (v_ : Value), (w_.drewN n_).setCell a_ v_ = (w_.setCell a_ v_).drewN n_ from fun _ _ _ _ => rfl, show ∀ (w_ : World) (a_ : Addr) (v_ : Value), w_.drew.setCell a_ v_ = (w_.setCell a_ v_).drew from fun _ _ _ => rfl])
           generalize ((((((((w26.setCell ⟨gb165, 0, none⟩ (.string ((rd_T30 l0 x7_1).f0))).setCell ⟨gb165, 1, none⟩ (.int .i64 ((rd_T30 l0 x7_1).f1))).setCell ⟨gb165, 2, none⟩ (.string ((rd_T30 l0 x7_1).f2))).setCell ⟨gb165, 3, none⟩ (.int .i64 ((rd_T30 l0 x7_1).f3.f0))).setCell ⟨gb165, 4, none⟩ (.int .i64 ((rd_T30 l0 x7_1).f3.f1))).setCell ⟨gb165, 5, none⟩ (.int .i64 ((rd_T30 l0 x7_1).f4))).setCell ⟨gb165, 6, none⟩ (.int .i64 ((rd_T30 l0 x7_1).f5))).setCell ⟨gb165, 7, none⟩ (.int .i64 ((rd_T30 l0 x7_1).f6))) = w28 at n0_ n1_ ⊢
           have BK165 := n0_
           have HB := n1_
           clear n0_ n1_
           have n0_ := am (blk_drew BK165.out)
           have n1_ := am (below_drew1 HB.out)
           clear BK165 HB
           have BK165 := n0_
           have HB := n1_
           clear n0_ n1_
           have p167 : 0 ≤ ((ji8) : Int) := od (by assumption)
           have q167 : (ji8) < (l0.length : Int) := od (by assumption)
           obtain ⟨ad167, e167, hx167_0, hx167_1, hx167_2, hx167_3, hx167_4, hx167_5, hx167_6, hx167_7⟩ := at_T30 HR0.out (ji8) p167 q167
           have hw167_7 := hx167_7
           have hw167_6 := hx167_6
           have hw167_5 := hx167_5
           have hw167_4 := hx167_4
           have hw167_3 := hx167_3
           have hw167_2 := hx167_2
           have hw167_1 := hx167_1
           have hw167_0 := hx167_0
           obtain rfl : ad164 = ad167 := (by injection e167)
           replace hx167_0 := bc HB.out hx167_0
           replace hx167_1 := bc HB.out hx167_1
           replace hx167_2 := bc HB.out hx167_2
           replace hx167_3 := bc HB.out hx167_3
           replace hx167_4 := bc HB.out hx167_4
           replace hx167_5 := bc HB.out hx167_5
           replace hx167_6 := bc HB.out hx167_6
           replace hx167_7 := bc HB.out hx167_7
           replace p167 := eq_true p167
           replace q167 := eq_true q167
           refine start_ (n := 24) (S := fun w' => zc1 w' gb165 (rd_T30 l0 x7_1) (zc2 w' (ad164.add (((ji8)).toNat * 8)) (rd_T30 l0 (ji8)))) (ds := []) mk8_0 (by kernel_rfl) rfl rfl ⟨(blk_cell BK165.out 0).trans rfl, (blk_cell BK165.out 1).trans rfl, (blk_cell BK165.out 2).trans rfl, (blk_cell BK165.out 3).trans rfl, (blk_cell BK165.out 4).trans rfl, (blk_cell BK165.out 5).trans rfl, (blk_cell BK165.out 6).trans rfl, (blk_cell BK165.out 7).trans rfl, (bc HB.out hw167_0), (bc HB.out hw167_1), (bc HB.out hw167_2), (bc HB.out hw167_3), (bc HB.out hw167_4), (bc HB.out hw167_5), (bc HB.out hw167_6), (bc HB.out hw167_7)⟩ (fun hHeld => ?_); refine with_tabW spec_IsRig.tab4 spec_IsRig.bits4 (fun HT_ HW_ => ?_)
           generalize w28.drew = w29 at BK165 HB hx167_0 hx167_1 hx167_2 hx167_3 hx167_4 hx167_5 hx167_6 hx167_7 hHeld ⊢
           refine take_ (i := 0) (N := some 12) (v := ?_) (a' := ?_) mk8_1 rfl rfl (take_ofW HT_.out HW_.out (by kernel_rfl)) (fun _ _ _ h => h) (Or.inl ⟨by rfl, ?_⟩) hHeld ?_ ?_
           rotate_left
           ·rintro w' ⟨s0, s1, s2, s3, s4, s5, s6, s7, s8, s9, s10, s11, s12, s13, s14, s15⟩
            exact gs
           rotate_left
           ·exact ap
           refine one_ (i := 1) (N := some 13) mk8_2 rfl rfl (one_of HT_.out (by kernel_rfl)) (by decide) (fun K hK => ?_)
           refine goes_ Try.func16 (by kernel_rfl) rfl #[.agg #[.string ((rd_T30 l0 x7_1).f0), .int .i64 ((rd_T30 l0 x7_1).f1), .string ((rd_T30 l0 x7_1).f2), .int .i64 ((rd_T30 l0 x7_1).f3.f0), .int .i64 ((rd_T30 l0 x7_1).f3.f1), .int .i64 ((rd_T30 l0 x7_1).f4), .int .i64 ((rd_T30 l0 x7_1).f5), .int .i64 ((rd_T30 l0 x7_1).f6)]] (by rfl) rfl rfl u8_3 ?_
           with_reducible refine (spec_IsDevice.calls k1 ((rd_T30 l0 x7_1).f0) ((rd_T30 l0 x7_1).f1) ((rd_T30 l0 x7_1).f2) ((rd_T30 l0 x7_1).f3.f0) ((rd_T30 l0 x7_1).f3.f1) ((rd_T30 l0 x7_1).f4) ((rd_T30 l0 x7_1).f5) ((rd_T30 l0 x7_1).f6) true _ A5.out).mono ?_
           rintro e w30 ⟨rfl, hb⟩
           refine ⟨_, rfl, ?_⟩
           have n0_ := am (blk_below (g := gb165) (o := zo4 (rd_T30 l0 x7_1)) u8_2 hb)
           have n1_ := am (below_step u8_1 hb)
           clear BK165 HB
           have BK165 := n0_
           have HB := n1_
           clear n0_ n1_
           (try clear hb)
           (try clear hb2)
           (try clear hk)
           (try clear hi)
           refine hK.out _ _ ⟨(blk_cell BK165.out 0).trans rfl, (blk_cell BK165.out 1).trans rfl, (blk_cell BK165.out 2).trans rfl, (blk_cell BK165.out 3).trans rfl, (blk_cell BK165.out 4).trans rfl, (blk_cell BK165.out 5).trans rfl, (blk_cell BK165.out 6).trans rfl, (blk_cell BK165.out 7).trans rfl, (bc HB.out hw167_0), (bc HB.out hw167_1), (bc HB.out hw167_2), (bc HB.out hw167_3), (bc HB.out hw167_4), (bc HB.out hw167_5), (bc HB.out hw167_6), (bc HB.out hw167_7)⟩ (fun hHeld => ?_)
           clear hK K
           refine norm_ (a' := ?_) ?_ ?_
           rotate_left
           ·show Act.put _ (some 13) _ = _
            simp only [Act.put, List.setIfInBounds_toArray, List.set_cons_zero, List.set_cons_succ, i64_w, i32_w]
            rfl
           refine pz 2 14 mk8_3 (any_of HT_.out (by kernel_rfl)) ?_
           refine pz 3 15 mk8_4 (any_of HT_.out (by kernel_rfl)) ?_
           refine pz 4 16 mk8_5 (any_of HT_.out (by kernel_rfl)) ?_
           refine pz 5 17 mk8_6 (any_of HT_.out (by kernel_rfl)) ?_
           refine pz 6 18 mk8_7 (any_of HT_.out (by kernel_rfl)) ?_
           refine pz 7 19 mk8_8 (any_of HT_.out (by kernel_rfl)) ?_
           refine pz 8 20 mk8_9 (any_of HT_.out (by kernel_rfl)) ?_
           refine pz 9 21 mk8_10 (any_of HT_.out (by kernel_rfl)) ?_
           refine pz 10 22 mk8_11 (any_of HT_.out (by kernel_rfl)) ?_
           refine pz 11 23 mk8_12 (any_of HT_.out (by kernel_rfl)) ?_
           refine pz 13 25 mk8_13 (any_of HT_.out (by kernel_rfl)) ?_
           refine take_ (i := 12) (N := some 24) (v := ?_) (a' := ?_) mk8_15 rfl rfl (take_ofW HT_.out HW_.out (by kernel_rfl)) (fun _ _ _ h => h) (Or.inl ⟨by rfl, ?_⟩) hHeld ?_ ?_
           rotate_left
           ·rintro w' ⟨s0, s1, s2, s3, s4, s5, s6, s7, s8, s9, s10, s11, s12, s13, s14, s15⟩
            exact gs
           rotate_left
           ·exact ap
           refine take_ (i := 14) (N := some 26) (v := ?_) (a' := ?_) mk8_16 rfl rfl (take_ofW HT_.out HW_.out (by kernel_rfl)) (fun _ _ _ h => h) (Or.inl ⟨by rfl, ?_⟩) hHeld ?_ ?_
           rotate_left
           ·rintro w' ⟨s0, s1, s2, s3, s4, s5, s6, s7, s8, s9, s10, s11, s12, s13, s14, s15⟩
            exact gs
           rotate_left
           ·exact ap
           refine pz 15 27 mk8_17 (any_of HT_.out (by kernel_rfl)) ?_
           refine pz 16 28 mk8_18 (any_of HT_.out (by kernel_rfl)) ?_
           refine pz 17 29 mk8_19 (any_of HT_.out (by kernel_rfl)) ?_
           refine pz 18 30 mk8_20 (any_of HT_.out (by kernel_rfl)) ?_
           refine pure_ (i := 19) (N := some 31) (v := undef) (a' := ?_) mk8_21 rfl rfl (any_of HT_.out (by kernel_rfl)) (fun _ _ _ h => h) (Or.inr ⟨by rfl, rfl⟩) ?_ ?_
           rotate_left
           ·exact ap
           refine pure_ (i := 20) (N := some 32) (v := undef) (a' := ?_) mk8_22 rfl rfl (any_of HT_.out (by kernel_rfl)) (fun _ _ _ h => h) (Or.inr ⟨by rfl, rfl⟩) ?_ ?_
           rotate_left
           ·exact ap
           refine pure_ (i := 21) (N := some 33) (v := undef) (a' := ?_) mk8_23 rfl rfl (any_of HT_.out (by kernel_rfl)) (fun _ _ _ h => h) (Or.inr ⟨by rfl, rfl⟩) ?_ ?_
           rotate_left
           ·exact ap
           refine pure_ (i := 22) (N := some 34) (v := undef) (a' := ?_) mk8_24 rfl rfl (any_of HT_.out (by kernel_rfl)) (fun _ _ _ h => h) (Or.inr ⟨by rfl, rfl⟩) ?_ ?_
           rotate_left
           ·exact ap
           refine pz 23 35 mk8_25 (any_of HT_.out (by kernel_rfl)) ?_
           refine done_ (done_of HT_.out (by kernel_rfl)) ?_
           try go_wp2
           go_ret
           exact ⟨by first | rfl | (simp [errW_none, errW_some] <;> rfl) | (simp only [← hji8]; first | rfl | (simp [errW_none, errW_some] <;> rfl)) | (simp [*, errW_none, errW_some] <;> rfl), s8_1⟩
         ·rw [if_neg c10] at H
          exact absurd H (by simp)
        ·rw [if_neg c9] at H
         exact absurd H (by simp)
       ·rw [if_neg c7] at H
        have c7b0 : decide (0 < x7_1) = false := decide_eq_false c7
        clear c7
        replace H := Option.bind_eq_some_iff.mp H
        obtain ⟨t169, A310, H⟩ := H
        replace H : (if t169 = true then (spec_IsRig.l0 k1 l0 l0 (l0.length : Int) (wrap64 (x7_1 + 1))) else (some false)) = some r := H
        have A31 := am A310
        clear A310
        by_cases c32 : t169 = true
        ·subst c32
         have H1 : (spec_IsRig.l0 k1 l0 l0 (l0.length : Int) (wrap64 (x7_1 + 1))) = some r := by rw [if_pos rfl] at H; exact H
         clear H
         have H := H1
         clear H1
         have H' := am H
         clear H
         have p164 : 0 ≤ (x7_1 : Int) := od (by assumption)
         have q164 : x7_1 < (l0.length : Int) := od (by assumption)
         obtain ⟨ad164, e164, hx164_0, hx164_1, hx164_2, hx164_3, hx164_4, hx164_5, hx164_6, hx164_7⟩ := at_T30 (Kd.C_below HR0.out HB.out) x7_1 p164 q164
         cases e164
         replace p164 := eq_true p164
         replace q164 := eq_true q164
         try go_wp2_with (first | ((with_reducible refine gate_dst (N := 4) rfl ?_); refine box_event ?hg (N := 4) ?hd (cs := #[.string (⟨#[]⟩ : ByteArray), .int .i64 0, .string (⟨#[]⟩ : ByteArray), .int .i64 0, .int .i64 0, .int .i64 0, .int .i64 0, .int .i64 0]) (t := 30) ?hr ?_; (case hd => rfl); (case hg => rfl); (case hr => exact gq); intro gb165 hg w33 hbox hb; have n0_ := am (below_step u8_0 hb); have n1_ := am (hbox); have n2_ := bsw w hg (below_size u8_0); have n3_ := bsw w hg (below_size u8_0); clear HB; have HB := n0_; have BK165 := n1_; have GW165 := n2_; have GE165 := n3_; clear n0_ n1_ n2_ n3_ hb hbox hg; obtain ⟨hcz34_0, hcz34_1, hcz34_2, hcz34_3, hcz34_4, hcz34_5, hcz34_6, hcz34_7, hfz34_0, hfz34_1, hfz34_2, hfz34_3, hfz34_4, hfz34_5, hfz34_6, hfz34_7⟩ := cf8 BK165.out))
         have n0_ : Aside0 (((((((((w33.setCell ⟨gb165, 0, none⟩ (.string ((rd_T30 l0 x7_1).f0))).setCell ⟨gb165, 1, none⟩ (.int .i64 ((rd_T30 l0 x7_1).f1))).setCell ⟨gb165, 2, none⟩ (.string ((rd_T30 l0 x7_1).f2))).setCell ⟨gb165, 3, none⟩ (.int .i64 ((rd_T30 l0 x7_1).f3.f0))).setCell ⟨gb165, 4, none⟩ (.int .i64 ((rd_T30 l0 x7_1).f3.f1))).setCell ⟨gb165, 5, none⟩ (.int .i64 ((rd_T30 l0 x7_1).f4))).setCell ⟨gb165, 6, none⟩ (.int .i64 ((rd_T30 l0 x7_1).f5))).setCell ⟨gb165, 7, none⟩ (.int .i64 ((rd_T30 l0 x7_1).f6))).heap[gb165]? = some (.cells #[.string ((rd_T30 l0 x7_1).f0), .int .i64 ((rd_T30 l0 x7_1).f1), .string ((rd_T30 l0 x7_1).f2), .int .i64 ((rd_T30 l0 x7_1).f3.f0), .int .i64 ((rd_T30 l0 x7_1).f3.f1), .int .i64 ((rd_T30 l0 x7_1).f4), .int .i64 ((rd_T30 l0 x7_1).f5), .int .i64 ((rd_T30 l0 x7_1).f6)] 30 (0, 0))) := ⟨by (with_reducible repeat (first | refine blk_drewN ?_ _ | refine blk_drew ?_ | refine blk_alloc ?_ _)); refine blk_put (cs := zr5 ((rd_T30 l0 x7_1).f0) ((rd_T30 l0 x7_1).f1) ((rd_T30 l0 x7_1).f2) ((rd_T30 l0 x7_1).f3.f0) ((rd_T30 l0 x7_1).f3.f1) ((rd_T30 l0 x7_1).f4) ((rd_T30 l0 x7_1).f5) 0) ?_ 7 _ rfl; refine blk_put (cs := zr5 ((rd_T30 l0 x7_1).f0) ((rd_T30 l0 x7_1).f1) ((rd_T30 l0 x7_1).f2) ((rd_T30 l0 x7_1).f3.f0) ((rd_T30 l0 x7_1).f3.f1) ((rd_T30 l0 x7_1).f4) 0 0) ?_ 6 _ rfl; refine blk_put (cs := zr5 ((rd_T30 l0 x7_1).f0) ((rd_T30 l0 x7_1).f1) ((rd_T30 l0 x7_1).f2) ((rd_T30 l0 x7_1).f3.f0) ((rd_T30 l0 x7_1).f3.f1) 0 0 0) ?_ 5 _ rfl; refine blk_put (cs := zr5 ((rd_T30 l0 x7_1).f0) ((rd_T30 l0 x7_1).f1) ((rd_T30 l0 x7_1).f2) ((rd_T30 l0 x7_1).f3.f0) 0 0 0 0) ?_ 4 _ rfl; refine blk_put (cs := zr5 ((rd_T30 l0 x7_1).f0) ((rd_T30 l0 x7_1).f1) ((rd_T30 l0 x7_1).f2) 0 0 0 0 0) ?_ 3 _ rfl; refine blk_put (cs := zr5 ((rd_T30 l0 x7_1).f0) ((rd_T30 l0 x7_1).f1) (⟨#[]⟩ : ByteArray) 0 0 0 0 0) ?_ 2 _ rfl; (with_reducible repeat (first | refine blk_drewN ?_ _ | refine blk_drew ?_ | refine blk_alloc ?_ _)); refine blk_put (cs := zr5 ((rd_T30 l0 x7_1).f0) 0 (⟨#[]⟩ : ByteArray) 0 0 0 0 0) ?_ 1 _ rfl; (with_reducible repeat (first | refine blk_drewN ?_ _ | refine blk_drew ?_ | refine blk_alloc ?_ _)); refine blk_put (cs := zr5 (⟨#[]⟩ : ByteArray) 0 (⟨#[]⟩ : ByteArray) 0 0 0 0 0) ?_ 0 _ rfl; (with_reducible repeat (first | refine blk_drewN ?_ _ | refine blk_drew ?_ | refine blk_alloc ?_ _)); exact BK165.out⟩
         have n1_ : Aside0 (Below w.heap.size w ((((((((w33.setCell ⟨gb165, 0, none⟩ (.string ((rd_T30 l0 x7_1).f0))).setCell ⟨gb165, 1, none⟩ (.int .i64 ((rd_T30 l0 x7_1).f1))).setCell ⟨gb165, 2, none⟩ (.string ((rd_T30 l0 x7_1).f2))).setCell ⟨gb165, 3, none⟩ (.int .i64 ((rd_T30 l0 x7_1).f3.f0))).setCell ⟨gb165, 4, none⟩ (.int .i64 ((rd_T30 l0 x7_1).f3.f1))).setCell ⟨gb165, 5, none⟩ (.int .i64 ((rd_T30 l0 x7_1).f4))).setCell ⟨gb165, 6, none⟩ (.int .i64 ((rd_T30 l0 x7_1).f5))).setCell ⟨gb165, 7, none⟩ (.int .i64 ((rd_T30 l0 x7_1).f6)))) := ⟨s8_1⟩
         (try clear BK165)
         (try clear HB)
         (try simp only [show ∀ (w_ : World) (n_ : Nat) (a_ : Addr) (v_ : Value), (w_.drewN n_).setCell a_ v_ = (w_.setCell a_ v_).drewN n_ from fun _ _ _ _ => rfl, show ∀ (w_ : World) (a_ : Addr) (v_ : Value), w_.drew.setCell a_ v_ = (w_.setCell a_ v_).drew from fun _ _ _ => rfl])
         generalize ((((((((w33.setCell ⟨gb165, 0, none⟩ (.string ((rd_T30 l0 x7_1).f0))).setCell ⟨gb165, 1, none⟩ (.int .i64 ((rd_T30 l0 x7_1).f1))).setCell ⟨gb165, 2, none⟩ (.string ((rd_T30 l0 x7_1).f2))).setCell ⟨gb165, 3, none⟩ (.int .i64 ((rd_T30 l0 x7_1).f3.f0))).setCell ⟨gb165, 4, none⟩ (.int .i64 ((rd_T30 l0 x7_1).f3.f1))).setCell ⟨gb165, 5, none⟩ (.int .i64 ((rd_T30 l0 x7_1).f4))).setCell ⟨gb165, 6, none⟩ (.int .i64 ((rd_T30 l0 x7_1).f5))).setCell ⟨gb165, 7, none⟩ (.int .i64 ((rd_T30 l0 x7_1).f6))) = w35 at n0_ n1_ ⊢
         have BK165 := n0_
         have HB := n1_
         clear n0_ n1_
         have n0_ := am (blk_drew BK165.out)
         have n1_ := am (below_drew1 HB.out)
         clear BK165 HB
         have BK165 := n0_
         have HB := n1_
         clear n0_ n1_
         refine start_ (n := 24) (S := fun w' => zc3 w' gb165 (rd_T30 l0 x7_1)) (ds := []) mk8_0 (by kernel_rfl) rfl rfl ⟨(blk_cell BK165.out 0).trans rfl, (blk_cell BK165.out 1).trans rfl, (blk_cell BK165.out 2).trans rfl, (blk_cell BK165.out 3).trans rfl, (blk_cell BK165.out 4).trans rfl, (blk_cell BK165.out 5).trans rfl, (blk_cell BK165.out 6).trans rfl, (blk_cell BK165.out 7).trans rfl⟩ (fun hHeld => ?_); refine with_tabW spec_IsRig.tab4 spec_IsRig.bits4 (fun HT_ HW_ => ?_)
         generalize w35.drew = w36 at BK165 HB hHeld ⊢
         refine take_ (i := 0) (N := some 12) (v := ?_) (a' := ?_) mk8_1 rfl rfl (take_ofW HT_.out HW_.out (by kernel_rfl)) (fun _ _ _ h => h) (Or.inl ⟨by rfl, ?_⟩) hHeld ?_ ?_
         rotate_left
         ·rintro w' ⟨s0, s1, s2, s3, s4, s5, s6, s7⟩
          exact gs
         rotate_left
         ·exact ap
         refine one_ (i := 1) (N := some 13) mk8_2 rfl rfl (one_of HT_.out (by kernel_rfl)) (by decide) (fun K hK => ?_)
         refine goes_ Try.func16 (by kernel_rfl) rfl #[.agg #[.string ((rd_T30 l0 x7_1).f0), .int .i64 ((rd_T30 l0 x7_1).f1), .string ((rd_T30 l0 x7_1).f2), .int .i64 ((rd_T30 l0 x7_1).f3.f0), .int .i64 ((rd_T30 l0 x7_1).f3.f1), .int .i64 ((rd_T30 l0 x7_1).f4), .int .i64 ((rd_T30 l0 x7_1).f5), .int .i64 ((rd_T30 l0 x7_1).f6)]] (by rfl) rfl rfl u8_3 ?_
         with_reducible refine (spec_IsDevice.calls k1 ((rd_T30 l0 x7_1).f0) ((rd_T30 l0 x7_1).f1) ((rd_T30 l0 x7_1).f2) ((rd_T30 l0 x7_1).f3.f0) ((rd_T30 l0 x7_1).f3.f1) ((rd_T30 l0 x7_1).f4) ((rd_T30 l0 x7_1).f5) ((rd_T30 l0 x7_1).f6) true _ A5.out).mono ?_
         rintro e w37 ⟨rfl, hb⟩
         refine ⟨_, rfl, ?_⟩
         have n0_ := am (blk_below (g := gb165) (o := zo4 (rd_T30 l0 x7_1)) u8_2 hb)
         have n1_ := am (below_step u8_1 hb)
         clear BK165 HB
         have BK165 := n0_
         have HB := n1_
         clear n0_ n1_
         (try clear hb)
         (try clear hb2)
         (try clear hk)
         (try clear hi)
         refine hK.out _ _ ⟨(blk_cell BK165.out 0).trans rfl, (blk_cell BK165.out 1).trans rfl, (blk_cell BK165.out 2).trans rfl, (blk_cell BK165.out 3).trans rfl, (blk_cell BK165.out 4).trans rfl, (blk_cell BK165.out 5).trans rfl, (blk_cell BK165.out 6).trans rfl, (blk_cell BK165.out 7).trans rfl⟩ (fun hHeld => ?_)
         clear hK K
         refine norm_ (a' := ?_) ?_ ?_
         rotate_left
         ·show Act.put _ (some 13) _ = _
          simp only [Act.put, List.setIfInBounds_toArray, List.set_cons_zero, List.set_cons_succ, i64_w, i32_w]
          rfl
         refine pz 2 14 mk8_3 (any_of HT_.out (by kernel_rfl)) ?_
         refine pz 3 15 mk8_4 (any_of HT_.out (by kernel_rfl)) ?_
         refine pz 4 16 mk8_5 (any_of HT_.out (by kernel_rfl)) ?_
         refine pz 5 17 mk8_6 (any_of HT_.out (by kernel_rfl)) ?_
         refine pz 6 18 mk8_7 (any_of HT_.out (by kernel_rfl)) ?_
         refine pure_ (i := 7) (N := some 19) (v := undef) (a' := ?_) mk8_8 rfl rfl (any_of HT_.out (by kernel_rfl)) (fun _ _ _ h => h) (Or.inr ⟨by rfl, rfl⟩) ?_ ?_
         rotate_left
         ·exact ap
         refine pure_ (i := 8) (N := some 20) (v := undef) (a' := ?_) mk8_9 rfl rfl (any_of HT_.out (by kernel_rfl)) (fun _ _ _ h => h) (Or.inr ⟨by rfl, rfl⟩) ?_ ?_
         rotate_left
         ·exact ap
         refine pure_ (i := 9) (N := some 21) (v := undef) (a' := ?_) mk8_10 rfl rfl (any_of HT_.out (by kernel_rfl)) (fun _ _ _ h => h) (Or.inr ⟨by rfl, rfl⟩) ?_ ?_
         rotate_left
         ·exact ap
         refine pure_ (i := 10) (N := some 22) (v := undef) (a' := ?_) mk8_11 rfl rfl (any_of HT_.out (by kernel_rfl)) (fun _ _ _ h => h) (Or.inr ⟨by rfl, rfl⟩) ?_ ?_
         rotate_left
         ·exact ap
         refine pure_ (i := 11) (N := some 23) (v := undef) (a' := ?_) mk8_12 rfl rfl (any_of HT_.out (by kernel_rfl)) (fun _ _ _ h => h) (Or.inr ⟨by rfl, rfl⟩) ?_ ?_
         rotate_left
         ·exact ap
         refine pure_ (i := 12) (N := some 24) (v := undef) (a' := ?_) mk8_14 rfl rfl (any_of HT_.out (by kernel_rfl)) (fun _ _ _ h => h) (Or.inr ⟨by rfl, rfl⟩) ?_ ?_
         rotate_left
         ·exact ap
         refine pure_ (i := 13) (N := some 25) (v := undef) (a' := ?_) mk8_15 rfl rfl (any_of HT_.out (by kernel_rfl)) (fun _ _ _ h => h) (Or.inr ⟨by rfl, rfl⟩) ?_ ?_
         rotate_left
         ·exact ap
         refine pure_ (i := 14) (N := some 26) (v := undef) (a' := ?_) mk8_16 rfl rfl (any_of HT_.out (by kernel_rfl)) (fun _ _ _ h => h) (Or.inr ⟨by rfl, rfl⟩) ?_ ?_
         rotate_left
         ·exact ap
         refine pure_ (i := 15) (N := some 27) (v := undef) (a' := ?_) mk8_17 rfl rfl (any_of HT_.out (by kernel_rfl)) (fun _ _ _ h => h) (Or.inr ⟨by rfl, rfl⟩) ?_ ?_
         rotate_left
         ·exact ap
         refine pz 16 28 mk8_18 (any_of HT_.out (by kernel_rfl)) ?_
         refine pz 17 29 mk8_19 (any_of HT_.out (by kernel_rfl)) ?_
         refine pz 18 30 mk8_20 (any_of HT_.out (by kernel_rfl)) ?_
         refine pz 19 31 mk8_21 (any_of HT_.out (by kernel_rfl)) ?_
         refine take_ (i := 20) (N := some 32) (v := ?_) (a' := ?_) mk8_22 rfl rfl (take_ofW HT_.out HW_.out (by kernel_rfl)) (fun _ _ _ h => h) (Or.inl ⟨by rfl, ?_⟩) hHeld ?_ ?_
         rotate_left
         ·rintro w' ⟨s0, s1, s2, s3, s4, s5, s6, s7⟩
          exact gs
         rotate_left
         ·exact ap
         refine one_ (i := 21) (N := some 33) mk8_23 rfl rfl (one_of HT_.out (by kernel_rfl)) (by decide) (fun K hK => ?_)
         refine goes_ Try.func64 (by kernel_rfl) rfl #[.slice (some ad164) l0.length c0, .agg #[.string ((rd_T30 l0 x7_1).f0), .int .i64 ((rd_T30 l0 x7_1).f1), .string ((rd_T30 l0 x7_1).f2), .int .i64 ((rd_T30 l0 x7_1).f3.f0), .int .i64 ((rd_T30 l0 x7_1).f3.f1), .int .i64 ((rd_T30 l0 x7_1).f4), .int .i64 ((rd_T30 l0 x7_1).f5), .int .i64 ((rd_T30 l0 x7_1).f6)]] (by rfl) rfl rfl u8_3 ?_
         with_reducible refine (spec_l6Hangs.calls k1 _ _ l0 ((rd_T30 l0 x7_1).f0) ((rd_T30 l0 x7_1).f1) ((rd_T30 l0 x7_1).f2) ((rd_T30 l0 x7_1).f3.f0) ((rd_T30 l0 x7_1).f3.f1) ((rd_T30 l0 x7_1).f4) ((rd_T30 l0 x7_1).f5) ((rd_T30 l0 x7_1).f6) true _ ?side1 ?side2 A31.out).mono ?_
         (case side1 => exact s8_0)
         (case side2 => exact HC0.out)
         rintro e w38 ⟨rfl, hb⟩
         refine ⟨_, rfl, ?_⟩
         have n0_ := am (blk_below (g := gb165) (o := zo4 (rd_T30 l0 x7_1)) u8_2 hb)
         have n1_ := am (below_step u8_1 hb)
         clear BK165 HB
         have BK165 := n0_
         have HB := n1_
         clear n0_ n1_
         (try clear hb)
         (try clear hb2)
         (try clear hk)
         (try clear hi)
         refine hK.out _ _ ⟨(blk_cell BK165.out 0).trans rfl, (blk_cell BK165.out 1).trans rfl, (blk_cell BK165.out 2).trans rfl, (blk_cell BK165.out 3).trans rfl, (blk_cell BK165.out 4).trans rfl, (blk_cell BK165.out 5).trans rfl, (blk_cell BK165.out 6).trans rfl, (blk_cell BK165.out 7).trans rfl⟩ (fun hHeld => ?_)
         clear hK K
         refine norm_ (a' := ?_) ?_ ?_
         rotate_left
         ·show Act.put _ (some 33) _ = _
          simp only [Act.put, List.setIfInBounds_toArray, List.set_cons_zero, List.set_cons_succ, i64_w, i32_w]
          rfl
         refine pz 22 34 mk8_24 (any_of HT_.out (by kernel_rfl)) ?_
         refine pz 23 35 mk8_25 (any_of HT_.out (by kernel_rfl)) ?_
         refine done_ (done_of HT_.out (by kernel_rfl)) ?_
         try go_wp2
         go_roundg k1
         case measure => have := HK1.out; omega
         case rel => exact ⟨(wrap64 (x7_1 + 1)), (by first | rfl | (simp; done) | (simp [*]; done)), H', ⟨by have := HK1.out; omega⟩, ⟨s8_1⟩⟩
        ·replace c32 := Bool.eq_false_iff.mpr c32
         subst c32
         have H1 : (some false) = some r := by rw [if_neg (show ¬ (false = true) by decide)] at H; exact H
         clear H
         have H := H1
         clear H1
         obtain rfl := Option.some.inj H
         have p164 : 0 ≤ (x7_1 : Int) := od (by assumption)
         have q164 : x7_1 < (l0.length : Int) := od (by assumption)
         obtain ⟨ad164, e164, hx164_0, hx164_1, hx164_2, hx164_3, hx164_4, hx164_5, hx164_6, hx164_7⟩ := at_T30 (Kd.C_below HR0.out HB.out) x7_1 p164 q164
         cases e164
         replace p164 := eq_true p164
         replace q164 := eq_true q164
         try go_wp2_with (first | ((with_reducible refine gate_dst (N := 4) rfl ?_); refine box_event ?hg (N := 4) ?hd (cs := #[.string (⟨#[]⟩ : ByteArray), .int .i64 0, .string (⟨#[]⟩ : ByteArray), .int .i64 0, .int .i64 0, .int .i64 0, .int .i64 0, .int .i64 0]) (t := 30) ?hr ?_; (case hd => rfl); (case hg => rfl); (case hr => exact gq); intro gb165 hg w39 hbox hb; have n0_ := am (below_step u8_0 hb); have n1_ := am (hbox); have n2_ := bsw w hg (below_size u8_0); have n3_ := bsw w hg (below_size u8_0); clear HB; have HB := n0_; have BK165 := n1_; have GW165 := n2_; have GE165 := n3_; clear n0_ n1_ n2_ n3_ hb hbox hg; obtain ⟨hcz40_0, hcz40_1, hcz40_2, hcz40_3, hcz40_4, hcz40_5, hcz40_6, hcz40_7, hfz40_0, hfz40_1, hfz40_2, hfz40_3, hfz40_4, hfz40_5, hfz40_6, hfz40_7⟩ := cf8 BK165.out))
         have n0_ : Aside0 (((((((((w39.setCell ⟨gb165, 0, none⟩ (.string ((rd_T30 l0 x7_1).f0))).setCell ⟨gb165, 1, none⟩ (.int .i64 ((rd_T30 l0 x7_1).f1))).setCell ⟨gb165, 2, none⟩ (.string ((rd_T30 l0 x7_1).f2))).setCell ⟨gb165, 3, none⟩ (.int .i64 ((rd_T30 l0 x7_1).f3.f0))).setCell ⟨gb165, 4, none⟩ (.int .i64 ((rd_T30 l0 x7_1).f3.f1))).setCell ⟨gb165, 5, none⟩ (.int .i64 ((rd_T30 l0 x7_1).f4))).setCell ⟨gb165, 6, none⟩ (.int .i64 ((rd_T30 l0 x7_1).f5))).setCell ⟨gb165, 7, none⟩ (.int .i64 ((rd_T30 l0 x7_1).f6))).heap[gb165]? = some (.cells #[.string ((rd_T30 l0 x7_1).f0), .int .i64 ((rd_T30 l0 x7_1).f1), .string ((rd_T30 l0 x7_1).f2), .int .i64 ((rd_T30 l0 x7_1).f3.f0), .int .i64 ((rd_T30 l0 x7_1).f3.f1), .int .i64 ((rd_T30 l0 x7_1).f4), .int .i64 ((rd_T30 l0 x7_1).f5), .int .i64 ((rd_T30 l0 x7_1).f6)] 30 (0, 0))) := ⟨by (with_reducible repeat (first | refine blk_drewN ?_ _ | refine blk_drew ?_ | refine blk_alloc ?_ _)); refine blk_put (cs := zr5 ((rd_T30 l0 x7_1).f0) ((rd_T30 l0 x7_1).f1) ((rd_T30 l0 x7_1).f2) ((rd_T30 l0 x7_1).f3.f0) ((rd_T30 l0 x7_1).f3.f1) ((rd_T30 l0 x7_1).f4) ((rd_T30 l0 x7_1).f5) 0) ?_ 7 _ rfl; refine blk_put (cs := zr5 ((rd_T30 l0 x7_1).f0) ((rd_T30 l0 x7_1).f1) ((rd_T30 l0 x7_1).f2) ((rd_T30 l0 x7_1).f3.f0) ((rd_T30 l0 x7_1).f3.f1) ((rd_T30 l0 x7_1).f4) 0 0) ?_ 6 _ rfl; refine blk_put (cs := zr5 ((rd_T30 l0 x7_1).f0) ((rd_T30 l0 x7_1).f1) ((rd_T30 l0 x7_1).f2) ((rd_T30 l0 x7_1).f3.f0) ((rd_T30 l0 x7_1).f3.f1) 0 0 0) ?_ 5 _ rfl; refine blk_put (cs := zr5 ((rd_T30 l0 x7_1).f0) ((rd_T30 l0 x7_1).f1) ((rd_T30 l0 x7_1).f2) ((rd_T30 l0 x7_1).f3.f0) 0 0 0 0) ?_ 4 _ rfl; refine blk_put (cs := zr5 ((rd_T30 l0 x7_1).f0) ((rd_T30 l0 x7_1).f1) ((rd_T30 l0 x7_1).f2) 0 0 0 0 0) ?_ 3 _ rfl; refine blk_put (cs := zr5 ((rd_T30 l0 x7_1).f0) ((rd_T30 l0 x7_1).f1) (⟨#[]⟩ : ByteArray) 0 0 0 0 0) ?_ 2 _ rfl; (with_reducible repeat (first | refine blk_drewN ?_ _ | refine blk_drew ?_ | refine blk_alloc ?_ _)); refine blk_put (cs := zr5 ((rd_T30 l0 x7_1).f0) 0 (⟨#[]⟩ : ByteArray) 0 0 0 0 0) ?_ 1 _ rfl; (with_reducible repeat (first | refine blk_drewN ?_ _ | refine blk_drew ?_ | refine blk_alloc ?_ _)); refine blk_put (cs := zr5 (⟨#[]⟩ : ByteArray) 0 (⟨#[]⟩ : ByteArray) 0 0 0 0 0) ?_ 0 _ rfl; (with_reducible repeat (first | refine blk_drewN ?_ _ | refine blk_drew ?_ | refine blk_alloc ?_ _)); exact BK165.out⟩
         have n1_ : Aside0 (Below w.heap.size w ((((((((w39.setCell ⟨gb165, 0, none⟩ (.string ((rd_T30 l0 x7_1).f0))).setCell ⟨gb165, 1, none⟩ (.int .i64 ((rd_T30 l0 x7_1).f1))).setCell ⟨gb165, 2, none⟩ (.string ((rd_T30 l0 x7_1).f2))).setCell ⟨gb165, 3, none⟩ (.int .i64 ((rd_T30 l0 x7_1).f3.f0))).setCell ⟨gb165, 4, none⟩ (.int .i64 ((rd_T30 l0 x7_1).f3.f1))).setCell ⟨gb165, 5, none⟩ (.int .i64 ((rd_T30 l0 x7_1).f4))).setCell ⟨gb165, 6, none⟩ (.int .i64 ((rd_T30 l0 x7_1).f5))).setCell ⟨gb165, 7, none⟩ (.int .i64 ((rd_T30 l0 x7_1).f6)))) := ⟨s8_1⟩
         (try clear BK165)
         (try clear HB)
         (try simp only [show ∀ (w_ : World) (n_ : Nat) (a_ : Addr) (v_ : Value), (w_.drewN n_).setCell a_ v_ = (w_.setCell a_ v_).drewN n_ from fun _ _ _ _ => rfl, show ∀ (w_ : World) (a_ : Addr) (v_ : Value), w_.drew.setCell a_ v_ = (w_.setCell a_ v_).drew from fun _ _ _ => rfl])
         generalize ((((((((w39.setCell ⟨gb165, 0, none⟩ (.string ((rd_T30 l0 x7_1).f0))).setCell ⟨gb165, 1, none⟩ (.int .i64 ((rd_T30 l0 x7_1).f1))).setCell ⟨gb165, 2, none⟩ (.string ((rd_T30 l0 x7_1).f2))).setCell ⟨gb165, 3, none⟩ (.int .i64 ((rd_T30 l0 x7_1).f3.f0))).setCell ⟨gb165, 4, none⟩ (.int .i64 ((rd_T30 l0 x7_1).f3.f1))).setCell ⟨gb165, 5, none⟩ (.int .i64 ((rd_T30 l0 x7_1).f4))).setCell ⟨gb165, 6, none⟩ (.int .i64 ((rd_T30 l0 x7_1).f5))).setCell ⟨gb165, 7, none⟩ (.int .i64 ((rd_T30 l0 x7_1).f6))) = w41 at n0_ n1_ ⊢
         have BK165 := n0_
         have HB := n1_
         clear n0_ n1_
         have n0_ := am (blk_drew BK165.out)
         have n1_ := am (below_drew1 HB.out)
         clear BK165 HB
         have BK165 := n0_
         have HB := n1_
         clear n0_ n1_
         refine start_ (n := 24) (S := fun w' => zc3 w' gb165 (rd_T30 l0 x7_1)) (ds := []) mk8_0 (by kernel_rfl) rfl rfl ⟨(blk_cell BK165.out 0).trans rfl, (blk_cell BK165.out 1).trans rfl, (blk_cell BK165.out 2).trans rfl, (blk_cell BK165.out 3).trans rfl, (blk_cell BK165.out 4).trans rfl, (blk_cell BK165.out 5).trans rfl, (blk_cell BK165.out 6).trans rfl, (blk_cell BK165.out 7).trans rfl⟩ (fun hHeld => ?_); refine with_tabW spec_IsRig.tab4 spec_IsRig.bits4 (fun HT_ HW_ => ?_)
         generalize w41.drew = w42 at BK165 HB hHeld ⊢
         refine take_ (i := 0) (N := some 12) (v := ?_) (a' := ?_) mk8_1 rfl rfl (take_ofW HT_.out HW_.out (by kernel_rfl)) (fun _ _ _ h => h) (Or.inl ⟨by rfl, ?_⟩) hHeld ?_ ?_
         rotate_left
         ·rintro w' ⟨s0, s1, s2, s3, s4, s5, s6, s7⟩
          exact gs
         rotate_left
         ·exact ap
         refine one_ (i := 1) (N := some 13) mk8_2 rfl rfl (one_of HT_.out (by kernel_rfl)) (by decide) (fun K hK => ?_)
         refine goes_ Try.func16 (by kernel_rfl) rfl #[.agg #[.string ((rd_T30 l0 x7_1).f0), .int .i64 ((rd_T30 l0 x7_1).f1), .string ((rd_T30 l0 x7_1).f2), .int .i64 ((rd_T30 l0 x7_1).f3.f0), .int .i64 ((rd_T30 l0 x7_1).f3.f1), .int .i64 ((rd_T30 l0 x7_1).f4), .int .i64 ((rd_T30 l0 x7_1).f5), .int .i64 ((rd_T30 l0 x7_1).f6)]] (by rfl) rfl rfl u8_3 ?_
         with_reducible refine (spec_IsDevice.calls k1 ((rd_T30 l0 x7_1).f0) ((rd_T30 l0 x7_1).f1) ((rd_T30 l0 x7_1).f2) ((rd_T30 l0 x7_1).f3.f0) ((rd_T30 l0 x7_1).f3.f1) ((rd_T30 l0 x7_1).f4) ((rd_T30 l0 x7_1).f5) ((rd_T30 l0 x7_1).f6) true _ A5.out).mono ?_
         rintro e w43 ⟨rfl, hb⟩
         refine ⟨_, rfl, ?_⟩
         have n0_ := am (blk_below (g := gb165) (o := zo4 (rd_T30 l0 x7_1)) u8_2 hb)
         have n1_ := am (below_step u8_1 hb)
         clear BK165 HB
         have BK165 := n0_
         have HB := n1_
         clear n0_ n1_
         (try clear hb)
         (try clear hb2)
         (try clear hk)
         (try clear hi)
         refine hK.out _ _ ⟨(blk_cell BK165.out 0).trans rfl, (blk_cell BK165.out 1).trans rfl, (blk_cell BK165.out 2).trans rfl, (blk_cell BK165.out 3).trans rfl, (blk_cell BK165.out 4).trans rfl, (blk_cell BK165.out 5).trans rfl, (blk_cell BK165.out 6).trans rfl, (blk_cell BK165.out 7).trans rfl⟩ (fun hHeld => ?_)
         clear hK K
         refine norm_ (a' := ?_) ?_ ?_
         rotate_left
         ·show Act.put _ (some 13) _ = _
          simp only [Act.put, List.setIfInBounds_toArray, List.set_cons_zero, List.set_cons_succ, i64_w, i32_w]
          rfl
         refine pz 2 14 mk8_3 (any_of HT_.out (by kernel_rfl)) ?_
         refine pz 3 15 mk8_4 (any_of HT_.out (by kernel_rfl)) ?_
         refine pz 4 16 mk8_5 (any_of HT_.out (by kernel_rfl)) ?_
         refine pz 5 17 mk8_6 (any_of HT_.out (by kernel_rfl)) ?_
         refine pz 6 18 mk8_7 (any_of HT_.out (by kernel_rfl)) ?_
         refine pure_ (i := 7) (N := some 19) (v := undef) (a' := ?_) mk8_8 rfl rfl (any_of HT_.out (by kernel_rfl)) (fun _ _ _ h => h) (Or.inr ⟨by rfl, rfl⟩) ?_ ?_
         rotate_left
         ·exact ap
         refine pure_ (i := 8) (N := some 20) (v := undef) (a' := ?_) mk8_9 rfl rfl (any_of HT_.out (by kernel_rfl)) (fun _ _ _ h => h) (Or.inr ⟨by rfl, rfl⟩) ?_ ?_
         rotate_left
         ·exact ap
         refine pure_ (i := 9) (N := some 21) (v := undef) (a' := ?_) mk8_10 rfl rfl (any_of HT_.out (by kernel_rfl)) (fun _ _ _ h => h) (Or.inr ⟨by rfl, rfl⟩) ?_ ?_
         rotate_left
         ·exact ap
         refine pure_ (i := 10) (N := some 22) (v := undef) (a' := ?_) mk8_11 rfl rfl (any_of HT_.out (by kernel_rfl)) (fun _ _ _ h => h) (Or.inr ⟨by rfl, rfl⟩) ?_ ?_
         rotate_left
         ·exact ap
         refine pure_ (i := 11) (N := some 23) (v := undef) (a' := ?_) mk8_12 rfl rfl (any_of HT_.out (by kernel_rfl)) (fun _ _ _ h => h) (Or.inr ⟨by rfl, rfl⟩) ?_ ?_
         rotate_left
         ·exact ap
         refine pure_ (i := 12) (N := some 24) (v := undef) (a' := ?_) mk8_14 rfl rfl (any_of HT_.out (by kernel_rfl)) (fun _ _ _ h => h) (Or.inr ⟨by rfl, rfl⟩) ?_ ?_
         rotate_left
         ·exact ap
         refine pure_ (i := 13) (N := some 25) (v := undef) (a' := ?_) mk8_15 rfl rfl (any_of HT_.out (by kernel_rfl)) (fun _ _ _ h => h) (Or.inr ⟨by rfl, rfl⟩) ?_ ?_
         rotate_left
         ·exact ap
         refine pure_ (i := 14) (N := some 26) (v := undef) (a' := ?_) mk8_16 rfl rfl (any_of HT_.out (by kernel_rfl)) (fun _ _ _ h => h) (Or.inr ⟨by rfl, rfl⟩) ?_ ?_
         rotate_left
         ·exact ap
         refine pure_ (i := 15) (N := some 27) (v := undef) (a' := ?_) mk8_17 rfl rfl (any_of HT_.out (by kernel_rfl)) (fun _ _ _ h => h) (Or.inr ⟨by rfl, rfl⟩) ?_ ?_
         rotate_left
         ·exact ap
         refine pz 16 28 mk8_18 (any_of HT_.out (by kernel_rfl)) ?_
         refine pz 17 29 mk8_19 (any_of HT_.out (by kernel_rfl)) ?_
         refine pz 18 30 mk8_20 (any_of HT_.out (by kernel_rfl)) ?_
         refine pz 19 31 mk8_21 (any_of HT_.out (by kernel_rfl)) ?_
         refine take_ (i := 20) (N := some 32) (v := ?_) (a' := ?_) mk8_22 rfl rfl (take_ofW HT_.out HW_.out (by kernel_rfl)) (fun _ _ _ h => h) (Or.inl ⟨by rfl, ?_⟩) hHeld ?_ ?_
         rotate_left
         ·rintro w' ⟨s0, s1, s2, s3, s4, s5, s6, s7⟩
          exact gs
         rotate_left
         ·exact ap
         refine one_ (i := 21) (N := some 33) mk8_23 rfl rfl (one_of HT_.out (by kernel_rfl)) (by decide) (fun K hK => ?_)
         refine goes_ Try.func64 (by kernel_rfl) rfl #[.slice (some ad164) l0.length c0, .agg #[.string ((rd_T30 l0 x7_1).f0), .int .i64 ((rd_T30 l0 x7_1).f1), .string ((rd_T30 l0 x7_1).f2), .int .i64 ((rd_T30 l0 x7_1).f3.f0), .int .i64 ((rd_T30 l0 x7_1).f3.f1), .int .i64 ((rd_T30 l0 x7_1).f4), .int .i64 ((rd_T30 l0 x7_1).f5), .int .i64 ((rd_T30 l0 x7_1).f6)]] (by rfl) rfl rfl u8_3 ?_
         with_reducible refine (spec_l6Hangs.calls k1 _ _ l0 ((rd_T30 l0 x7_1).f0) ((rd_T30 l0 x7_1).f1) ((rd_T30 l0 x7_1).f2) ((rd_T30 l0 x7_1).f3.f0) ((rd_T30 l0 x7_1).f3.f1) ((rd_T30 l0 x7_1).f4) ((rd_T30 l0 x7_1).f5) ((rd_T30 l0 x7_1).f6) false _ ?side1 ?side2 A31.out).mono ?_
         (case side1 => exact s8_0)
         (case side2 => exact HC0.out)
         rintro e w44 ⟨rfl, hb⟩
         refine ⟨_, rfl, ?_⟩
         have n0_ := am (blk_below (g := gb165) (o := zo4 (rd_T30 l0 x7_1)) u8_2 hb)
         have n1_ := am (below_step u8_1 hb)
         clear BK165 HB
         have BK165 := n0_
         have HB := n1_
         clear n0_ n1_
         (try clear hb)
         (try clear hb2)
         (try clear hk)
         (try clear hi)
         refine hK.out _ _ ⟨(blk_cell BK165.out 0).trans rfl, (blk_cell BK165.out 1).trans rfl, (blk_cell BK165.out 2).trans rfl, (blk_cell BK165.out 3).trans rfl, (blk_cell BK165.out 4).trans rfl, (blk_cell BK165.out 5).trans rfl, (blk_cell BK165.out 6).trans rfl, (blk_cell BK165.out 7).trans rfl⟩ (fun hHeld => ?_)
         clear hK K
         refine norm_ (a' := ?_) ?_ ?_
         rotate_left
         ·show Act.put _ (some 33) _ = _
          simp only [Act.put, List.setIfInBounds_toArray, List.set_cons_zero, List.set_cons_succ, i64_w, i32_w]
          rfl
         refine pz 22 34 mk8_24 (any_of HT_.out (by kernel_rfl)) ?_
         refine pz 23 35 mk8_25 (any_of HT_.out (by kernel_rfl)) ?_
         refine done_ (done_of HT_.out (by kernel_rfl)) ?_
         try go_wp2
         go_ret
         exact ⟨by first | rfl | (simp [*] <;> rfl), s8_1⟩
      ·replace c6 := Bool.eq_false_iff.mpr c6
       subst c6
       have H1 : (some false) = some r := by rw [if_neg (show ¬ (false = true) by decide)] at H; exact H
       clear H
       have H := H1
       clear H1
       obtain rfl := Option.some.inj H
       have p164 : 0 ≤ (x7_1 : Int) := od (by assumption)
       have q164 : x7_1 < (l0.length : Int) := od (by assumption)
       obtain ⟨ad164, e164, hx164_0, hx164_1, hx164_2, hx164_3, hx164_4, hx164_5, hx164_6, hx164_7⟩ := at_T30 (Kd.C_below HR0.out HB.out) x7_1 p164 q164
       cases e164
       replace p164 := eq_true p164
       replace q164 := eq_true q164
       try go_wp2_with (first | ((with_reducible refine gate_dst (N := 4) rfl ?_); refine box_event ?hg (N := 4) ?hd (cs := #[.string (⟨#[]⟩ : ByteArray), .int .i64 0, .string (⟨#[]⟩ : ByteArray), .int .i64 0, .int .i64 0, .int .i64 0, .int .i64 0, .int .i64 0]) (t := 30) ?hr ?_; (case hd => rfl); (case hg => rfl); (case hr => exact gq); intro gb165 hg w45 hbox hb; have n0_ := am (below_step u8_0 hb); have n1_ := am (hbox); have n2_ := bsw w hg (below_size u8_0); have n3_ := bsw w hg (below_size u8_0); clear HB; have HB := n0_; have BK165 := n1_; have GW165 := n2_; have GE165 := n3_; clear n0_ n1_ n2_ n3_ hb hbox hg; obtain ⟨hcz46_0, hcz46_1, hcz46_2, hcz46_3, hcz46_4, hcz46_5, hcz46_6, hcz46_7, hfz46_0, hfz46_1, hfz46_2, hfz46_3, hfz46_4, hfz46_5, hfz46_6, hfz46_7⟩ := cf8 BK165.out))
       have n0_ : Aside0 (((((((((w45.setCell ⟨gb165, 0, none⟩ (.string ((rd_T30 l0 x7_1).f0))).setCell ⟨gb165, 1, none⟩ (.int .i64 ((rd_T30 l0 x7_1).f1))).setCell ⟨gb165, 2, none⟩ (.string ((rd_T30 l0 x7_1).f2))).setCell ⟨gb165, 3, none⟩ (.int .i64 ((rd_T30 l0 x7_1).f3.f0))).setCell ⟨gb165, 4, none⟩ (.int .i64 ((rd_T30 l0 x7_1).f3.f1))).setCell ⟨gb165, 5, none⟩ (.int .i64 ((rd_T30 l0 x7_1).f4))).setCell ⟨gb165, 6, none⟩ (.int .i64 ((rd_T30 l0 x7_1).f5))).setCell ⟨gb165, 7, none⟩ (.int .i64 ((rd_T30 l0 x7_1).f6))).heap[gb165]? = some (.cells #[.string ((rd_T30 l0 x7_1).f0), .int .i64 ((rd_T30 l0 x7_1).f1), .string ((rd_T30 l0 x7_1).f2), .int .i64 ((rd_T30 l0 x7_1).f3.f0), .int .i64 ((rd_T30 l0 x7_1).f3.f1), .int .i64 ((rd_T30 l0 x7_1).f4), .int .i64 ((rd_T30 l0 x7_1).f5), .int .i64 ((rd_T30 l0 x7_1).f6)] 30 (0, 0))) := ⟨by (with_reducible repeat (first | refine blk_drewN ?_ _ | refine blk_drew ?_ | refine blk_alloc ?_ _)); refine blk_put (cs := zr5 ((rd_T30 l0 x7_1).f0) ((rd_T30 l0 x7_1).f1) ((rd_T30 l0 x7_1).f2) ((rd_T30 l0 x7_1).f3.f0) ((rd_T30 l0 x7_1).f3.f1) ((rd_T30 l0 x7_1).f4) ((rd_T30 l0 x7_1).f5) 0) ?_ 7 _ rfl; refine blk_put (cs := zr5 ((rd_T30 l0 x7_1).f0) ((rd_T30 l0 x7_1).f1) ((rd_T30 l0 x7_1).f2) ((rd_T30 l0 x7_1).f3.f0) ((rd_T30 l0 x7_1).f3.f1) ((rd_T30 l0 x7_1).f4) 0 0) ?_ 6 _ rfl; refine blk_put (cs := zr5 ((rd_T30 l0 x7_1).f0) ((rd_T30 l0 x7_1).f1) ((rd_T30 l0 x7_1).f2) ((rd_T30 l0 x7_1).f3.f0) ((rd_T30 l0 x7_1).f3.f1) 0 0 0) ?_ 5 _ rfl; refine blk_put (cs := zr5 ((rd_T30 l0 x7_1).f0) ((rd_T30 l0 x7_1).f1) ((rd_T30 l0 x7_1).f2) ((rd_T30 l0 x7_1).f3.f0) 0 0 0 0) ?_ 4 _ rfl; refine blk_put (cs := zr5 ((rd_T30 l0 x7_1).f0) ((rd_T30 l0 x7_1).f1) ((rd_T30 l0 x7_1).f2) 0 0 0 0 0) ?_ 3 _ rfl; refine blk_put (cs := zr5 ((rd_T30 l0 x7_1).f0) ((rd_T30 l0 x7_1).f1) (⟨#[]⟩ : ByteArray) 0 0 0 0 0) ?_ 2 _ rfl; (with_reducible repeat (first | refine blk_drewN ?_ _ | refine blk_drew ?_ | refine blk_alloc ?_ _)); refine blk_put (cs := zr5 ((rd_T30 l0 x7_1).f0) 0 (⟨#[]⟩ : ByteArray) 0 0 0 0 0) ?_ 1 _ rfl; (with_reducible repeat (first | refine blk_drewN ?_ _ | refine blk_drew ?_ | refine blk_alloc ?_ _)); refine blk_put (cs := zr5 (⟨#[]⟩ : ByteArray) 0 (⟨#[]⟩ : ByteArray) 0 0 0 0 0) ?_ 0 _ rfl; (with_reducible repeat (first | refine blk_drewN ?_ _ | refine blk_drew ?_ | refine blk_alloc ?_ _)); exact BK165.out⟩
       have n1_ : Aside0 (Below w.heap.size w ((((((((w45.setCell ⟨gb165, 0, none⟩ (.string ((rd_T30 l0 x7_1).f0))).setCell ⟨gb165, 1, none⟩ (.int .i64 ((rd_T30 l0 x7_1).f1))).setCell ⟨gb165, 2, none⟩ (.string ((rd_T30 l0 x7_1).f2))).setCell ⟨gb165, 3, none⟩ (.int .i64 ((rd_T30 l0 x7_1).f3.f0))).setCell ⟨gb165, 4, none⟩ (.int .i64 ((rd_T30 l0 x7_1).f3.f1))).setCell ⟨gb165, 5, none⟩ (.int .i64 ((rd_T30 l0 x7_1).f4))).setCell ⟨gb165, 6, none⟩ (.int .i64 ((rd_T30 l0 x7_1).f5))).setCell ⟨gb165, 7, none⟩ (.int .i64 ((rd_T30 l0 x7_1).f6)))) := ⟨s8_1⟩
       (try clear BK165)
       (try clear HB)
       (try simp only [show ∀ (w_ : World) (n_ : Nat) (a_ : Addr) (v_ : Value), (w_.drewN n_).setCell a_ v_ = (w_.setCell a_ v_).drewN n_ from fun _ _ _ _ => rfl, show ∀ (w_ : World) (a_ : Addr) (v_ : Value), w_.drew.setCell a_ v_ = (w_.setCell a_ v_).drew from fun _ _ _ => rfl])
       generalize ((((((((w45.setCell ⟨gb165, 0, none⟩ (.string ((rd_T30 l0 x7_1).f0))).setCell ⟨gb165, 1, none⟩ (.int .i64 ((rd_T30 l0 x7_1).f1))).setCell ⟨gb165, 2, none⟩ (.string ((rd_T30 l0 x7_1).f2))).setCell ⟨gb165, 3, none⟩ (.int .i64 ((rd_T30 l0 x7_1).f3.f0))).setCell ⟨gb165, 4, none⟩ (.int .i64 ((rd_T30 l0 x7_1).f3.f1))).setCell ⟨gb165, 5, none⟩ (.int .i64 ((rd_T30 l0 x7_1).f4))).setCell ⟨gb165, 6, none⟩ (.int .i64 ((rd_T30 l0 x7_1).f5))).setCell ⟨gb165, 7, none⟩ (.int .i64 ((rd_T30 l0 x7_1).f6))) = w47 at n0_ n1_ ⊢
       have BK165 := n0_
       have HB := n1_
       clear n0_ n1_
       have n0_ := am (blk_drew BK165.out)
       have n1_ := am (below_drew1 HB.out)
       clear BK165 HB
       have BK165 := n0_
       have HB := n1_
       clear n0_ n1_
       refine start_ (n := 24) (S := fun w' => zc3 w' gb165 (rd_T30 l0 x7_1)) (ds := []) mk8_0 (by kernel_rfl) rfl rfl ⟨(blk_cell BK165.out 0).trans rfl, (blk_cell BK165.out 1).trans rfl, (blk_cell BK165.out 2).trans rfl, (blk_cell BK165.out 3).trans rfl, (blk_cell BK165.out 4).trans rfl, (blk_cell BK165.out 5).trans rfl, (blk_cell BK165.out 6).trans rfl, (blk_cell BK165.out 7).trans rfl⟩ (fun hHeld => ?_); refine with_tabW spec_IsRig.tab4 spec_IsRig.bits4 (fun HT_ HW_ => ?_)
       generalize w47.drew = w48 at BK165 HB hHeld ⊢
       refine take_ (i := 0) (N := some 12) (v := ?_) (a' := ?_) mk8_1 rfl rfl (take_ofW HT_.out HW_.out (by kernel_rfl)) (fun _ _ _ h => h) (Or.inl ⟨by rfl, ?_⟩) hHeld ?_ ?_
       rotate_left
       ·rintro w' ⟨s0, s1, s2, s3, s4, s5, s6, s7⟩
        exact gs
       rotate_left
       ·exact ap
       refine one_ (i := 1) (N := some 13) mk8_2 rfl rfl (one_of HT_.out (by kernel_rfl)) (by decide) (fun K hK => ?_)
       refine goes_ Try.func16 (by kernel_rfl) rfl #[.agg #[.string ((rd_T30 l0 x7_1).f0), .int .i64 ((rd_T30 l0 x7_1).f1), .string ((rd_T30 l0 x7_1).f2), .int .i64 ((rd_T30 l0 x7_1).f3.f0), .int .i64 ((rd_T30 l0 x7_1).f3.f1), .int .i64 ((rd_T30 l0 x7_1).f4), .int .i64 ((rd_T30 l0 x7_1).f5), .int .i64 ((rd_T30 l0 x7_1).f6)]] (by rfl) rfl rfl u8_3 ?_
       with_reducible refine (spec_IsDevice.calls k1 ((rd_T30 l0 x7_1).f0) ((rd_T30 l0 x7_1).f1) ((rd_T30 l0 x7_1).f2) ((rd_T30 l0 x7_1).f3.f0) ((rd_T30 l0 x7_1).f3.f1) ((rd_T30 l0 x7_1).f4) ((rd_T30 l0 x7_1).f5) ((rd_T30 l0 x7_1).f6) false _ A5.out).mono ?_
       rintro e w49 ⟨rfl, hb⟩
       refine ⟨_, rfl, ?_⟩
       have n0_ := am (blk_below (g := gb165) (o := zo4 (rd_T30 l0 x7_1)) u8_2 hb)
       have n1_ := am (below_step u8_1 hb)
       clear BK165 HB
       have BK165 := n0_
       have HB := n1_
       clear n0_ n1_
       (try clear hb)
       (try clear hb2)
       (try clear hk)
       (try clear hi)
       refine hK.out _ _ ⟨(blk_cell BK165.out 0).trans rfl, (blk_cell BK165.out 1).trans rfl, (blk_cell BK165.out 2).trans rfl, (blk_cell BK165.out 3).trans rfl, (blk_cell BK165.out 4).trans rfl, (blk_cell BK165.out 5).trans rfl, (blk_cell BK165.out 6).trans rfl, (blk_cell BK165.out 7).trans rfl⟩ (fun hHeld => ?_)
       clear hK K
       refine norm_ (a' := ?_) ?_ ?_
       rotate_left
       ·show Act.put _ (some 13) _ = _
        simp only [Act.put, List.setIfInBounds_toArray, List.set_cons_zero, List.set_cons_succ, i64_w, i32_w]
        rfl
       refine pz 2 14 mk8_3 (any_of HT_.out (by kernel_rfl)) ?_
       refine pz 3 15 mk8_4 (any_of HT_.out (by kernel_rfl)) ?_
       refine pure_ (i := 4) (N := some 16) (v := undef) (a' := ?_) mk8_5 rfl rfl (any_of HT_.out (by kernel_rfl)) (fun _ _ _ h => h) (Or.inr ⟨by rfl, rfl⟩) ?_ ?_
       rotate_left
       ·exact ap
       refine pure_ (i := 5) (N := some 17) (v := undef) (a' := ?_) mk8_6 rfl rfl (any_of HT_.out (by kernel_rfl)) (fun _ _ _ h => h) (Or.inr ⟨by rfl, rfl⟩) ?_ ?_
       rotate_left
       ·exact ap
       refine pure_ (i := 6) (N := some 18) (v := undef) (a' := ?_) mk8_7 rfl rfl (any_of HT_.out (by kernel_rfl)) (fun _ _ _ h => h) (Or.inr ⟨by rfl, rfl⟩) ?_ ?_
       rotate_left
       ·exact ap
       refine pure_ (i := 7) (N := some 19) (v := undef) (a' := ?_) mk8_8 rfl rfl (any_of HT_.out (by kernel_rfl)) (fun _ _ _ h => h) (Or.inr ⟨by rfl, rfl⟩) ?_ ?_
       rotate_left
       ·exact ap
       refine pure_ (i := 8) (N := some 20) (v := undef) (a' := ?_) mk8_9 rfl rfl (any_of HT_.out (by kernel_rfl)) (fun _ _ _ h => h) (Or.inr ⟨by rfl, rfl⟩) ?_ ?_
       rotate_left
       ·exact ap
       refine pure_ (i := 9) (N := some 21) (v := undef) (a' := ?_) mk8_10 rfl rfl (any_of HT_.out (by kernel_rfl)) (fun _ _ _ h => h) (Or.inr ⟨by rfl, rfl⟩) ?_ ?_
       rotate_left
       ·exact ap
       refine pure_ (i := 10) (N := some 22) (v := undef) (a' := ?_) mk8_11 rfl rfl (any_of HT_.out (by kernel_rfl)) (fun _ _ _ h => h) (Or.inr ⟨by rfl, rfl⟩) ?_ ?_
       rotate_left
       ·exact ap
       refine pure_ (i := 11) (N := some 23) (v := undef) (a' := ?_) mk8_12 rfl rfl (any_of HT_.out (by kernel_rfl)) (fun _ _ _ h => h) (Or.inr ⟨by rfl, rfl⟩) ?_ ?_
       rotate_left
       ·exact ap
       refine pure_ (i := 12) (N := some 24) (v := undef) (a' := ?_) mk8_14 rfl rfl (any_of HT_.out (by kernel_rfl)) (fun _ _ _ h => h) (Or.inr ⟨by rfl, rfl⟩) ?_ ?_
       rotate_left
       ·exact ap
       refine pure_ (i := 13) (N := some 25) (v := undef) (a' := ?_) mk8_15 rfl rfl (any_of HT_.out (by kernel_rfl)) (fun _ _ _ h => h) (Or.inr ⟨by rfl, rfl⟩) ?_ ?_
       rotate_left
       ·exact ap
       refine pure_ (i := 14) (N := some 26) (v := undef) (a' := ?_) mk8_16 rfl rfl (any_of HT_.out (by kernel_rfl)) (fun _ _ _ h => h) (Or.inr ⟨by rfl, rfl⟩) ?_ ?_
       rotate_left
       ·exact ap
       refine pure_ (i := 15) (N := some 27) (v := undef) (a' := ?_) mk8_17 rfl rfl (any_of HT_.out (by kernel_rfl)) (fun _ _ _ h => h) (Or.inr ⟨by rfl, rfl⟩) ?_ ?_
       rotate_left
       ·exact ap
       refine pure_ (i := 16) (N := some 28) (v := undef) (a' := ?_) mk8_18 rfl rfl (any_of HT_.out (by kernel_rfl)) (fun _ _ _ h => h) (Or.inr ⟨by rfl, rfl⟩) ?_ ?_
       rotate_left
       ·exact ap
       refine pz 17 29 mk8_19 (any_of HT_.out (by kernel_rfl)) ?_
       refine pz 18 30 mk8_20 (any_of HT_.out (by kernel_rfl)) ?_
       refine pure_ (i := 19) (N := some 31) (v := undef) (a' := ?_) mk8_21 rfl rfl (any_of HT_.out (by kernel_rfl)) (fun _ _ _ h => h) (Or.inr ⟨by rfl, rfl⟩) ?_ ?_
       rotate_left
       ·exact ap
       refine pure_ (i := 20) (N := some 32) (v := undef) (a' := ?_) mk8_22 rfl rfl (any_of HT_.out (by kernel_rfl)) (fun _ _ _ h => h) (Or.inr ⟨by rfl, rfl⟩) ?_ ?_
       rotate_left
       ·exact ap
       refine pure_ (i := 21) (N := some 33) (v := undef) (a' := ?_) mk8_23 rfl rfl (any_of HT_.out (by kernel_rfl)) (fun _ _ _ h => h) (Or.inr ⟨by rfl, rfl⟩) ?_ ?_
       rotate_left
       ·exact ap
       refine pure_ (i := 22) (N := some 34) (v := undef) (a' := ?_) mk8_24 rfl rfl (any_of HT_.out (by kernel_rfl)) (fun _ _ _ h => h) (Or.inr ⟨by rfl, rfl⟩) ?_ ?_
       rotate_left
       ·exact ap
       refine pz 23 35 mk8_25 (any_of HT_.out (by kernel_rfl)) ?_
       refine done_ (done_of HT_.out (by kernel_rfl)) ?_
       try go_wp2
       go_ret
       exact ⟨by first | rfl | (simp [*] <;> rfl), s8_1⟩
     ·rw [if_neg c4] at H
      exact absurd H (by simp)
    ·rw [if_neg c3] at H
     exact absurd H (by simp)
   ·rw [if_neg c2] at H
    have c2b0 : decide (x7_1 < (l0.length : Int)) = false := decide_eq_false c2
    clear c2
    obtain rfl := Option.some.inj H
    go_wp2
    go_ret
    exact ⟨by first | rfl | (simp [*] <;> rfl), s8_2⟩

end Go.Proofs.Ytkedcokhcgklpaa.MFnLines
