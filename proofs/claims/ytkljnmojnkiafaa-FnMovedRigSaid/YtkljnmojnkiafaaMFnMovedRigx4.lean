-- Written by a program for this claim.
import Derived.Test.YtkljnmojnkiafaaMFnMovedRigx0
import Derived.Test.YtkljnmojnkiafaaMFnMovedRigx3
namespace Go.Proofs.Ytkljnmojnkiafaa.MFnMovedRig
open Go.RowKit Go.Proofs.YtkljnmojnkiafaaW.PrintWords Go.Proofs.YtkljnmojnkiafaaW.PrintLast Go.Proofs.YtkljnmojnkiafaaW.PrintMore
attribute [local go_sem] max2_int min2_int max_two min_two max_three min_three max_four min_four   -- for this text's walks alone
set_option linter.unusedVariables false
set_option linter.unusedSimpArgs false

theorem s4_0 {p : Prop} (h : p := by repeat (first | (with_reducible first | exact HB.out | apply below_alloc | apply pw_below_drewN | apply below_drew1 | refine below_set ?_ GE142.out) | exact HB.out)) : p := h
theorem y4_0 {p : Prop} (h : p := by repeat (first | exact (Kd.C_below HR0.out HB.out) | (with_reducible refine Kd.C_alloc ?_ _) | (with_reducible refine Kd.C_drewN ?_ _) | (with_reducible refine Kd.C_drew ?_))) : p := h
theorem u4_0 {p : Prop} (h : p := by repeat (first | (with_reducible first | exact HB.out | apply below_alloc | apply pw_below_drewN | apply below_drew1) | exact HB.out)) : p := h
theorem u4_1 {p : Prop} (h : p := by repeat (first | (with_reducible first | exact HB.out | apply below_alloc | apply pw_below_drewN | apply below_drew1 | refine below_set ?_ GE142.out) | exact HB.out)) : p := h
theorem u4_2 {p : Prop} (h : p := by (with_reducible repeat (first | refine blk_drewN ?_ _ | refine blk_drew ?_ | refine blk_alloc ?_ _)); exact BK142.out) : p := h
theorem u4_3 {p : Prop} (h : p := by (try simp only [List.map_toArray, List.map_cons, List.map_nil]); first | done | rfl) : p := h
def spec_l6Hangs.f (k : Nat) (l0 : List (S87)) (a1_0 : ByteArray) (a1_1 : Int) (a1_2 : ByteArray) (a1_3 : Int) (a1_4 : Int) (a1_5 : Int) (a1_6 : Int) (a1_7 : Int) : Option (Bool) := (spec_FindDevice.f k l0 a1_2).bind fun t143 => (if a1_1 = 2 then (if t143 ≥ 0 then (if 0 ≤ t143 then (if t143 < (l0.length : Int) then (some (((rd_T87 l0 t143).f1) == 1)) else (none)) else (none)) else (some false)) else (if a1_1 = 3 then (if t143 ≥ 0 then (if 0 ≤ t143 then (if t143 < (l0.length : Int) then (some (((rd_T87 l0 t143).f1) == 2)) else (none)) else (none)) else (some false)) else (some true)))
theorem spec_l6Hangs.mono : ∀ a0 a1 a2 a3 a4 a5 a6 a7 a8 k, LeO (spec_l6Hangs.f k a0 a1 a2 a3 a4 a5 a6 a7 a8) (spec_l6Hangs.f (k + 1) a0 a1 a2 a3 a4 a5 a6 a7 a8) := by
 intro a0 a1 a2 a3 a4 a5 a6 a7 a8 k
 unfold spec_l6Hangs.f
 repeat' first
   | (with_reducible exact spec_FindDevice.mono _ _ _)
   | (with_reducible exact LeO.refl _)
   | (with_reducible exact LeO.none _)
   | (with_reducible refine LeO.ite ?_ ?_)
   | (with_reducible refine LeO.bind ?_ (fun _ => ?_))
set_option maxHeartbeats 8000000 in
set_option maxRecDepth 100000 in
theorem spec_l6Hangs.calls (k : Nat) (A0 : Option Addr) (c0 : Nat) (l0 : List (S87)) (a1_0 : ByteArray) (a1_1 : Int) (a1_2 : ByteArray) (a1_3 : Int) (a1_4 : Int) (a1_5 : Int) (a1_6 : Int) (a1_7 : Int) (r : Bool) (w : World) (hr0 : Kd.C k87 w A0 l0.length l0) (hc0 : l0.length ≤ c0) (h : spec_l6Hangs.f k l0 a1_0 a1_1 a1_2 a1_3 a1_4 a1_5 a1_6 a1_7 = some r) :
  Calls Try.prog 156 #[.slice A0 l0.length c0, .agg #[.string a1_0, .int .i64 a1_1, .string a1_2, .int .i64 a1_3, .int .i64 a1_4, .int .i64 a1_5, .int .i64 a1_6, .int .i64 a1_7]] w fun e w' => e = .returned (.bool r) ∧ Below w.heap.size w w' := by
 have hu87 := Try.underlying87
 have HR0 := am hr0
 have HC0 := am hc0
 clear hr0 hc0
 have HB := am (Below.refl w.heap.size w)
 have H : ((spec_FindDevice.f k l0 a1_2).bind fun t143 => (if a1_1 = 2 then (if t143 ≥ 0 then (if 0 ≤ t143 then (if t143 < (l0.length : Int) then (some (((rd_T87 l0 t143).f1) == 1)) else (none)) else (none)) else (some false)) else (if a1_1 = 3 then (if t143 ≥ 0 then (if 0 ≤ t143 then (if t143 < (l0.length : Int) then (some (((rd_T87 l0 t143).f1) == 2)) else (none)) else (none)) else (some false)) else (some true)))) = some r := h
 clear h
 replace H := Option.bind_eq_some_iff.mp H
 obtain ⟨t143, A30, H⟩ := H
 replace H : (if a1_1 = 2 then (if t143 ≥ 0 then (if 0 ≤ t143 then (if t143 < (l0.length : Int) then (some (((rd_T87 l0 t143).f1) == 1)) else (none)) else (none)) else (some false)) else (if a1_1 = 3 then (if t143 ≥ 0 then (if 0 ≤ t143 then (if t143 < (l0.length : Int) then (some (((rd_T87 l0 t143).f1) == 2)) else (none)) else (none)) else (some false)) else (some true))) = some r := H
 have A3 := am A30
 clear A30
 by_cases c4 : a1_1 = 2
 ·rw [if_pos c4] at H
  have c4b0 : (a1_1 == 2) = true := beq_iff_eq.mpr c4
  have c4b1 : (a1_1 != 2) = false := bne_eq_false_iff_eq.mpr c4
  clear c4
  by_cases c5 : t143 ≥ 0
  ·rw [if_pos c5] at H
   have c5b0 : decide (0 ≤ t143) = true := decide_eq_true c5
   clear c5
   by_cases c6 : 0 ≤ t143
   ·rw [if_pos c6] at H
    have c6b0 : decide (0 ≤ t143) = true := decide_eq_true c6
    clear c6
    by_cases c7 : t143 < (l0.length : Int)
    ·rw [if_pos c7] at H
     have c7b0 : decide (t143 < (l0.length : Int)) = true := decide_eq_true c7
     clear c7
     obtain rfl := Option.some.inj H
     go_enter Try.func156, Try.ntmps156
     go_wp2_with (first | ((with_reducible refine gate_dst (N := 3) rfl ?_); refine box_event ?hg (N := 3) ?hd (cs := #[.string a1_0, .int .i64 a1_1, .string a1_2, .int .i64 a1_3, .int .i64 a1_4, .int .i64 a1_5, .int .i64 a1_6, .int .i64 a1_7]) (t := 87) ?hr ?_; (case hd => rfl); (case hg => rfl); (case hr => exact gq); intro gb142 hg w8 hbox hb; have n0_ := am (below_step u4_0 hb); have n1_ := am (hbox); have n2_ := bsw w hg (below_size u4_0); have n3_ := bsw w hg (below_size u4_0); clear HB; have HB := n0_; have BK142 := n1_; have GW142 := n2_; have GE142 := n3_; clear n0_ n1_ n2_ n3_ hb hbox hg; obtain ⟨hcz9_0, hcz9_1, hcz9_2, hcz9_3, hcz9_4, hcz9_5, hcz9_6, hcz9_7, hfz9_0, hfz9_1, hfz9_2, hfz9_3, hfz9_4, hfz9_5, hfz9_6, hfz9_7⟩ := cf8 BK142.out) | ((with_reducible refine gate_callee (f := 155) rfl ?_); refine goesL_ (some 9) rfl rfl Try.func155 (by kernel_rfl) rfl #[.slice A0 l0.length c0, .string a1_2] rfl u4_3 ?_; (with_reducible refine (spec_FindDevice.calls k _ _ l0 a1_2 t143 _ ?side1 ?side2 A3.out).mono ?_); (case side1 => exact y4_0); (case side2 => exact HC0.out); rintro e w10 ⟨rfl, hb⟩; refine ⟨_, rfl, ?_⟩; have n0_ := am (blk_below (g := gb142) (o := zo0 a1_0 a1_1 a1_2 a1_3 a1_4 a1_5 a1_6 a1_7) u4_2 hb); have n1_ := am (below_step u4_1 hb); clear BK142 HB; have BK142 := n0_; have HB := n1_; clear n0_ n1_; (try clear hb); (try clear hb2); (try clear hk); (try clear hi); obtain ⟨hcz11_0, hcz11_1, hcz11_2, hcz11_3, hcz11_4, hcz11_5, hcz11_6, hcz11_7, hfz11_0, hfz11_1, hfz11_2, hfz11_3, hfz11_4, hfz11_5, hfz11_6, hfz11_7⟩ := cf8 BK142.out; have p144 : 0 ≤ (t143 : Int) := od (by assumption); have q144 : t143 < (l0.length : Int) := od (by assumption); obtain ⟨ad144, e144, hx144_0, hx144_1, hx144_2, hx144_3, hx144_4, hx144_5, hx144_6, hx144_7⟩ := at_T87 HR0.out t143 p144 q144; cases e144; replace hx144_0 := bc HB.out hx144_0; replace hx144_1 := bc HB.out hx144_1; replace hx144_2 := bc HB.out hx144_2; replace hx144_3 := bc HB.out hx144_3; replace hx144_4 := bc HB.out hx144_4; replace hx144_5 := bc HB.out hx144_5; replace hx144_6 := bc HB.out hx144_6; replace hx144_7 := bc HB.out hx144_7; replace p144 := eq_true p144; replace q144 := eq_true q144))
     go_ret
     exact ⟨by first | rfl | (simp [*] <;> rfl), s4_0⟩
    ·rw [if_neg c7] at H
     exact absurd H (by simp)
   ·rw [if_neg c6] at H
    exact absurd H (by simp)
  ·rw [if_neg c5] at H
   have c5b0 : decide (0 ≤ t143) = false := decide_eq_false c5
   clear c5
   obtain rfl := Option.some.inj H
   go_enter Try.func156, Try.ntmps156
   go_wp2_with (first | ((with_reducible refine gate_dst (N := 3) rfl ?_); refine box_event ?hg (N := 3) ?hd (cs := #[.string a1_0, .int .i64 a1_1, .string a1_2, .int .i64 a1_3, .int .i64 a1_4, .int .i64 a1_5, .int .i64 a1_6, .int .i64 a1_7]) (t := 87) ?hr ?_; (case hd => rfl); (case hg => rfl); (case hr => exact gq); intro gb142 hg w12 hbox hb; have n0_ := am (below_step u4_0 hb); have n1_ := am (hbox); have n2_ := bsw w hg (below_size u4_0); have n3_ := bsw w hg (below_size u4_0); clear HB; have HB := n0_; have BK142 := n1_; have GW142 := n2_; have GE142 := n3_; clear n0_ n1_ n2_ n3_ hb hbox hg; obtain ⟨hcz13_0, hcz13_1, hcz13_2, hcz13_3, hcz13_4, hcz13_5, hcz13_6, hcz13_7, hfz13_0, hfz13_1, hfz13_2, hfz13_3, hfz13_4, hfz13_5, hfz13_6, hfz13_7⟩ := cf8 BK142.out) | ((with_reducible refine gate_callee (f := 155) rfl ?_); refine goesL_ (some 9) rfl rfl Try.func155 (by kernel_rfl) rfl #[.slice A0 l0.length c0, .string a1_2] rfl u4_3 ?_; (with_reducible refine (spec_FindDevice.calls k _ _ l0 a1_2 t143 _ ?side1 ?side2 A3.out).mono ?_); (case side1 => exact y4_0); (case side2 => exact HC0.out); rintro e w14 ⟨rfl, hb⟩; refine ⟨_, rfl, ?_⟩; have n0_ := am (blk_below (g := gb142) (o := zo0 a1_0 a1_1 a1_2 a1_3 a1_4 a1_5 a1_6 a1_7) u4_2 hb); have n1_ := am (below_step u4_1 hb); clear BK142 HB; have BK142 := n0_; have HB := n1_; clear n0_ n1_; (try clear hb); (try clear hb2); (try clear hk); (try clear hi); obtain ⟨hcz15_0, hcz15_1, hcz15_2, hcz15_3, hcz15_4, hcz15_5, hcz15_6, hcz15_7, hfz15_0, hfz15_1, hfz15_2, hfz15_3, hfz15_4, hfz15_5, hfz15_6, hfz15_7⟩ := cf8 BK142.out))
   go_ret
   exact ⟨by first | rfl | (simp [*] <;> rfl), s4_0⟩
 ·rw [if_neg c4] at H
  have c4b0 : (a1_1 == 2) = false := beq_eq_false_iff_ne.mpr c4
  have c4b1 : (a1_1 != 2) = true := bne_iff_ne.mpr c4
  by_cases c16 : a1_1 = 3
  ·rw [if_pos c16] at H
   have c16b0 : (a1_1 == 3) = true := beq_iff_eq.mpr c16
   have c16b1 : (a1_1 != 3) = false := bne_eq_false_iff_eq.mpr c16
   clear c16
   by_cases c17 : t143 ≥ 0
   ·rw [if_pos c17] at H
    have c17b0 : decide (0 ≤ t143) = true := decide_eq_true c17
    clear c17
    by_cases c18 : 0 ≤ t143
    ·rw [if_pos c18] at H
     have c18b0 : decide (0 ≤ t143) = true := decide_eq_true c18
     clear c18
     by_cases c19 : t143 < (l0.length : Int)
     ·rw [if_pos c19] at H
      have c19b0 : decide (t143 < (l0.length : Int)) = true := decide_eq_true c19
      clear c19
      obtain rfl := Option.some.inj H
      go_enter Try.func156, Try.ntmps156
      go_wp2_with (first | ((with_reducible refine gate_dst (N := 3) rfl ?_); refine box_event ?hg (N := 3) ?hd (cs := #[.string a1_0, .int .i64 a1_1, .string a1_2, .int .i64 a1_3, .int .i64 a1_4, .int .i64 a1_5, .int .i64 a1_6, .int .i64 a1_7]) (t := 87) ?hr ?_; (case hd => rfl); (case hg => rfl); (case hr => exact gq); intro gb142 hg w20 hbox hb; have n0_ := am (below_step u4_0 hb); have n1_ := am (hbox); have n2_ := bsw w hg (below_size u4_0); have n3_ := bsw w hg (below_size u4_0); clear HB; have HB := n0_; have BK142 := n1_; have GW142 := n2_; have GE142 := n3_; clear n0_ n1_ n2_ n3_ hb hbox hg; obtain ⟨hcz21_0, hcz21_1, hcz21_2, hcz21_3, hcz21_4, hcz21_5, hcz21_6, hcz21_7, hfz21_0, hfz21_1, hfz21_2, hfz21_3, hfz21_4, hfz21_5, hfz21_6, hfz21_7⟩ := cf8 BK142.out) | ((with_reducible refine gate_callee (f := 155) rfl ?_); refine goesL_ (some 9) rfl rfl Try.func155 (by kernel_rfl) rfl #[.slice A0 l0.length c0, .string a1_2] rfl u4_3 ?_; (with_reducible refine (spec_FindDevice.calls k _ _ l0 a1_2 t143 _ ?side1 ?side2 A3.out).mono ?_); (case side1 => exact y4_0); (case side2 => exact HC0.out); rintro e w22 ⟨rfl, hb⟩; refine ⟨_, rfl, ?_⟩; have n0_ := am (blk_below (g := gb142) (o := zo0 a1_0 a1_1 a1_2 a1_3 a1_4 a1_5 a1_6 a1_7) u4_2 hb); have n1_ := am (below_step u4_1 hb); clear BK142 HB; have BK142 := n0_; have HB := n1_; clear n0_ n1_; (try clear hb); (try clear hb2); (try clear hk); (try clear hi); obtain ⟨hcz23_0, hcz23_1, hcz23_2, hcz23_3, hcz23_4, hcz23_5, hcz23_6, hcz23_7, hfz23_0, hfz23_1, hfz23_2, hfz23_3, hfz23_4, hfz23_5, hfz23_6, hfz23_7⟩ := cf8 BK142.out; have p145 : 0 ≤ (t143 : Int) := od (by assumption); have q145 : t143 < (l0.length : Int) := od (by assumption); obtain ⟨ad145, e145, hx145_0, hx145_1, hx145_2, hx145_3, hx145_4, hx145_5, hx145_6, hx145_7⟩ := at_T87 HR0.out t143 p145 q145; cases e145; replace hx145_0 := bc HB.out hx145_0; replace hx145_1 := bc HB.out hx145_1; replace hx145_2 := bc HB.out hx145_2; replace hx145_3 := bc HB.out hx145_3; replace hx145_4 := bc HB.out hx145_4; replace hx145_5 := bc HB.out hx145_5; replace hx145_6 := bc HB.out hx145_6; replace hx145_7 := bc HB.out hx145_7; replace p145 := eq_true p145; replace q145 := eq_true q145))
      go_ret
      exact ⟨by first | rfl | (simp [*] <;> rfl), s4_0⟩
     ·rw [if_neg c19] at H
      exact absurd H (by simp)
    ·rw [if_neg c18] at H
     exact absurd H (by simp)
   ·rw [if_neg c17] at H
    have c17b0 : decide (0 ≤ t143) = false := decide_eq_false c17
    clear c17
    obtain rfl := Option.some.inj H
    go_enter Try.func156, Try.ntmps156
    go_wp2_with (first | ((with_reducible refine gate_dst (N := 3) rfl ?_); refine box_event ?hg (N := 3) ?hd (cs := #[.string a1_0, .int .i64 a1_1, .string a1_2, .int .i64 a1_3, .int .i64 a1_4, .int .i64 a1_5, .int .i64 a1_6, .int .i64 a1_7]) (t := 87) ?hr ?_; (case hd => rfl); (case hg => rfl); (case hr => exact gq); intro gb142 hg w24 hbox hb; have n0_ := am (below_step u4_0 hb); have n1_ := am (hbox); have n2_ := bsw w hg (below_size u4_0); have n3_ := bsw w hg (below_size u4_0); clear HB; have HB := n0_; have BK142 := n1_; have GW142 := n2_; have GE142 := n3_; clear n0_ n1_ n2_ n3_ hb hbox hg; obtain ⟨hcz25_0, hcz25_1, hcz25_2, hcz25_3, hcz25_4, hcz25_5, hcz25_6, hcz25_7, hfz25_0, hfz25_1, hfz25_2, hfz25_3, hfz25_4, hfz25_5, hfz25_6, hfz25_7⟩ := cf8 BK142.out) | ((with_reducible refine gate_callee (f := 155) rfl ?_); refine goesL_ (some 9) rfl rfl Try.func155 (by kernel_rfl) rfl #[.slice A0 l0.length c0, .string a1_2] rfl u4_3 ?_; (with_reducible refine (spec_FindDevice.calls k _ _ l0 a1_2 t143 _ ?side1 ?side2 A3.out).mono ?_); (case side1 => exact y4_0); (case side2 => exact HC0.out); rintro e w26 ⟨rfl, hb⟩; refine ⟨_, rfl, ?_⟩; have n0_ := am (blk_below (g := gb142) (o := zo0 a1_0 a1_1 a1_2 a1_3 a1_4 a1_5 a1_6 a1_7) u4_2 hb); have n1_ := am (below_step u4_1 hb); clear BK142 HB; have BK142 := n0_; have HB := n1_; clear n0_ n1_; (try clear hb); (try clear hb2); (try clear hk); (try clear hi); obtain ⟨hcz27_0, hcz27_1, hcz27_2, hcz27_3, hcz27_4, hcz27_5, hcz27_6, hcz27_7, hfz27_0, hfz27_1, hfz27_2, hfz27_3, hfz27_4, hfz27_5, hfz27_6, hfz27_7⟩ := cf8 BK142.out))
    go_ret
    exact ⟨by first | rfl | (simp [*] <;> rfl), s4_0⟩
  ·rw [if_neg c16] at H
   have c16b0 : (a1_1 == 3) = false := beq_eq_false_iff_ne.mpr c16
   have c16b1 : (a1_1 != 3) = true := bne_iff_ne.mpr c16
   obtain rfl := Option.some.inj H
   go_enter Try.func156, Try.ntmps156
   go_wp2_with (first | ((with_reducible refine gate_dst (N := 3) rfl ?_); refine box_event ?hg (N := 3) ?hd (cs := #[.string a1_0, .int .i64 a1_1, .string a1_2, .int .i64 a1_3, .int .i64 a1_4, .int .i64 a1_5, .int .i64 a1_6, .int .i64 a1_7]) (t := 87) ?hr ?_; (case hd => rfl); (case hg => rfl); (case hr => exact gq); intro gb142 hg w28 hbox hb; have n0_ := am (below_step u4_0 hb); have n1_ := am (hbox); have n2_ := bsw w hg (below_size u4_0); have n3_ := bsw w hg (below_size u4_0); clear HB; have HB := n0_; have BK142 := n1_; have GW142 := n2_; have GE142 := n3_; clear n0_ n1_ n2_ n3_ hb hbox hg; obtain ⟨hcz29_0, hcz29_1, hcz29_2, hcz29_3, hcz29_4, hcz29_5, hcz29_6, hcz29_7, hfz29_0, hfz29_1, hfz29_2, hfz29_3, hfz29_4, hfz29_5, hfz29_6, hfz29_7⟩ := cf8 BK142.out) | ((with_reducible refine gate_callee (f := 155) rfl ?_); refine goesL_ (some 9) rfl rfl Try.func155 (by kernel_rfl) rfl #[.slice A0 l0.length c0, .string a1_2] rfl u4_3 ?_; (with_reducible refine (spec_FindDevice.calls k _ _ l0 a1_2 t143 _ ?side1 ?side2 A3.out).mono ?_); (case side1 => exact y4_0); (case side2 => exact HC0.out); rintro e w30 ⟨rfl, hb⟩; refine ⟨_, rfl, ?_⟩; have n0_ := am (blk_below (g := gb142) (o := zo0 a1_0 a1_1 a1_2 a1_3 a1_4 a1_5 a1_6 a1_7) u4_2 hb); have n1_ := am (below_step u4_1 hb); clear BK142 HB; have BK142 := n0_; have HB := n1_; clear n0_ n1_; (try clear hb); (try clear hb2); (try clear hk); (try clear hi); obtain ⟨hcz31_0, hcz31_1, hcz31_2, hcz31_3, hcz31_4, hcz31_5, hcz31_6, hcz31_7, hfz31_0, hfz31_1, hfz31_2, hfz31_3, hfz31_4, hfz31_5, hfz31_6, hfz31_7⟩ := cf8 BK142.out))
   go_ret
   exact ⟨by first | rfl | (simp [*] <;> rfl), s4_0⟩

end Go.Proofs.Ytkljnmojnkiafaa.MFnMovedRig
