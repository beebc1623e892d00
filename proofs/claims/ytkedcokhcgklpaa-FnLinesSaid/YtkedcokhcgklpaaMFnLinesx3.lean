-- Written by a program for this claim.
import Derived.Test.YtkedcokhcgklpaaMFnLinesx0
import Derived.Test.YtkedcokhcgklpaaMFnLinesx2
namespace Go.Proofs.Ytkedcokhcgklpaa.MFnLines
open Go.RowKit Go.Proofs.YtkedcokhcgklpaaW.PrintWords Go.Proofs.YtkedcokhcgklpaaW.PrintLast Go.Proofs.YtkedcokhcgklpaaW.PrintMore
attribute [local go_sem] max2_int min2_int max_two min_two max_three min_three max_four min_four   -- for this text's walks alone
set_option linter.unusedVariables false
set_option linter.unusedSimpArgs false

theorem s3_0 {p : Prop} (h : p := by repeat (first | (with_reducible first | exact HB.out | apply below_alloc | apply pw_below_drewN | apply below_drew1 | refine below_set ?_ GE124.out) | exact HB.out)) : p := h
theorem y3_0 {p : Prop} (h : p := by repeat (first | exact (Kd.C_below HR0.out HB.out) | (with_reducible refine Kd.C_alloc ?_ _) | (with_reducible refine Kd.C_drewN ?_ _) | (with_reducible refine Kd.C_drew ?_))) : p := h
theorem u3_0 {p : Prop} (h : p := by repeat (first | (with_reducible first | exact HB.out | apply below_alloc | apply pw_below_drewN | apply below_drew1) | exact HB.out)) : p := h
theorem u3_1 {p : Prop} (h : p := by repeat (first | (with_reducible first | exact HB.out | apply below_alloc | apply pw_below_drewN | apply below_drew1 | refine below_set ?_ GE124.out) | exact HB.out)) : p := h
theorem u3_2 {p : Prop} (h : p := by (with_reducible repeat (first | refine blk_drewN ?_ _ | refine blk_drew ?_ | refine blk_alloc ?_ _)); exact BK124.out) : p := h
/-! ### impl_isHung: function 65 -/
def impl_isHung.f (k : Nat) (l0 : List (S30)) (a1_0 : ByteArray) (a1_1 : Int) (a1_2 : ByteArray) (a1_3 : Int) (a1_4 : Int) (a1_5 : Int) (a1_6 : Int) (a1_7 : Int) : Option (Bool) := if a1_1 = 1 then (some true) else ((impl_FindDevice.f k l0 a1_2).bind fun t125 => (if t125 ≥ 0 then (if 0 ≤ t125 then (if t125 < (l0.length : Int) then (some (((rd_T30 l0 t125).f1) == (wrap64 (a1_1 - 1)))) else (none)) else (none)) else (some false)))
theorem impl_isHung.mono : ∀ a0 a1 a2 a3 a4 a5 a6 a7 a8 k, LeO (impl_isHung.f k a0 a1 a2 a3 a4 a5 a6 a7 a8) (impl_isHung.f (k + 1) a0 a1 a2 a3 a4 a5 a6 a7 a8) := by
 intro a0 a1 a2 a3 a4 a5 a6 a7 a8 k
 unfold impl_isHung.f
 repeat' first
   | (with_reducible exact impl_FindDevice.mono _ _ _)
   | (with_reducible exact LeO.refl _)
   | (with_reducible exact LeO.none _)
   | (with_reducible refine LeO.ite ?_ ?_)
   | (with_reducible refine LeO.bind ?_ (fun _ => ?_))
set_option maxHeartbeats 8000000 in
set_option maxRecDepth 100000 in
theorem impl_isHung.calls (k : Nat) (A0 : Option Addr) (c0 : Nat) (l0 : List (S30)) (a1_0 : ByteArray) (a1_1 : Int) (a1_2 : ByteArray) (a1_3 : Int) (a1_4 : Int) (a1_5 : Int) (a1_6 : Int) (a1_7 : Int) (r : Bool) (w : World) (hr0 : Kd.C k30 w A0 l0.length l0) (hc0 : l0.length ≤ c0) (h : impl_isHung.f k l0 a1_0 a1_1 a1_2 a1_3 a1_4 a1_5 a1_6 a1_7 = some r) :
  Calls Try.prog 65 #[.slice A0 l0.length c0, .agg #[.string a1_0, .int .i64 a1_1, .string a1_2, .int .i64 a1_3, .int .i64 a1_4, .int .i64 a1_5, .int .i64 a1_6, .int .i64 a1_7]] w fun e w' => e = .returned (.bool r) ∧ Below w.heap.size w w' := by
 have hu30 := Try.underlying30
 have HR0 := am hr0
 have HC0 := am hc0
 clear hr0 hc0
 have HB := am (Below.refl w.heap.size w)
 have H : (if a1_1 = 1 then (some true) else ((impl_FindDevice.f k l0 a1_2).bind fun t125 => (if t125 ≥ 0 then (if 0 ≤ t125 then (if t125 < (l0.length : Int) then (some (((rd_T30 l0 t125).f1) == (wrap64 (a1_1 - 1)))) else (none)) else (none)) else (some false)))) = some r := h
 clear h
 by_cases c3 : a1_1 = 1
 ·rw [if_pos c3] at H
  have c3b0 : (a1_1 == 1) = true := beq_iff_eq.mpr c3
  have c3b1 : (a1_1 != 1) = false := bne_eq_false_iff_eq.mpr c3
  clear c3
  obtain rfl := Option.some.inj H
  go_enter Try.func65, Try.ntmps65
  go_wp2_with (first | ((with_reducible refine gate_dst (N := 3) rfl ?_); refine box_event ?hg (N := 3) ?hd (cs := #[.string a1_0, .int .i64 a1_1, .string a1_2, .int .i64 a1_3, .int .i64 a1_4, .int .i64 a1_5, .int .i64 a1_6, .int .i64 a1_7]) (t := 30) ?hr ?_; (case hd => rfl); (case hg => rfl); (case hr => exact gq); intro gb124 hg w4 hbox hb; have n0_ := am (below_step u3_0 hb); have n1_ := am (hbox); have n2_ := bsw w hg (below_size u3_0); have n3_ := bsw w hg (below_size u3_0); clear HB; have HB := n0_; have BK124 := n1_; have GW124 := n2_; have GE124 := n3_; clear n0_ n1_ n2_ n3_ hb hbox hg; obtain ⟨hcz5_0, hcz5_1, hcz5_2, hcz5_3, hcz5_4, hcz5_5, hcz5_6, hcz5_7, hfz5_0, hfz5_1, hfz5_2, hfz5_3, hfz5_4, hfz5_5, hfz5_6, hfz5_7⟩ := cf8 BK124.out))
  repeat (go_quiet (first | ((with_reducible refine gate_dst (N := 3) rfl ?_); refine box_event ?hg (N := 3) ?hd (cs := #[.string a1_0, .int .i64 a1_1, .string a1_2, .int .i64 a1_3, .int .i64 a1_4, .int .i64 a1_5, .int .i64 a1_6, .int .i64 a1_7]) (t := 30) ?hr ?_; (case hd => rfl); (case hg => rfl); (case hr => exact gq); intro gb124 hg w4 hbox hb; have n0_ := am (below_step u3_0 hb); have n1_ := am (hbox); have n2_ := bsw w hg (below_size u3_0); have n3_ := bsw w hg (below_size u3_0); clear HB; have HB := n0_; have BK124 := n1_; have GW124 := n2_; have GE124 := n3_; clear n0_ n1_ n2_ n3_ hb hbox hg; obtain ⟨hcz5_0, hcz5_1, hcz5_2, hcz5_3, hcz5_4, hcz5_5, hcz5_6, hcz5_7, hfz5_0, hfz5_1, hfz5_2, hfz5_3, hfz5_4, hfz5_5, hfz5_6, hfz5_7⟩ := cf8 BK124.out)); try go_wp2_with (first | ((with_reducible refine gate_dst (N := 3) rfl ?_); refine box_event ?hg (N := 3) ?hd (cs := #[.string a1_0, .int .i64 a1_1, .string a1_2, .int .i64 a1_3, .int .i64 a1_4, .int .i64 a1_5, .int .i64 a1_6, .int .i64 a1_7]) (t := 30) ?hr ?_; (case hd => rfl); (case hg => rfl); (case hr => exact gq); intro gb124 hg w4 hbox hb; have n0_ := am (below_step u3_0 hb); have n1_ := am (hbox); have n2_ := bsw w hg (below_size u3_0); have n3_ := bsw w hg (below_size u3_0); clear HB; have HB := n0_; have BK124 := n1_; have GW124 := n2_; have GE124 := n3_; clear n0_ n1_ n2_ n3_ hb hbox hg; obtain ⟨hcz5_0, hcz5_1, hcz5_2, hcz5_3, hcz5_4, hcz5_5, hcz5_6, hcz5_7, hfz5_0, hfz5_1, hfz5_2, hfz5_3, hfz5_4, hfz5_5, hfz5_6, hfz5_7⟩ := cf8 BK124.out)))
  go_ret
  exact ⟨by first | rfl | (simp [*] <;> rfl), s3_0⟩
 ·rw [if_neg c3] at H
  have c3b0 : (a1_1 == 1) = false := beq_eq_false_iff_ne.mpr c3
  have c3b1 : (a1_1 != 1) = true := bne_iff_ne.mpr c3
  replace H := Option.bind_eq_some_iff.mp H
  obtain ⟨t125, A60, H⟩ := H
  replace H : (if t125 ≥ 0 then (if 0 ≤ t125 then (if t125 < (l0.length : Int) then (some (((rd_T30 l0 t125).f1) == (wrap64 (a1_1 - 1)))) else (none)) else (none)) else (some false)) = some r := H
  have A6 := am A60
  clear A60
  by_cases c7 : t125 ≥ 0
  ·rw [if_pos c7] at H
   have c7b0 : decide (0 ≤ t125) = true := decide_eq_true c7
   clear c7
   by_cases c8 : 0 ≤ t125
   ·rw [if_pos c8] at H
    have c8b0 : decide (0 ≤ t125) = true := decide_eq_true c8
    clear c8
    by_cases c9 : t125 < (l0.length : Int)
    ·rw [if_pos c9] at H
     have c9b0 : decide (t125 < (l0.length : Int)) = true := decide_eq_true c9
     clear c9
     obtain rfl := Option.some.inj H
     go_enter Try.func65, Try.ntmps65
     go_wp2_with (first | ((with_reducible refine gate_dst (N := 3) rfl ?_); refine box_event ?hg (N := 3) ?hd (cs := #[.string a1_0, .int .i64 a1_1, .string a1_2, .int .i64 a1_3, .int .i64 a1_4, .int .i64 a1_5, .int .i64 a1_6, .int .i64 a1_7]) (t := 30) ?hr ?_; (case hd => rfl); (case hg => rfl); (case hr => exact gq); intro gb124 hg w10 hbox hb; have n0_ := am (below_step u3_0 hb); have n1_ := am (hbox); have n2_ := bsw w hg (below_size u3_0); have n3_ := bsw w hg (below_size u3_0); clear HB; have HB := n0_; have BK124 := n1_; have GW124 := n2_; have GE124 := n3_; clear n0_ n1_ n2_ n3_ hb hbox hg; obtain ⟨hcz11_0, hcz11_1, hcz11_2, hcz11_3, hcz11_4, hcz11_5, hcz11_6, hcz11_7, hfz11_0, hfz11_1, hfz11_2, hfz11_3, hfz11_4, hfz11_5, hfz11_6, hfz11_7⟩ := cf8 BK124.out) | (go_at_call 22; (with_reducible refine (impl_FindDevice.calls k _ _ l0 a1_2 t125 _ ?side1 ?side2 A6.out).mono ?_); (case side1 => exact y3_0); (case side2 => exact HC0.out); rintro e w12 ⟨rfl, hb⟩; have n0_ := am (blk_below (g := gb124) (o := zo0 a1_0 a1_1 a1_2 a1_3 a1_4 a1_5 a1_6 a1_7) u3_2 hb); have n1_ := am (below_step u3_1 hb); clear BK124 HB; have BK124 := n0_; have HB := n1_; clear n0_ n1_; (try clear hb); (try clear hb2); (try clear hk); (try clear hi); have p126 : 0 ≤ (t125 : Int) := od (by assumption); have q126 : t125 < (l0.length : Int) := od (by assumption); obtain ⟨ad126, e126, hx126_0, hx126_1, hx126_2, hx126_3, hx126_4, hx126_5, hx126_6, hx126_7⟩ := at_T30 HR0.out t125 p126 q126; cases e126; replace hx126_0 := bc HB.out hx126_0; replace hx126_1 := bc HB.out hx126_1; replace hx126_2 := bc HB.out hx126_2; replace hx126_3 := bc HB.out hx126_3; replace hx126_4 := bc HB.out hx126_4; replace hx126_5 := bc HB.out hx126_5; replace hx126_6 := bc HB.out hx126_6; replace hx126_7 := bc HB.out hx126_7; replace p126 := eq_true p126; replace q126 := eq_true q126; obtain ⟨hcz13_0, hcz13_1, hcz13_2, hcz13_3, hcz13_4, hcz13_5, hcz13_6, hcz13_7, hfz13_0, hfz13_1, hfz13_2, hfz13_3, hfz13_4, hfz13_5, hfz13_6, hfz13_7⟩ := cf8 BK124.out))
     repeat (go_quiet (first | ((with_reducible refine gate_dst (N := 3) rfl ?_); refine box_event ?hg (N := 3) ?hd (cs := #[.string a1_0, .int .i64 a1_1, .string a1_2, .int .i64 a1_3, .int .i64 a1_4, .int .i64 a1_5, .int .i64 a1_6, .int .i64 a1_7]) (t := 30) ?hr ?_; (case hd => rfl); (case hg => rfl); (case hr => exact gq); intro gb124 hg w10 hbox hb; have n0_ := am (below_step u3_0 hb); have n1_ := am (hbox); have n2_ := bsw w hg (below_size u3_0); have n3_ := bsw w hg (below_size u3_0); clear HB; have HB := n0_; have BK124 := n1_; have GW124 := n2_; have GE124 := n3_; clear n0_ n1_ n2_ n3_ hb hbox hg; obtain ⟨hcz11_0, hcz11_1, hcz11_2, hcz11_3, hcz11_4, hcz11_5, hcz11_6, hcz11_7, hfz11_0, hfz11_1, hfz11_2, hfz11_3, hfz11_4, hfz11_5, hfz11_6, hfz11_7⟩ := cf8 BK124.out) | (go_at_call 22; (with_reducible refine (impl_FindDevice.calls k _ _ l0 a1_2 t125 _ ?side1 ?side2 A6.out).mono ?_); (case side1 => exact y3_0); (case side2 => exact HC0.out); rintro e w12 ⟨rfl, hb⟩; have n0_ := am (blk_below (g := gb124) (o := zo0 a1_0 a1_1 a1_2 a1_3 a1_4 a1_5 a1_6 a1_7) u3_2 hb); have n1_ := am (below_step u3_1 hb); clear BK124 HB; have BK124 := n0_; have HB := n1_; clear n0_ n1_; (try clear hb); (try clear hb2); (try clear hk); (try clear hi); have p126 : 0 ≤ (t125 : Int) := od (by assumption); have q126 : t125 < (l0.length : Int) := od (by assumption); obtain ⟨ad126, e126, hx126_0, hx126_1, hx126_2, hx126_3, hx126_4, hx126_5, hx126_6, hx126_7⟩ := at_T30 HR0.out t125 p126 q126; cases e126; replace hx126_0 := bc HB.out hx126_0; replace hx126_1 := bc HB.out hx126_1; replace hx126_2 := bc HB.out hx126_2; replace hx126_3 := bc HB.out hx126_3; replace hx126_4 := bc HB.out hx126_4; replace hx126_5 := bc HB.out hx126_5; replace hx126_6 := bc HB.out hx126_6; replace hx126_7 := bc HB.out hx126_7; replace p126 := eq_true p126; replace q126 := eq_true q126; obtain ⟨hcz13_0, hcz13_1, hcz13_2, hcz13_3, hcz13_4, hcz13_5, hcz13_6, hcz13_7, hfz13_0, hfz13_1, hfz13_2, hfz13_3, hfz13_4, hfz13_5, hfz13_6, hfz13_7⟩ := cf8 BK124.out)); try go_wp2_with (first | ((with_reducible refine gate_dst (N := 3) rfl ?_); refine box_event ?hg (N := 3) ?hd (cs := #[.string a1_0, .int .i64 a1_1, .string a1_2, .int .i64 a1_3, .int .i64 a1_4, .int .i64 a1_5, .int .i64 a1_6, .int .i64 a1_7]) (t := 30) ?hr ?_; (case hd => rfl); (case hg => rfl); (case hr => exact gq); intro gb124 hg w10 hbox hb; have n0_ := am (below_step u3_0 hb); have n1_ := am (hbox); have n2_ := bsw w hg (below_size u3_0); have n3_ := bsw w hg (below_size u3_0); clear HB; have HB := n0_; have BK124 := n1_; have GW124 := n2_; have GE124 := n3_; clear n0_ n1_ n2_ n3_ hb hbox hg; obtain ⟨hcz11_0, hcz11_1, hcz11_2, hcz11_3, hcz11_4, hcz11_5, hcz11_6, hcz11_7, hfz11_0, hfz11_1, hfz11_2, hfz11_3, hfz11_4, hfz11_5, hfz11_6, hfz11_7⟩ := cf8 BK124.out) | (go_at_call 22; (with_reducible refine (impl_FindDevice.calls k _ _ l0 a1_2 t125 _ ?side1 ?side2 A6.out).mono ?_); (case side1 => exact y3_0); (case side2 => exact HC0.out); rintro e w12 ⟨rfl, hb⟩; have n0_ := am (blk_below (g := gb124) (o := zo0 a1_0 a1_1 a1_2 a1_3 a1_4 a1_5 a1_6 a1_7) u3_2 hb); have n1_ := am (below_step u3_1 hb); clear BK124 HB; have BK124 := n0_; have HB := n1_; clear n0_ n1_; (try clear hb); (try clear hb2); (try clear hk); (try clear hi); have p126 : 0 ≤ (t125 : Int) := od (by assumption); have q126 : t125 < (l0.length : Int) := od (by assumption); obtain ⟨ad126, e126, hx126_0, hx126_1, hx126_2, hx126_3, hx126_4, hx126_5, hx126_6, hx126_7⟩ := at_T30 HR0.out t125 p126 q126; cases e126; replace hx126_0 := bc HB.out hx126_0; replace hx126_1 := bc HB.out hx126_1; replace hx126_2 := bc HB.out hx126_2; replace hx126_3 := bc HB.out hx126_3; replace hx126_4 := bc HB.out hx126_4; replace hx126_5 := bc HB.out hx126_5; replace hx126_6 := bc HB.out hx126_6; replace hx126_7 := bc HB.out hx126_7; replace p126 := eq_true p126; replace q126 := eq_true q126; obtain ⟨hcz13_0, hcz13_1, hcz13_2, hcz13_3, hcz13_4, hcz13_5, hcz13_6, hcz13_7, hfz13_0, hfz13_1, hfz13_2, hfz13_3, hfz13_4, hfz13_5, hfz13_6, hfz13_7⟩ := cf8 BK124.out)))
     go_ret
     exact ⟨by first | rfl | (simp [*] <;> rfl), s3_0⟩
    ·rw [if_neg c9] at H
     exact absurd H (by simp)
   ·rw [if_neg c8] at H
    exact absurd H (by simp)
  ·rw [if_neg c7] at H
   have c7b0 : decide (0 ≤ t125) = false := decide_eq_false c7
   clear c7
   obtain rfl := Option.some.inj H
   go_enter Try.func65, Try.ntmps65
   go_wp2_with (first | ((with_reducible refine gate_dst (N := 3) rfl ?_); refine box_event ?hg (N := 3) ?hd (cs := #[.string a1_0, .int .i64 a1_1, .string a1_2, .int .i64 a1_3, .int .i64 a1_4, .int .i64 a1_5, .int .i64 a1_6, .int .i64 a1_7]) (t := 30) ?hr ?_; (case hd => rfl); (case hg => rfl); (case hr => exact gq); intro gb124 hg w14 hbox hb; have n0_ := am (below_step u3_0 hb); have n1_ := am (hbox); have n2_ := bsw w hg (below_size u3_0); have n3_ := bsw w hg (below_size u3_0); clear HB; have HB := n0_; have BK124 := n1_; have GW124 := n2_; have GE124 := n3_; clear n0_ n1_ n2_ n3_ hb hbox hg; obtain ⟨hcz15_0, hcz15_1, hcz15_2, hcz15_3, hcz15_4, hcz15_5, hcz15_6, hcz15_7, hfz15_0, hfz15_1, hfz15_2, hfz15_3, hfz15_4, hfz15_5, hfz15_6, hfz15_7⟩ := cf8 BK124.out) | (go_at_call 22; (with_reducible refine (impl_FindDevice.calls k _ _ l0 a1_2 t125 _ ?side1 ?side2 A6.out).mono ?_); (case side1 => exact y3_0); (case side2 => exact HC0.out); rintro e w16 ⟨rfl, hb⟩; have n0_ := am (blk_below (g := gb124) (o := zo0 a1_0 a1_1 a1_2 a1_3 a1_4 a1_5 a1_6 a1_7) u3_2 hb); have n1_ := am (below_step u3_1 hb); clear BK124 HB; have BK124 := n0_; have HB := n1_; clear n0_ n1_; (try clear hb); (try clear hb2); (try clear hk); (try clear hi)))
   repeat (go_quiet (first | ((with_reducible refine gate_dst (N := 3) rfl ?_); refine box_event ?hg (N := 3) ?hd (cs := #[.string a1_0, .int .i64 a1_1, .string a1_2, .int .i64 a1_3, .int .i64 a1_4, .int .i64 a1_5, .int .i64 a1_6, .int .i64 a1_7]) (t := 30) ?hr ?_; (case hd => rfl); (case hg => rfl); (case hr => exact gq); intro gb124 hg w14 hbox hb; have n0_ := am (below_step u3_0 hb); have n1_ := am (hbox); have n2_ := bsw w hg (below_size u3_0); have n3_ := bsw w hg (below_size u3_0); clear HB; have HB := n0_; have BK124 := n1_; have GW124 := n2_; have GE124 := n3_; clear n0_ n1_ n2_ n3_ hb hbox hg; obtain ⟨hcz15_0, hcz15_1, hcz15_2, hcz15_3, hcz15_4, hcz15_5, hcz15_6, hcz15_7, hfz15_0, hfz15_1, hfz15_2, hfz15_3, hfz15_4, hfz15_5, hfz15_6, hfz15_7⟩ := cf8 BK124.out) | (go_at_call 22; (with_reducible refine (impl_FindDevice.calls k _ _ l0 a1_2 t125 _ ?side1 ?side2 A6.out).mono ?_); (case side1 => exact y3_0); (case side2 => exact HC0.out); rintro e w16 ⟨rfl, hb⟩; have n0_ := am (blk_below (g := gb124) (o := zo0 a1_0 a1_1 a1_2 a1_3 a1_4 a1_5 a1_6 a1_7) u3_2 hb); have n1_ := am (below_step u3_1 hb); clear BK124 HB; have BK124 := n0_; have HB := n1_; clear n0_ n1_; (try clear hb); (try clear hb2); (try clear hk); (try clear hi))); try go_wp2_with (first | ((with_reducible refine gate_dst (N := 3) rfl ?_); refine box_event ?hg (N := 3) ?hd (cs := #[.string a1_0, .int .i64 a1_1, .string a1_2, .int .i64 a1_3, .int .i64 a1_4, .int .i64 a1_5, .int .i64 a1_6, .int .i64 a1_7]) (t := 30) ?hr ?_; (case hd => rfl); (case hg => rfl); (case hr => exact gq); intro gb124 hg w14 hbox hb; have n0_ := am (below_step u3_0 hb); have n1_ := am (hbox); have n2_ := bsw w hg (below_size u3_0); have n3_ := bsw w hg (below_size u3_0); clear HB; have HB := n0_; have BK124 := n1_; have GW124 := n2_; have GE124 := n3_; clear n0_ n1_ n2_ n3_ hb hbox hg; obtain ⟨hcz15_0, hcz15_1, hcz15_2, hcz15_3, hcz15_4, hcz15_5, hcz15_6, hcz15_7, hfz15_0, hfz15_1, hfz15_2, hfz15_3, hfz15_4, hfz15_5, hfz15_6, hfz15_7⟩ := cf8 BK124.out) | (go_at_call 22; (with_reducible refine (impl_FindDevice.calls k _ _ l0 a1_2 t125 _ ?side1 ?side2 A6.out).mono ?_); (case side1 => exact y3_0); (case side2 => exact HC0.out); rintro e w16 ⟨rfl, hb⟩; have n0_ := am (blk_below (g := gb124) (o := zo0 a1_0 a1_1 a1_2 a1_3 a1_4 a1_5 a1_6 a1_7) u3_2 hb); have n1_ := am (below_step u3_1 hb); clear BK124 HB; have BK124 := n0_; have HB := n1_; clear n0_ n1_; (try clear hb); (try clear hb2); (try clear hk); (try clear hi))))
   go_ret
   exact ⟨by first | rfl | (simp [*] <;> rfl), s3_0⟩

end Go.Proofs.Ytkedcokhcgklpaa.MFnLines
