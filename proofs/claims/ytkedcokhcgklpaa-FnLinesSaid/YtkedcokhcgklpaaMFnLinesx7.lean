-- Written by a program for this claim.
import Derived.Test.YtkedcokhcgklpaaMFnLinesx0
import Derived.Test.YtkedcokhcgklpaaMFnLinesx1
import Derived.Test.YtkedcokhcgklpaaMFnLinesx6
namespace Go.Proofs.Ytkedcokhcgklpaa.MFnLines
open Go.RowKit Go.Proofs.YtkedcokhcgklpaaW.PrintWords Go.Proofs.YtkedcokhcgklpaaW.PrintLast Go.Proofs.YtkedcokhcgklpaaW.PrintMore
attribute [local go_sem] max2_int min2_int max_two min_two max_three min_three max_four min_four   -- for this text's walks alone
set_option linter.unusedVariables false
set_option linter.unusedSimpArgs false

attribute [local go_sem high] eqA30
theorem s7_0 {p : Prop} (h : p := by repeat (first | (with_reducible first | exact HB.out | apply below_alloc | apply pw_below_drewN | apply below_drew1 | refine below_set ?_ GE151.out) | exact HB.out)) : p := h
theorem s7_1 {p : Prop} (h : p := by repeat (first | (with_reducible first | exact HB.out | apply below_alloc | apply pw_below_drewN | apply below_drew1 | refine below_set ?_ GE159.out) | exact HB.out)) : p := h
theorem s7_2 {p : Prop} (h : p := by repeat (first | (with_reducible first | exact HB.out | apply below_alloc | apply pw_below_drewN | apply below_drew1 | refine below_set ?_ GE160.out) | exact HB.out)) : p := h
theorem s7_3 {p : Prop} (h : p := by repeat (first | (with_reducible first | exact HB.out | apply below_alloc | apply pw_below_drewN | apply below_drew1) | exact HB.out)) : p := h
theorem y7_0 {p : Prop} (h : p := by repeat (first | exact (Kd.C_below HR0.out HB.out) | (with_reducible refine Kd.C_alloc ?_ _) | (with_reducible refine Kd.C_drewN ?_ _) | (with_reducible refine Kd.C_drew ?_))) : p := h
theorem u7_0 {p : Prop} (h : p := by repeat (first | (with_reducible first | exact HB.out | apply below_alloc | apply pw_below_drewN | apply below_drew1) | exact HB.out)) : p := h
theorem u7_1 {p : Prop} (h : p := by (try simp only [List.map_toArray, List.map_cons, List.map_nil]); first | done | rfl) : p := h
theorem u7_2 {p : Prop} (h : p := by repeat (first | (with_reducible first | exact HB.out | apply below_alloc | apply pw_below_drewN | apply below_drew1 | refine below_set ?_ GE160.out) | exact HB.out)) : p := h
theorem u7_3 {p : Prop} (h : p := by repeat (first | (with_reducible first | exact HB.out | apply below_alloc | apply pw_below_drewN | apply below_drew1 | refine below_set ?_ GE151.out) | exact HB.out)) : p := h
theorem u7_4 {p : Prop} (h : p := by (with_reducible repeat (first | refine blk_drewN ?_ _ | refine blk_drew ?_ | refine blk_alloc ?_ _)); exact BK160.out) : p := h
theorem u7_5 {p : Prop} (h : p := by (with_reducible repeat (first | refine blk_drewN ?_ _ | refine blk_drew ?_ | refine blk_alloc ?_ _)); exact BK151.out) : p := h
/-! ### spec_IsDevice: function 16 -/
def spec_IsDevice.j0 : Nat → Bool → ByteArray → Int → ByteArray → Int → Int → Int → Int → Int → Option (Bool)
 | 0, _, _, _, _, _, _, _, _, _ => none
 | k + 1, x3, x152000, x152001, x152002, x152003, x152004, x152005, x152006, x152007 => (spec_IsName.f k x152000).bind fun t153 => (if t153 = true then (if x152001 = 1 then ((spec_l5Supply.f x152007).bind fun t154 => (if t154 = true then (some (x152002.toList == ([] : List UInt8) && ((x152003 == 0 && (x152004 == 0)) && (x152005 == 0 && (x152006 == 0))))) else (some false))) else (if x152001 = 2 then (if x3 = true then ((spec_l6Jet.f x152000 x152001 x152002 x152003 x152004 x152005 x152006 x152007).bind fun t155 => (if t155 = true then ((spec_l1In.f x152007 0 32).bind fun t156 => (some t156)) else (some false))) else (some false)) else (if x152001 = 3 then (if x3 = true then ((spec_IsPlace.f x152003 x152004).bind fun t157 => (if t157 = true then (some (x152005 == 0 && (x152006 == 0 && (x152007 == 0)))) else (some false))) else (some false)) else (some false)))) else (some false))
def spec_IsDevice.f (k : Nat) (a0_0 : ByteArray) (a0_1 : Int) (a0_2 : ByteArray) (a0_3 : Int) (a0_4 : Int) (a0_5 : Int) (a0_6 : Int) (a0_7 : Int) : Option (Bool) := (spec_IsName.f k a0_2).bind fun t152 => (if t152 = true then (spec_IsDevice.j0 k (a0_2.toList != a0_0.toList) a0_0 a0_1 a0_2 a0_3 a0_4 a0_5 a0_6 a0_7) else (spec_IsDevice.j0 k false a0_0 a0_1 a0_2 a0_3 a0_4 a0_5 a0_6 a0_7))
theorem spec_IsDevice.mono_l : ∀ k, (∀ y0 y1 y2 y3 y4 y5 y6 y7 y8, LeO (spec_IsDevice.j0 k y0 y1 y2 y3 y4 y5 y6 y7 y8) (spec_IsDevice.j0 (k + 1) y0 y1 y2 y3 y4 y5 y6 y7 y8))
 | 0 => fun _ _ _ _ _ _ _ _ _ r h => by simp [spec_IsDevice.j0] at h
 | k + 1 => by
  have ih0 := spec_IsDevice.mono_l k
  ·intro y0 y1 y2 y3 y4 y5 y6 y7 y8
   unfold spec_IsDevice.j0
   repeat' first
   | (with_reducible exact ih0 _ _ _ _ _ _ _ _ _)
   | (with_reducible exact spec_IsName.mono _ _)
   | (with_reducible exact LeO.refl _)
   | (with_reducible exact LeO.none _)
   | (with_reducible refine LeO.ite ?_ ?_)
   | (with_reducible refine LeO.bind ?_ (fun _ => ?_))
theorem spec_IsDevice.mono : ∀ a0 a1 a2 a3 a4 a5 a6 a7 k, LeO (spec_IsDevice.f k a0 a1 a2 a3 a4 a5 a6 a7) (spec_IsDevice.f (k + 1) a0 a1 a2 a3 a4 a5 a6 a7) := by
 intro a0 a1 a2 a3 a4 a5 a6 a7 k
 have ih0 := spec_IsDevice.mono_l k
 unfold spec_IsDevice.f
 repeat' first
   | (with_reducible exact ih0 _ _ _ _ _ _ _ _ _)
   | (with_reducible exact spec_IsName.mono _ _)
   | (with_reducible exact LeO.refl _)
   | (with_reducible exact LeO.none _)
   | (with_reducible refine LeO.ite ?_ ?_)
   | (with_reducible refine LeO.bind ?_ (fun _ => ?_))
set_option maxHeartbeats 8000000 in
set_option maxRecDepth 100000 in
theorem spec_IsDevice.calls (k : Nat) (a0_0 : ByteArray) (a0_1 : Int) (a0_2 : ByteArray) (a0_3 : Int) (a0_4 : Int) (a0_5 : Int) (a0_6 : Int) (a0_7 : Int) (r : Bool) (w : World) (h : spec_IsDevice.f k a0_0 a0_1 a0_2 a0_3 a0_4 a0_5 a0_6 a0_7 = some r) :
  Calls Try.prog 16 #[.agg #[.string a0_0, .int .i64 a0_1, .string a0_2, .int .i64 a0_3, .int .i64 a0_4, .int .i64 a0_5, .int .i64 a0_6, .int .i64 a0_7]] w fun e w' => e = .returned (.bool r) ∧ Below w.heap.size w w' := by
 have hu30 := Try.underlying30
 have hu28 := Try.underlying28
 have HB := am (Below.refl w.heap.size w)
 have H : ((spec_IsName.f k a0_2).bind fun t152 => (if t152 = true then (spec_IsDevice.j0 k (a0_2.toList != a0_0.toList) a0_0 a0_1 a0_2 a0_3 a0_4 a0_5 a0_6 a0_7) else (spec_IsDevice.j0 k false a0_0 a0_1 a0_2 a0_3 a0_4 a0_5 a0_6 a0_7))) = some r := h
 clear h
 have HC2 := am H
 clear H
 go_enter Try.func16, Try.ntmps16
 go_upto_region 1 with (first | ((with_reducible refine gate_dst (N := 1) rfl ?_); refine box_event ?hg (N := 1) ?hd (cs := #[.string a0_0, .int .i64 a0_1, .string a0_2, .int .i64 a0_3, .int .i64 a0_4, .int .i64 a0_5, .int .i64 a0_6, .int .i64 a0_7]) (t := 30) ?hr ?_; (case hd => rfl); (case hg => rfl); (case hr => exact gq); intro gb151 hg w3 hbox hb; have n0_ := am (below_step u7_0 hb); have n1_ := am (hbox); have n2_ := bsw w hg (below_size u7_0); have n3_ := bsw w hg (below_size u7_0); clear HB; have HB := n0_; have BK151 := n1_; have GW151 := n2_; have GE151 := n3_; clear n0_ n1_ n2_ n3_ hb hbox hg))
 (try simp only [Act.put, List.setIfInBounds_toArray, List.set_cons_zero, List.set_cons_succ])
 go_cut [3] (fun v3 wc => ∃ (kq : Nat) (x3_1 : Bool), v3 = .bool x3_1 ∧ Aside0 (spec_IsDevice.j0 kq x3_1 a0_0 a0_1 a0_2 a0_3 a0_4 a0_5 a0_6 a0_7 = some r) ∧ Aside0 (kq ≤ k) ∧ Aside0 (wc.heap[gb151]? = some (.cells #[.string a0_0, .int .i64 a0_1, .string a0_2, .int .i64 a0_3, .int .i64 a0_4, .int .i64 a0_5, .int .i64 a0_6, .int .i64 a0_7] 30 (0, 0))) ∧ Aside0 (Below w.heap.size w wc))
 case first =>
  have H := HC2.out
  clear HC2
  replace H := Option.bind_eq_some_iff.mp H
  obtain ⟨t152, A40, H⟩ := H
  replace H : (if t152 = true then (spec_IsDevice.j0 k (a0_2.toList != a0_0.toList) a0_0 a0_1 a0_2 a0_3 a0_4 a0_5 a0_6 a0_7) else (spec_IsDevice.j0 k false a0_0 a0_1 a0_2 a0_3 a0_4 a0_5 a0_6 a0_7)) = some r := H
  have A4 := am A40
  clear A40
  by_cases c5 : t152 = true
  ·subst c5
   have H1 : (spec_IsDevice.j0 k (a0_2.toList != a0_0.toList) a0_0 a0_1 a0_2 a0_3 a0_4 a0_5 a0_6 a0_7) = some r := by rw [if_pos rfl] at H; exact H
   clear H
   have H := H1
   clear H1
   have H' := am H
   clear H
   obtain ⟨hcz6_0, hcz6_1, hcz6_2, hcz6_3, hcz6_4, hcz6_5, hcz6_6, hcz6_7, hfz6_0, hfz6_1, hfz6_2, hfz6_3, hfz6_4, hfz6_5, hfz6_6, hfz6_7⟩ := cf8 BK151.out
   go_wp2_with (first | ((with_reducible refine gate_callee (f := 51) rfl ?_); refine goesL_ (some 6) rfl rfl Try.func51 (by kernel_rfl) rfl #[.string a0_2] rfl u7_1 ?_; (with_reducible refine (spec_IsName.calls k a0_2 true _ A4.out).mono ?_); rintro e w' ⟨rfl, ⟨nd, rfl⟩⟩; refine ⟨_, rfl, ?_⟩))
   go_meet
   case rel => exact ⟨_, ((a0_2.toList != a0_0.toList)), (by first | rfl | (simp; done) | (simp [*]; done)), H', ⟨by first | omega | exact Nat.le_refl _⟩, ⟨by (with_reducible repeat (first | refine blk_drewN ?_ _ | refine blk_drew ?_ | refine blk_alloc ?_ _)); exact BK151.out⟩, ⟨s7_0⟩⟩
  ·replace c5 := Bool.eq_false_iff.mpr c5
   subst c5
   have H1 : (spec_IsDevice.j0 k false a0_0 a0_1 a0_2 a0_3 a0_4 a0_5 a0_6 a0_7) = some r := by rw [if_neg (show ¬ (false = true) by decide)] at H; exact H
   clear H
   have H := H1
   clear H1
   have H' := am H
   clear H
   obtain ⟨hcz7_0, hcz7_1, hcz7_2, hcz7_3, hcz7_4, hcz7_5, hcz7_6, hcz7_7, hfz7_0, hfz7_1, hfz7_2, hfz7_3, hfz7_4, hfz7_5, hfz7_6, hfz7_7⟩ := cf8 BK151.out
   go_wp2_with (first | ((with_reducible refine gate_callee (f := 51) rfl ?_); refine goesL_ (some 6) rfl rfl Try.func51 (by kernel_rfl) rfl #[.string a0_2] rfl u7_1 ?_; (with_reducible refine (spec_IsName.calls k a0_2 false _ A4.out).mono ?_); rintro e w' ⟨rfl, ⟨nd, rfl⟩⟩; refine ⟨_, rfl, ?_⟩))
   go_meet
   case rel => exact ⟨_, (false), (by first | rfl | (simp; done) | (simp [*]; done)), H', ⟨by first | omega | exact Nat.le_refl _⟩, ⟨by (with_reducible repeat (first | refine blk_drewN ?_ _ | refine blk_drew ?_ | refine blk_alloc ?_ _)); exact BK151.out⟩, ⟨s7_0⟩⟩
 case rest =>
  clear HC2
  try clear c1
  try clear p2
  try clear c5
  try clear hcz6_0
  try clear hcz6_1
  try clear hcz6_2
  try clear hcz6_3
  try clear hcz6_4
  try clear hcz6_5
  try clear hcz6_6
  try clear hcz6_7
  try clear hcz7_0
  try clear hcz7_1
  try clear hcz7_2
  try clear hcz7_3
  try clear hcz7_4
  try clear hcz7_5
  try clear hcz7_6
  try clear hcz7_7
  try clear hfz6_0
  try clear hfz6_1
  try clear hfz6_2
  try clear hfz6_3
  try clear hfz6_4
  try clear hfz6_5
  try clear hfz6_6
  try clear hfz6_7
  try clear hfz7_0
  try clear hfz7_1
  try clear hfz7_2
  try clear hfz7_3
  try clear hfz7_4
  try clear hfz7_5
  try clear hfz7_6
  try clear hfz7_7
  obtain ⟨kq, x3_1, rfl, HA, HJ1, BK151, HB⟩ := hcut
  cases kq with
  | zero => exact absurd HA.out (by simp [spec_IsDevice.j0])
  | succ kj1 =>
   have H := HA.out
   clear HA
   simp only [spec_IsDevice.j0] at H
   replace H := Option.bind_eq_some_iff.mp H
   obtain ⟨t153, A80, H⟩ := H
   replace H : (if t153 = true then (if a0_1 = 1 then ((spec_l5Supply.f a0_7).bind fun t154 => (if t154 = true then (some (a0_2.toList == ([] : List UInt8) && ((a0_3 == 0 && (a0_4 == 0)) && (a0_5 == 0 && (a0_6 == 0))))) else (some false))) else (if a0_1 = 2 then (if x3_1 = true then ((spec_l6Jet.f a0_0 a0_1 a0_2 a0_3 a0_4 a0_5 a0_6 a0_7).bind fun t155 => (if t155 = true then ((spec_l1In.f a0_7 0 32).bind fun t156 => (some t156)) else (some false))) else (some false)) else (if a0_1 = 3 then (if x3_1 = true then ((spec_IsPlace.f a0_3 a0_4).bind fun t157 => (if t157 = true then (some (a0_5 == 0 && (a0_6 == 0 && (a0_7 == 0)))) else (some false))) else (some false)) else (some false)))) else (some false)) = some r := H
   have A8 := am A80
   clear A80
   by_cases c9 : t153 = true
   ·subst c9
    have H1 : (if a0_1 = 1 then ((spec_l5Supply.f a0_7).bind fun t154 => (if t154 = true then (some (a0_2.toList == ([] : List UInt8) && ((a0_3 == 0 && (a0_4 == 0)) && (a0_5 == 0 && (a0_6 == 0))))) else (some false))) else (if a0_1 = 2 then (if x3_1 = true then ((spec_l6Jet.f a0_0 a0_1 a0_2 a0_3 a0_4 a0_5 a0_6 a0_7).bind fun t155 => (if t155 = true then ((spec_l1In.f a0_7 0 32).bind fun t156 => (some t156)) else (some false))) else (some false)) else (if a0_1 = 3 then (if x3_1 = true then ((spec_IsPlace.f a0_3 a0_4).bind fun t157 => (if t157 = true then (some (a0_5 == 0 && (a0_6 == 0 && (a0_7 == 0)))) else (some false))) else (some false)) else (some false)))) = some r := by rw [if_pos rfl] at H; exact H
    clear H
    have H := H1
    clear H1
    by_cases c10 : a0_1 = 1
    ·rw [if_pos c10] at H
     have c10b0 : (a0_1 == 1) = true := beq_iff_eq.mpr c10
     have c10b1 : (a0_1 != 1) = false := bne_eq_false_iff_eq.mpr c10
     clear c10
     replace H := Option.bind_eq_some_iff.mp H
     obtain ⟨t154, A110, H⟩ := H
     replace H : (if t154 = true then (some (a0_2.toList == ([] : List UInt8) && ((a0_3 == 0 && (a0_4 == 0)) && (a0_5 == 0 && (a0_6 == 0))))) else (some false)) = some r := H
     have A11 := am A110
     clear A110
     by_cases c12 : t154 = true
     ·subst c12
      have H1 : (some (a0_2.toList == ([] : List UInt8) && ((a0_3 == 0 && (a0_4 == 0)) && (a0_5 == 0 && (a0_6 == 0))))) = some r := by rw [if_pos rfl] at H; exact H
      clear H
      have H := H1
      clear H1
      obtain rfl := Option.some.inj H
      obtain ⟨hcz13_0, hcz13_1, hcz13_2, hcz13_3, hcz13_4, hcz13_5, hcz13_6, hcz13_7, hfz13_0, hfz13_1, hfz13_2, hfz13_3, hfz13_4, hfz13_5, hfz13_6, hfz13_7⟩ := cf8 BK151.out
      go_wp2_with (first | ((with_reducible refine gate_callee (f := 51) rfl ?_); refine goesL_ (some 16) rfl rfl Try.func51 (by kernel_rfl) rfl #[.string a0_0] rfl u7_1 ?_; (with_reducible refine (spec_IsName.calls kj1 a0_0 true _ A8.out).mono ?_); rintro e w' ⟨rfl, ⟨nd, rfl⟩⟩; refine ⟨_, rfl, ?_⟩) | ((with_reducible refine gate_callee (f := 52) rfl ?_); refine goesL_ (some 24) rfl rfl Try.func52 (by kernel_rfl) rfl #[.int .i64 a0_7] rfl u7_1 ?_; (with_reducible refine (spec_l5Supply.calls a0_7 true _ A11.out).mono ?_); rintro e w' ⟨rfl, ⟨nd, rfl⟩⟩; refine ⟨_, rfl, ?_⟩))
      go_ret
      exact ⟨by first | rfl | (simp [*] <;> rfl), s7_0⟩
     ·replace c12 := Bool.eq_false_iff.mpr c12
      subst c12
      have H1 : (some false) = some r := by rw [if_neg (show ¬ (false = true) by decide)] at H; exact H
      clear H
      have H := H1
      clear H1
      obtain rfl := Option.some.inj H
      obtain ⟨hcz14_0, hcz14_1, hcz14_2, hcz14_3, hcz14_4, hcz14_5, hcz14_6, hcz14_7, hfz14_0, hfz14_1, hfz14_2, hfz14_3, hfz14_4, hfz14_5, hfz14_6, hfz14_7⟩ := cf8 BK151.out
      go_wp2_with (first | ((with_reducible refine gate_callee (f := 51) rfl ?_); refine goesL_ (some 16) rfl rfl Try.func51 (by kernel_rfl) rfl #[.string a0_0] rfl u7_1 ?_; (with_reducible refine (spec_IsName.calls kj1 a0_0 true _ A8.out).mono ?_); rintro e w' ⟨rfl, ⟨nd, rfl⟩⟩; refine ⟨_, rfl, ?_⟩) | ((with_reducible refine gate_callee (f := 52) rfl ?_); refine goesL_ (some 24) rfl rfl Try.func52 (by kernel_rfl) rfl #[.int .i64 a0_7] rfl u7_1 ?_; (with_reducible refine (spec_l5Supply.calls a0_7 false _ A11.out).mono ?_); rintro e w' ⟨rfl, ⟨nd, rfl⟩⟩; refine ⟨_, rfl, ?_⟩))
      go_ret
      exact ⟨by first | rfl | (simp [*] <;> rfl), s7_0⟩
    ·rw [if_neg c10] at H
     have c10b0 : (a0_1 == 1) = false := beq_eq_false_iff_ne.mpr c10
     have c10b1 : (a0_1 != 1) = true := bne_iff_ne.mpr c10
     by_cases c15 : a0_1 = 2
     ·rw [if_pos c15] at H
      have c15b0 : (a0_1 == 2) = true := beq_iff_eq.mpr c15
      have c15b1 : (a0_1 != 2) = false := bne_eq_false_iff_eq.mpr c15
      clear c15
      by_cases c16 : x3_1 = true
      ·subst c16
       have H1 : ((spec_l6Jet.f a0_0 a0_1 a0_2 a0_3 a0_4 a0_5 a0_6 a0_7).bind fun t155 => (if t155 = true then ((spec_l1In.f a0_7 0 32).bind fun t156 => (some t156)) else (some false))) = some r := by rw [if_pos rfl] at H; exact H
       clear H
       have H := H1
       clear H1
       replace H := Option.bind_eq_some_iff.mp H
       obtain ⟨t155, A170, H⟩ := H
       replace H : (if t155 = true then ((spec_l1In.f a0_7 0 32).bind fun t156 => (some t156)) else (some false)) = some r := H
       have A17 := am A170
       clear A170
       by_cases c18 : t155 = true
       ·subst c18
        have H1 : ((spec_l1In.f a0_7 0 32).bind fun t156 => (some t156)) = some r := by rw [if_pos rfl] at H; exact H
        clear H
        have H := H1
        clear H1
        replace H := Option.bind_eq_some_iff.mp H
        obtain ⟨t156, A190, H⟩ := H
        replace H : (some t156) = some r := H
        have A19 := am A190
        clear A190
        obtain rfl := Option.some.inj H
        obtain ⟨hcz20_0, hcz20_1, hcz20_2, hcz20_3, hcz20_4, hcz20_5, hcz20_6, hcz20_7, hfz20_0, hfz20_1, hfz20_2, hfz20_3, hfz20_4, hfz20_5, hfz20_6, hfz20_7⟩ := cf8 BK151.out
        go_wp2_with (first | ((with_reducible refine gate_callee (f := 51) rfl ?_); refine goesL_ (some 16) rfl rfl Try.func51 (by kernel_rfl) rfl #[.string a0_0] rfl u7_1 ?_; (with_reducible refine (spec_IsName.calls kj1 a0_0 true _ A8.out).mono ?_); rintro e w' ⟨rfl, ⟨nd, rfl⟩⟩; refine ⟨_, rfl, ?_⟩) | (go_at_call 53; (with_reducible refine (spec_l6Jet.calls a0_0 a0_1 a0_2 a0_3 a0_4 a0_5 a0_6 a0_7 true _ A17.out).mono ?_); rintro e w21 ⟨rfl, hb⟩; have n0_ := am (blk_below (g := gb151) (o := zo0 a0_0 a0_1 a0_2 a0_3 a0_4 a0_5 a0_6 a0_7) u7_5 hb); have n1_ := am (below_step u7_3 hb); clear BK151 HB; have BK151 := n0_; have HB := n1_; clear n0_ n1_; (try clear hb); (try clear hb2); (try clear hk); (try clear hi); obtain ⟨hcz22_0, hcz22_1, hcz22_2, hcz22_3, hcz22_4, hcz22_5, hcz22_6, hcz22_7, hfz22_0, hfz22_1, hfz22_2, hfz22_3, hfz22_4, hfz22_5, hfz22_6, hfz22_7⟩ := cf8 BK151.out) | (go_at_call 54; (with_reducible refine (spec_l1In.calls a0_7 0 32 t156 _ A19.out).mono ?_); rintro e w' ⟨rfl, ⟨nd, rfl⟩⟩))
        go_ret
        exact ⟨by first | rfl | (simp [*] <;> rfl), s7_0⟩
       ·replace c18 := Bool.eq_false_iff.mpr c18
        subst c18
        have H1 : (some false) = some r := by rw [if_neg (show ¬ (false = true) by decide)] at H; exact H
        clear H
        have H := H1
        clear H1
        obtain rfl := Option.some.inj H
        obtain ⟨hcz23_0, hcz23_1, hcz23_2, hcz23_3, hcz23_4, hcz23_5, hcz23_6, hcz23_7, hfz23_0, hfz23_1, hfz23_2, hfz23_3, hfz23_4, hfz23_5, hfz23_6, hfz23_7⟩ := cf8 BK151.out
        go_wp2_with (first | ((with_reducible refine gate_callee (f := 51) rfl ?_); refine goesL_ (some 16) rfl rfl Try.func51 (by kernel_rfl) rfl #[.string a0_0] rfl u7_1 ?_; (with_reducible refine (spec_IsName.calls kj1 a0_0 true _ A8.out).mono ?_); rintro e w' ⟨rfl, ⟨nd, rfl⟩⟩; refine ⟨_, rfl, ?_⟩) | (go_at_call 53; (with_reducible refine (spec_l6Jet.calls a0_0 a0_1 a0_2 a0_3 a0_4 a0_5 a0_6 a0_7 false _ A17.out).mono ?_); rintro e w24 ⟨rfl, hb⟩; have n0_ := am (blk_below (g := gb151) (o := zo0 a0_0 a0_1 a0_2 a0_3 a0_4 a0_5 a0_6 a0_7) u7_5 hb); have n1_ := am (below_step u7_3 hb); clear BK151 HB; have BK151 := n0_; have HB := n1_; clear n0_ n1_; (try clear hb); (try clear hb2); (try clear hk); (try clear hi)))
        go_ret
        exact ⟨by first | rfl | (simp [*] <;> rfl), s7_0⟩
      ·replace c16 := Bool.eq_false_iff.mpr c16
       subst c16
       have H1 : (some false) = some r := by rw [if_neg (show ¬ (false = true) by decide)] at H; exact H
       clear H
       have H := H1
       clear H1
       obtain rfl := Option.some.inj H
       obtain ⟨hcz25_0, hcz25_1, hcz25_2, hcz25_3, hcz25_4, hcz25_5, hcz25_6, hcz25_7, hfz25_0, hfz25_1, hfz25_2, hfz25_3, hfz25_4, hfz25_5, hfz25_6, hfz25_7⟩ := cf8 BK151.out
       go_wp2_with (first | ((with_reducible refine gate_callee (f := 51) rfl ?_); refine goesL_ (some 16) rfl rfl Try.func51 (by kernel_rfl) rfl #[.string a0_0] rfl u7_1 ?_; (with_reducible refine (spec_IsName.calls kj1 a0_0 true _ A8.out).mono ?_); rintro e w' ⟨rfl, ⟨nd, rfl⟩⟩; refine ⟨_, rfl, ?_⟩))
       go_ret
       exact ⟨by first | rfl | (simp [*] <;> rfl), s7_0⟩
     ·rw [if_neg c15] at H
      have c15b0 : (a0_1 == 2) = false := beq_eq_false_iff_ne.mpr c15
      have c15b1 : (a0_1 != 2) = true := bne_iff_ne.mpr c15
      by_cases c26 : a0_1 = 3
      ·rw [if_pos c26] at H
       have c26b0 : (a0_1 == 3) = true := beq_iff_eq.mpr c26
       have c26b1 : (a0_1 != 3) = false := bne_eq_false_iff_eq.mpr c26
       clear c26
       by_cases c27 : x3_1 = true
       ·subst c27
        have H1 : ((spec_IsPlace.f a0_3 a0_4).bind fun t157 => (if t157 = true then (some (a0_5 == 0 && (a0_6 == 0 && (a0_7 == 0)))) else (some false))) = some r := by rw [if_pos rfl] at H; exact H
        clear H
        have H := H1
        clear H1
        replace H := Option.bind_eq_some_iff.mp H
        obtain ⟨t157, A280, H⟩ := H
        replace H : (if t157 = true then (some (a0_5 == 0 && (a0_6 == 0 && (a0_7 == 0)))) else (some false)) = some r := H
        have A28 := am A280
        clear A280
        by_cases c29 : t157 = true
        ·subst c29
         have H1 : (some (a0_5 == 0 && (a0_6 == 0 && (a0_7 == 0)))) = some r := by rw [if_pos rfl] at H; exact H
         clear H
         have H := H1
         clear H1
         obtain rfl := Option.some.inj H
         obtain ⟨hcz30_0, hcz30_1, hcz30_2, hcz30_3, hcz30_4, hcz30_5, hcz30_6, hcz30_7, hfz30_0, hfz30_1, hfz30_2, hfz30_3, hfz30_4, hfz30_5, hfz30_6, hfz30_7⟩ := cf8 BK151.out
         go_wp2_with (first | ((with_reducible refine gate_callee (f := 51) rfl ?_); refine goesL_ (some 16) rfl rfl Try.func51 (by kernel_rfl) rfl #[.string a0_0] rfl u7_1 ?_; (with_reducible refine (spec_IsName.calls kj1 a0_0 true _ A8.out).mono ?_); rintro e w' ⟨rfl, ⟨nd, rfl⟩⟩; refine ⟨_, rfl, ?_⟩) | (go_at_call 55; (with_reducible refine (spec_IsPlace.calls a0_3 a0_4 true _ A28.out).mono ?_); rintro e w31 ⟨rfl, hb⟩; have n0_ := am (blk_below (g := gb151) (o := zo0 a0_0 a0_1 a0_2 a0_3 a0_4 a0_5 a0_6 a0_7) u7_5 hb); have n1_ := am (below_step u7_3 hb); clear BK151 HB; have BK151 := n0_; have HB := n1_; clear n0_ n1_; (try clear hb); (try clear hb2); (try clear hk); (try clear hi); obtain ⟨hcz32_0, hcz32_1, hcz32_2, hcz32_3, hcz32_4, hcz32_5, hcz32_6, hcz32_7, hfz32_0, hfz32_1, hfz32_2, hfz32_3, hfz32_4, hfz32_5, hfz32_6, hfz32_7⟩ := cf8 BK151.out))
         go_ret
         exact ⟨by first | rfl | (simp [*] <;> rfl), s7_0⟩
        ·replace c29 := Bool.eq_false_iff.mpr c29
         subst c29
         have H1 : (some false) = some r := by rw [if_neg (show ¬ (false = true) by decide)] at H; exact H
         clear H
         have H := H1
         clear H1
         obtain rfl := Option.some.inj H
         obtain ⟨hcz33_0, hcz33_1, hcz33_2, hcz33_3, hcz33_4, hcz33_5, hcz33_6, hcz33_7, hfz33_0, hfz33_1, hfz33_2, hfz33_3, hfz33_4, hfz33_5, hfz33_6, hfz33_7⟩ := cf8 BK151.out
         go_wp2_with (first | ((with_reducible refine gate_callee (f := 51) rfl ?_); refine goesL_ (some 16) rfl rfl Try.func51 (by kernel_rfl) rfl #[.string a0_0] rfl u7_1 ?_; (with_reducible refine (spec_IsName.calls kj1 a0_0 true _ A8.out).mono ?_); rintro e w' ⟨rfl, ⟨nd, rfl⟩⟩; refine ⟨_, rfl, ?_⟩) | (go_at_call 55; (with_reducible refine (spec_IsPlace.calls a0_3 a0_4 false _ A28.out).mono ?_); rintro e w34 ⟨rfl, hb⟩; have n0_ := am (blk_below (g := gb151) (o := zo0 a0_0 a0_1 a0_2 a0_3 a0_4 a0_5 a0_6 a0_7) u7_5 hb); have n1_ := am (below_step u7_3 hb); clear BK151 HB; have BK151 := n0_; have HB := n1_; clear n0_ n1_; (try clear hb); (try clear hb2); (try clear hk); (try clear hi)))
         go_ret
         exact ⟨by first | rfl | (simp [*] <;> rfl), s7_0⟩
       ·replace c27 := Bool.eq_false_iff.mpr c27
        subst c27
        have H1 : (some false) = some r := by rw [if_neg (show ¬ (false = true) by decide)] at H; exact H
        clear H
        have H := H1
        clear H1
        obtain rfl := Option.some.inj H
        obtain ⟨hcz35_0, hcz35_1, hcz35_2, hcz35_3, hcz35_4, hcz35_5, hcz35_6, hcz35_7, hfz35_0, hfz35_1, hfz35_2, hfz35_3, hfz35_4, hfz35_5, hfz35_6, hfz35_7⟩ := cf8 BK151.out
        go_wp2_with (first | ((with_reducible refine gate_callee (f := 51) rfl ?_); refine goesL_ (some 16) rfl rfl Try.func51 (by kernel_rfl) rfl #[.string a0_0] rfl u7_1 ?_; (with_reducible refine (spec_IsName.calls kj1 a0_0 true _ A8.out).mono ?_); rintro e w' ⟨rfl, ⟨nd, rfl⟩⟩; refine ⟨_, rfl, ?_⟩))
        go_ret
        exact ⟨by first | rfl | (simp [*] <;> rfl), s7_0⟩
      ·rw [if_neg c26] at H
       have c26b0 : (a0_1 == 3) = false := beq_eq_false_iff_ne.mpr c26
       have c26b1 : (a0_1 != 3) = true := bne_iff_ne.mpr c26
       obtain rfl := Option.some.inj H
       obtain ⟨hcz36_0, hcz36_1, hcz36_2, hcz36_3, hcz36_4, hcz36_5, hcz36_6, hcz36_7, hfz36_0, hfz36_1, hfz36_2, hfz36_3, hfz36_4, hfz36_5, hfz36_6, hfz36_7⟩ := cf8 BK151.out
       go_wp2_with (first | ((with_reducible refine gate_callee (f := 51) rfl ?_); refine goesL_ (some 16) rfl rfl Try.func51 (by kernel_rfl) rfl #[.string a0_0] rfl u7_1 ?_; (with_reducible refine (spec_IsName.calls kj1 a0_0 true _ A8.out).mono ?_); rintro e w' ⟨rfl, ⟨nd, rfl⟩⟩; refine ⟨_, rfl, ?_⟩))
       go_ret
       exact ⟨by first | rfl | (simp [*] <;> rfl), s7_0⟩
   ·replace c9 := Bool.eq_false_iff.mpr c9
    subst c9
    have H1 : (some false) = some r := by rw [if_neg (show ¬ (false = true) by decide)] at H; exact H
    clear H
    have H := H1
    clear H1
    obtain rfl := Option.some.inj H
    obtain ⟨hcz37_0, hcz37_1, hcz37_2, hcz37_3, hcz37_4, hcz37_5, hcz37_6, hcz37_7, hfz37_0, hfz37_1, hfz37_2, hfz37_3, hfz37_4, hfz37_5, hfz37_6, hfz37_7⟩ := cf8 BK151.out
    go_wp2_with (first | ((with_reducible refine gate_callee (f := 51) rfl ?_); refine goesL_ (some 16) rfl rfl Try.func51 (by kernel_rfl) rfl #[.string a0_0] rfl u7_1 ?_; (with_reducible refine (spec_IsName.calls kj1 a0_0 false _ A8.out).mono ?_); rintro e w' ⟨rfl, ⟨nd, rfl⟩⟩; refine ⟨_, rfl, ?_⟩))
    go_ret
    exact ⟨by first | rfl | (simp [*] <;> rfl), s7_0⟩

/-! ### spec_FindDevice: function 20 -/
def spec_FindDevice.l0 : Nat → ByteArray → List (S30) → Int → Int → Option (Int)
 | 0, _, _, _, _ => none
 | k + 1, x1, x7, x8, x9 => if x9 < x8 then (if 0 ≤ x9 then (if x9 < (x7.length : Int) then (if ((rd_T30 x7 x9).f0).toList = x1.toList then (some x9) else (spec_FindDevice.l0 k x1 x7 x8 (wrap64 (x9 + 1)))) else (none)) else (none)) else (some (-1))
def spec_FindDevice.f (k : Nat) (l0 : List (S30)) (a1 : ByteArray) : Option (Int) := spec_FindDevice.l0 k a1 l0 (l0.length : Int) 0
theorem spec_FindDevice.mono_l : ∀ k, (∀ y0 y1 y2 y3, LeO (spec_FindDevice.l0 k y0 y1 y2 y3) (spec_FindDevice.l0 (k + 1) y0 y1 y2 y3))
 | 0 => fun _ _ _ _ r h => by simp [spec_FindDevice.l0] at h
 | k + 1 => by
  have ih0 := spec_FindDevice.mono_l k
  ·intro y0 y1 y2 y3
   unfold spec_FindDevice.l0
   repeat' first
   | (with_reducible exact ih0 _ _ _ _)
   | (with_reducible exact LeO.refl _)
   | (with_reducible exact LeO.none _)
   | (with_reducible refine LeO.ite ?_ ?_)
   | (with_reducible refine LeO.bind ?_ (fun _ => ?_))
theorem spec_FindDevice.mono : ∀ a0 a1 k, LeO (spec_FindDevice.f k a0 a1) (spec_FindDevice.f (k + 1) a0 a1) := by
 intro a0 a1 k
 have ih0 := spec_FindDevice.mono_l k
 unfold spec_FindDevice.f
 repeat' first
   | (with_reducible exact ih0 _ _ _ _)
   | (with_reducible exact LeO.refl _)
   | (with_reducible exact LeO.none _)
   | (with_reducible refine LeO.ite ?_ ?_)
   | (with_reducible refine LeO.bind ?_ (fun _ => ?_))
set_option maxHeartbeats 8000000 in
set_option maxRecDepth 100000 in
theorem spec_FindDevice.calls (k : Nat) (A0 : Option Addr) (c0 : Nat) (l0 : List (S30)) (a1 : ByteArray) (r : Int) (w : World) (hr0 : Kd.C k30 w A0 l0.length l0) (hc0 : l0.length ≤ c0) (h : spec_FindDevice.f k l0 a1 = some r) :
  Calls Try.prog 20 #[.slice A0 l0.length c0, .string a1] w fun e w' => e = .returned (.int .i64 r) ∧ Below w.heap.size w w' := by
 have hu30 := Try.underlying30
 have HR0 := am hr0
 have HC0 := am hc0
 clear hr0 hc0
 have HB := am (Below.refl w.heap.size w)
 have H : (spec_FindDevice.l0 k a1 l0 (l0.length : Int) 0) = some r := h
 clear h
 have H' := am H
 clear H
 go_enter Try.func20, Try.ntmps20
 go_wp2
 go_loopg [9] k (fun kq v9 w' => ∃ (x9_1 : Int), v9 = .int .i64 x9_1 ∧ Aside0 (spec_FindDevice.l0 kq a1 l0 (l0.length : Int) x9_1 = some r) ∧ Aside0 (kq ≤ k) ∧ Aside0 (Below w.heap.size w w'))
 case atStart => exact ⟨(0), (by first | rfl | (simp; done) | (simp [*]; done)), H', ⟨Nat.le_refl _⟩, ⟨s7_3⟩⟩
 case round =>
  clear H'
  try clear c2
  try clear p2
  obtain ⟨x9_1, rfl, HA, HK1, HB⟩ := hrel
  cases gk with
  | zero => exact absurd HA.out (by simp [spec_FindDevice.l0])
  | succ k1 =>
   have H := HA.out
   clear HA
   simp only [spec_FindDevice.l0] at H
   by_cases c3 : x9_1 < (l0.length : Int)
   ·rw [if_pos c3] at H
    have c3b0 : decide (x9_1 < (l0.length : Int)) = true := decide_eq_true c3
    clear c3
    by_cases c4 : 0 ≤ x9_1
    ·rw [if_pos c4] at H
     have c4b0 : decide (0 ≤ x9_1) = true := decide_eq_true c4
     clear c4
     by_cases c5 : x9_1 < (l0.length : Int)
     ·rw [if_pos c5] at H
      have c5b0 : decide (x9_1 < (l0.length : Int)) = true := decide_eq_true c5
      clear c5
      by_cases c6 : ((rd_T30 l0 x9_1).f0).toList = a1.toList
      ·rw [if_pos c6] at H
       have c6b0 : (((rd_T30 l0 x9_1).f0).toList == a1.toList) = true := beq_iff_eq.mpr c6
       have c6b1 : (((rd_T30 l0 x9_1).f0).toList != a1.toList) = false := bne_eq_false_iff_eq.mpr c6
       clear c6
       obtain rfl := Option.some.inj H
       have p158 : 0 ≤ (x9_1 : Int) := od (by assumption)
       have q158 : x9_1 < (l0.length : Int) := od (by assumption)
       obtain ⟨ad158, e158, hx158_0, hx158_1, hx158_2, hx158_3, hx158_4, hx158_5, hx158_6, hx158_7⟩ := at_T30 (Kd.C_below HR0.out HB.out) x9_1 p158 q158
       cases e158
       replace p158 := eq_true p158
       replace q158 := eq_true q158
       go_wp2_with (first | ((with_reducible refine gate_dst (N := 6) rfl ?_); refine box_event ?hg (N := 6) ?hd (cs := #[.string (⟨#[]⟩ : ByteArray), .int .i64 0, .string (⟨#[]⟩ : ByteArray), .int .i64 0, .int .i64 0, .int .i64 0, .int .i64 0, .int .i64 0]) (t := 30) ?hr ?_; (case hd => rfl); (case hg => rfl); (case hr => exact gq); intro gb159 hg w7 hbox hb; have n0_ := am (below_step u7_0 hb); have n1_ := am (hbox); have n2_ := bsw w hg (below_size u7_0); have n3_ := bsw w hg (below_size u7_0); clear HB; have HB := n0_; have BK159 := n1_; have GW159 := n2_; have GE159 := n3_; clear n0_ n1_ n2_ n3_ hb hbox hg; obtain ⟨hcz8_0, hcz8_1, hcz8_2, hcz8_3, hcz8_4, hcz8_5, hcz8_6, hcz8_7, hfz8_0, hfz8_1, hfz8_2, hfz8_3, hfz8_4, hfz8_5, hfz8_6, hfz8_7⟩ := cf8 BK159.out))
       go_ret
       exact ⟨by first | rfl | (simp [*] <;> rfl), s7_1⟩
      ·rw [if_neg c6] at H
       have c6b0 : (((rd_T30 l0 x9_1).f0).toList == a1.toList) = false := beq_eq_false_iff_ne.mpr c6
       have c6b1 : (((rd_T30 l0 x9_1).f0).toList != a1.toList) = true := bne_iff_ne.mpr c6
       have H' := am H
       clear H
       have p158 : 0 ≤ (x9_1 : Int) := od (by assumption)
       have q158 : x9_1 < (l0.length : Int) := od (by assumption)
       obtain ⟨ad158, e158, hx158_0, hx158_1, hx158_2, hx158_3, hx158_4, hx158_5, hx158_6, hx158_7⟩ := at_T30 (Kd.C_below HR0.out HB.out) x9_1 p158 q158
       cases e158
       replace p158 := eq_true p158
       replace q158 := eq_true q158
       go_wp2_with (first | ((with_reducible refine gate_dst (N := 6) rfl ?_); refine box_event ?hg (N := 6) ?hd (cs := #[.string (⟨#[]⟩ : ByteArray), .int .i64 0, .string (⟨#[]⟩ : ByteArray), .int .i64 0, .int .i64 0, .int .i64 0, .int .i64 0, .int .i64 0]) (t := 30) ?hr ?_; (case hd => rfl); (case hg => rfl); (case hr => exact gq); intro gb159 hg w9 hbox hb; have n0_ := am (below_step u7_0 hb); have n1_ := am (hbox); have n2_ := bsw w hg (below_size u7_0); have n3_ := bsw w hg (below_size u7_0); clear HB; have HB := n0_; have BK159 := n1_; have GW159 := n2_; have GE159 := n3_; clear n0_ n1_ n2_ n3_ hb hbox hg; obtain ⟨hcz10_0, hcz10_1, hcz10_2, hcz10_3, hcz10_4, hcz10_5, hcz10_6, hcz10_7, hfz10_0, hfz10_1, hfz10_2, hfz10_3, hfz10_4, hfz10_5, hfz10_6, hfz10_7⟩ := cf8 BK159.out))
       go_roundg k1
       case measure => have := HK1.out; omega
       case rel => exact ⟨(wrap64 (x9_1 + 1)), (by first | rfl | (simp; done) | (simp [*]; done)), H', ⟨by have := HK1.out; omega⟩, ⟨s7_1⟩⟩
     ·rw [if_neg c5] at H
      exact absurd H (by simp)
    ·rw [if_neg c4] at H
     exact absurd H (by simp)
   ·rw [if_neg c3] at H
    have c3b0 : decide (x9_1 < (l0.length : Int)) = false := decide_eq_false c3
    clear c3
    obtain rfl := Option.some.inj H
    go_wp2
    go_ret
    exact ⟨by first | rfl | (simp [*] <;> rfl), s7_3⟩

/-! ### spec_l6Hangs: function 64 -/
def spec_l6Hangs.f (k : Nat) (l0 : List (S30)) (a1_0 : ByteArray) (a1_1 : Int) (a1_2 : ByteArray) (a1_3 : Int) (a1_4 : Int) (a1_5 : Int) (a1_6 : Int) (a1_7 : Int) : Option (Bool) := (spec_FindDevice.f k l0 a1_2).bind fun t161 => (if a1_1 = 2 then (if t161 ≥ 0 then (if 0 ≤ t161 then (if t161 < (l0.length : Int) then (some (((rd_T30 l0 t161).f1) == 1)) else (none)) else (none)) else (some false)) else (if a1_1 = 3 then (if t161 ≥ 0 then (if 0 ≤ t161 then (if t161 < (l0.length : Int) then (some (((rd_T30 l0 t161).f1) == 2)) else (none)) else (none)) else (some false)) else (some true)))
theorem spec_l6Hangs.mono : ∀ a0 a1 a2 a3 a4 a5 a6 a7 a8 k, LeO (spec_l6Hangs.f k a0 a1 a2 a3 a4 a5 a6 a7 a8) (spec_l6Hangs.f (k + 1) a0 a1 a2 a3 a4 a5 a6 a7 a8) := by
 intro a0 a1 a2 a3 a4 a5 a6 a7 a8 k
 unfold spec_l6Hangs.f
 repeat' first
   | (with_reducible exact spec_FindDevice.mono _ _ _)
   | (with_reducible exact LeO.refl _)
   | (with_reducible exact LeO.none _)
   | (with_reducible refine LeO.ite ?_ ?_)
   | (with_reducible refine LeO.bind ?_ (fun _ => ?_))
set_option maxHeartbeats 8000000 in
set_option maxRecDepth 100000 in
theorem spec_l6Hangs.calls (k : Nat) (A0 : Option Addr) (c0 : Nat) (l0 : List (S30)) (a1_0 : ByteArray) (a1_1 : Int) (a1_2 : ByteArray) (a1_3 : Int) (a1_4 : Int) (a1_5 : Int) (a1_6 : Int) (a1_7 : Int) (r : Bool) (w : World) (hr0 : Kd.C k30 w A0 l0.length l0) (hc0 : l0.length ≤ c0) (h : spec_l6Hangs.f k l0 a1_0 a1_1 a1_2 a1_3 a1_4 a1_5 a1_6 a1_7 = some r) :
  Calls Try.prog 64 #[.slice A0 l0.length c0, .agg #[.string a1_0, .int .i64 a1_1, .string a1_2, .int .i64 a1_3, .int .i64 a1_4, .int .i64 a1_5, .int .i64 a1_6, .int .i64 a1_7]] w fun e w' => e = .returned (.bool r) ∧ Below w.heap.size w w' := by
 have hu30 := Try.underlying30
 have HR0 := am hr0
 have HC0 := am hc0
 clear hr0 hc0
 have HB := am (Below.refl w.heap.size w)
 have H : ((spec_FindDevice.f k l0 a1_2).bind fun t161 => (if a1_1 = 2 then (if t161 ≥ 0 then (if 0 ≤ t161 then (if t161 < (l0.length : Int) then (some (((rd_T30 l0 t161).f1) == 1)) else (none)) else (none)) else (some false)) else (if a1_1 = 3 then (if t161 ≥ 0 then (if 0 ≤ t161 then (if t161 < (l0.length : Int) then (some (((rd_T30 l0 t161).f1) == 2)) else (none)) else (none)) else (some false)) else (some true)))) = some r := h
 clear h
 replace H := Option.bind_eq_some_iff.mp H
 obtain ⟨t161, A30, H⟩ := H
 replace H : (if a1_1 = 2 then (if t161 ≥ 0 then (if 0 ≤ t161 then (if t161 < (l0.length : Int) then (some (((rd_T30 l0 t161).f1) == 1)) else (none)) else (none)) else (some false)) else (if a1_1 = 3 then (if t161 ≥ 0 then (if 0 ≤ t161 then (if t161 < (l0.length : Int) then (some (((rd_T30 l0 t161).f1) == 2)) else (none)) else (none)) else (some false)) else (some true))) = some r := H
 have A3 := am A30
 clear A30
 by_cases c4 : a1_1 = 2
 ·rw [if_pos c4] at H
  have c4b0 : (a1_1 == 2) = true := beq_iff_eq.mpr c4
  have c4b1 : (a1_1 != 2) = false := bne_eq_false_iff_eq.mpr c4
  clear c4
  by_cases c5 : t161 ≥ 0
  ·rw [if_pos c5] at H
   have c5b0 : decide (0 ≤ t161) = true := decide_eq_true c5
   clear c5
   by_cases c6 : 0 ≤ t161
   ·rw [if_pos c6] at H
    have c6b0 : decide (0 ≤ t161) = true := decide_eq_true c6
    clear c6
    by_cases c7 : t161 < (l0.length : Int)
    ·rw [if_pos c7] at H
     have c7b0 : decide (t161 < (l0.length : Int)) = true := decide_eq_true c7
     clear c7
     obtain rfl := Option.some.inj H
     go_enter Try.func64, Try.ntmps64
     go_wp2_with (first | ((with_reducible refine gate_dst (N := 3) rfl ?_); refine box_event ?hg (N := 3) ?hd (cs := #[.string a1_0, .int .i64 a1_1, .string a1_2, .int .i64 a1_3, .int .i64 a1_4, .int .i64 a1_5, .int .i64 a1_6, .int .i64 a1_7]) (t := 30) ?hr ?_; (case hd => rfl); (case hg => rfl); (case hr => exact gq); intro gb160 hg w8 hbox hb; have n0_ := am (below_step u7_0 hb); have n1_ := am (hbox); have n2_ := bsw w hg (below_size u7_0); have n3_ := bsw w hg (below_size u7_0); clear HB; have HB := n0_; have BK160 := n1_; have GW160 := n2_; have GE160 := n3_; clear n0_ n1_ n2_ n3_ hb hbox hg; obtain ⟨hcz9_0, hcz9_1, hcz9_2, hcz9_3, hcz9_4, hcz9_5, hcz9_6, hcz9_7, hfz9_0, hfz9_1, hfz9_2, hfz9_3, hfz9_4, hfz9_5, hfz9_6, hfz9_7⟩ := cf8 BK160.out) | ((with_reducible refine gate_callee (f := 20) rfl ?_); refine goesL_ (some 9) rfl rfl Try.func20 (by kernel_rfl) rfl #[.slice A0 l0.length c0, .string a1_2] rfl u7_1 ?_; (with_reducible refine (spec_FindDevice.calls k _ _ l0 a1_2 t161 _ ?side1 ?side2 A3.out).mono ?_); (case side1 => exact y7_0); (case side2 => exact HC0.out); rintro e w10 ⟨rfl, hb⟩; refine ⟨_, rfl, ?_⟩; have n0_ := am (blk_below (g := gb160) (o := zo0 a1_0 a1_1 a1_2 a1_3 a1_4 a1_5 a1_6 a1_7) u7_4 hb); have n1_ := am (below_step u7_2 hb); clear BK160 HB; have BK160 := n0_; have HB := n1_; clear n0_ n1_; (try clear hb); (try clear hb2); (try clear hk); (try clear hi); obtain ⟨hcz11_0, hcz11_1, hcz11_2, hcz11_3, hcz11_4, hcz11_5, hcz11_6, hcz11_7, hfz11_0, hfz11_1, hfz11_2, hfz11_3, hfz11_4, hfz11_5, hfz11_6, hfz11_7⟩ := cf8 BK160.out; have p162 : 0 ≤ (t161 : Int) := od (by assumption); have q162 : t161 < (l0.length : Int) := od (by assumption); obtain ⟨ad162, e162, hx162_0, hx162_1, hx162_2, hx162_3, hx162_4, hx162_5, hx162_6, hx162_7⟩ := at_T30 HR0.out t161 p162 q162; cases e162; replace hx162_0 := bc HB.out hx162_0; replace hx162_1 := bc HB.out hx162_1; replace hx162_2 := bc HB.out hx162_2; replace hx162_3 := bc HB.out hx162_3; replace hx162_4 := bc HB.out hx162_4; replace hx162_5 := bc HB.out hx162_5; replace hx162_6 := bc HB.out hx162_6; replace hx162_7 := bc HB.out hx162_7; replace p162 := eq_true p162; replace q162 := eq_true q162))
     go_ret
     exact ⟨by first | rfl | (simp [*] <;> rfl), s7_2⟩
    ·rw [if_neg c7] at H
     exact absurd H (by simp)
   ·rw [if_neg c6] at H
    exact absurd H (by simp)
  ·rw [if_neg c5] at H
   have c5b0 : decide (0 ≤ t161) = false := decide_eq_false c5
   clear c5
   obtain rfl := Option.some.inj H
   go_enter Try.func64, Try.ntmps64
   go_wp2_with (first | ((with_reducible refine gate_dst (N := 3) rfl ?_); refine box_event ?hg (N := 3) ?hd (cs := #[.string a1_0, .int .i64 a1_1, .string a1_2, .int .i64 a1_3, .int .i64 a1_4, .int .i64 a1_5, .int .i64 a1_6, .int .i64 a1_7]) (t := 30) ?hr ?_; (case hd => rfl); (case hg => rfl); (case hr => exact gq); intro gb160 hg w12 hbox hb; have n0_ := am (below_step u7_0 hb); have n1_ := am (hbox); have n2_ := bsw w hg (below_size u7_0); have n3_ := bsw w hg (below_size u7_0); clear HB; have HB := n0_; have BK160 := n1_; have GW160 := n2_; have GE160 := n3_; clear n0_ n1_ n2_ n3_ hb hbox hg; obtain ⟨hcz13_0, hcz13_1, hcz13_2, hcz13_3, hcz13_4, hcz13_5, hcz13_6, hcz13_7, hfz13_0, hfz13_1, hfz13_2, hfz13_3, hfz13_4, hfz13_5, hfz13_6, hfz13_7⟩ := cf8 BK160.out) | ((with_reducible refine gate_callee (f := 20) rfl ?_); refine goesL_ (some 9) rfl rfl Try.func20 (by kernel_rfl) rfl #[.slice A0 l0.length c0, .string a1_2] rfl u7_1 ?_; (with_reducible refine (spec_FindDevice.calls k _ _ l0 a1_2 t161 _ ?side1 ?side2 A3.out).mono ?_); (case side1 => exact y7_0); (case side2 => exact HC0.out); rintro e w14 ⟨rfl, hb⟩; refine ⟨_, rfl, ?_⟩; have n0_ := am (blk_below (g := gb160) (o := zo0 a1_0 a1_1 a1_2 a1_3 a1_4 a1_5 a1_6 a1_7) u7_4 hb); have n1_ := am (below_step u7_2 hb); clear BK160 HB; have BK160 := n0_; have HB := n1_; clear n0_ n1_; (try clear hb); (try clear hb2); (try clear hk); (try clear hi); obtain ⟨hcz15_0, hcz15_1, hcz15_2, hcz15_3, hcz15_4, hcz15_5, hcz15_6, hcz15_7, hfz15_0, hfz15_1, hfz15_2, hfz15_3, hfz15_4, hfz15_5, hfz15_6, hfz15_7⟩ := cf8 BK160.out))
   go_ret
   exact ⟨by first | rfl | (simp [*] <;> rfl), s7_2⟩
 ·rw [if_neg c4] at H
  have c4b0 : (a1_1 == 2) = false := beq_eq_false_iff_ne.mpr c4
  have c4b1 : (a1_1 != 2) = true := bne_iff_ne.mpr c4
  by_cases c16 : a1_1 = 3
  ·rw [if_pos c16] at H
   have c16b0 : (a1_1 == 3) = true := beq_iff_eq.mpr c16
   have c16b1 : (a1_1 != 3) = false := bne_eq_false_iff_eq.mpr c16
   clear c16
   by_cases c17 : t161 ≥ 0
   ·rw [if_pos c17] at H
    have c17b0 : decide (0 ≤ t161) = true := decide_eq_true c17
    clear c17
    by_cases c18 : 0 ≤ t161
    ·rw [if_pos c18] at H
     have c18b0 : decide (0 ≤ t161) = true := decide_eq_true c18
     clear c18
     by_cases c19 : t161 < (l0.length : Int)
     ·rw [if_pos c19] at H
      have c19b0 : decide (t161 < (l0.length : Int)) = true := decide_eq_true c19
      clear c19
      obtain rfl := Option.some.inj H
      go_enter Try.func64, Try.ntmps64
      go_wp2_with (first | ((with_reducible refine gate_dst (N := 3) rfl ?_); refine box_event ?hg (N := 3) ?hd (cs := #[.string a1_0, .int .i64 a1_1, .string a1_2, .int .i64 a1_3, .int .i64 a1_4, .int .i64 a1_5, .int .i64 a1_6, .int .i64 a1_7]) (t := 30) ?hr ?_; (case hd => rfl); (case hg => rfl); (case hr => exact gq); intro gb160 hg w20 hbox hb; have n0_ := am (below_step u7_0 hb); have n1_ := am (hbox); have n2_ := bsw w hg (below_size u7_0); have n3_ := bsw w hg (below_size u7_0); clear HB; have HB := n0_; have BK160 := n1_; have GW160 := n2_; have GE160 := n3_; clear n0_ n1_ n2_ n3_ hb hbox hg; obtain ⟨hcz21_0, hcz21_1, hcz21_2, hcz21_3, hcz21_4, hcz21_5, hcz21_6, hcz21_7, hfz21_0, hfz21_1, hfz21_2, hfz21_3, hfz21_4, hfz21_5, hfz21_6, hfz21_7⟩ := cf8 BK160.out) | ((with_reducible refine gate_callee (f := 20) rfl ?_); refine goesL_ (some 9) rfl rfl Try.func20 (by kernel_rfl) rfl #[.slice A0 l0.length c0, .string a1_2] rfl u7_1 ?_; (with_reducible refine (spec_FindDevice.calls k _ _ l0 a1_2 t161 _ ?side1 ?side2 A3.out).mono ?_); (case side1 => exact y7_0); (case side2 => exact HC0.out); rintro e w22 ⟨rfl, hb⟩; refine ⟨_, rfl, ?_⟩; have n0_ := am (blk_below (g := gb160) (o := zo0 a1_0 a1_1 a1_2 a1_3 a1_4 a1_5 a1_6 a1_7) u7_4 hb); have n1_ := am (below_step u7_2 hb); clear BK160 HB; have BK160 := n0_; have HB := n1_; clear n0_ n1_; (try clear hb); (try clear hb2); (try clear hk); (try clear hi); obtain ⟨hcz23_0, hcz23_1, hcz23_2, hcz23_3, hcz23_4, hcz23_5, hcz23_6, hcz23_7, hfz23_0, hfz23_1, hfz23_2, hfz23_3, hfz23_4, hfz23_5, hfz23_6, hfz23_7⟩ := cf8 BK160.out; have p163 : 0 ≤ (t161 : Int) := od (by assumption); have q163 : t161 < (l0.length : Int) := od (by assumption); obtain ⟨ad163, e163, hx163_0, hx163_1, hx163_2, hx163_3, hx163_4, hx163_5, hx163_6, hx163_7⟩ := at_T30 HR0.out t161 p163 q163; cases e163; replace hx163_0 := bc HB.out hx163_0; replace hx163_1 := bc HB.out hx163_1; replace hx163_2 := bc HB.out hx163_2; replace hx163_3 := bc HB.out hx163_3; replace hx163_4 := bc HB.out hx163_4; replace hx163_5 := bc HB.out hx163_5; replace hx163_6 := bc HB.out hx163_6; replace hx163_7 := bc HB.out hx163_7; replace p163 := eq_true p163; replace q163 := eq_true q163))
      go_ret
      exact ⟨by first | rfl | (simp [*] <;> rfl), s7_2⟩
     ·rw [if_neg c19] at H
      exact absurd H (by simp)
    ·rw [if_neg c18] at H
     exact absurd H (by simp)
   ·rw [if_neg c17] at H
    have c17b0 : decide (0 ≤ t161) = false := decide_eq_false c17
    clear c17
    obtain rfl := Option.some.inj H
    go_enter Try.func64, Try.ntmps64
    go_wp2_with (first | ((with_reducible refine gate_dst (N := 3) rfl ?_); refine box_event ?hg (N := 3) ?hd (cs := #[.string a1_0, .int .i64 a1_1, .string a1_2, .int .i64 a1_3, .int .i64 a1_4, .int .i64 a1_5, .int .i64 a1_6, .int .i64 a1_7]) (t := 30) ?hr ?_; (case hd => rfl); (case hg => rfl); (case hr => exact gq); intro gb160 hg w24 hbox hb; have n0_ := am (below_step u7_0 hb); have n1_ := am (hbox); have n2_ := bsw w hg (below_size u7_0); have n3_ := bsw w hg (below_size u7_0); clear HB; have HB := n0_; have BK160 := n1_; have GW160 := n2_; have GE160 := n3_; clear n0_ n1_ n2_ n3_ hb hbox hg; obtain ⟨hcz25_0, hcz25_1, hcz25_2, hcz25_3, hcz25_4, hcz25_5, hcz25_6, hcz25_7, hfz25_0, hfz25_1, hfz25_2, hfz25_3, hfz25_4, hfz25_5, hfz25_6, hfz25_7⟩ := cf8 BK160.out) | ((with_reducible refine gate_callee (f := 20) rfl ?_); refine goesL_ (some 9) rfl rfl Try.func20 (by kernel_rfl) rfl #[.slice A0 l0.length c0, .string a1_2] rfl u7_1 ?_; (with_reducible refine (spec_FindDevice.calls k _ _ l0 a1_2 t161 _ ?side1 ?side2 A3.out).mono ?_); (case side1 => exact y7_0); (case side2 => exact HC0.out); rintro e w26 ⟨rfl, hb⟩; refine ⟨_, rfl, ?_⟩; have n0_ := am (blk_below (g := gb160) (o := zo0 a1_0 a1_1 a1_2 a1_3 a1_4 a1_5 a1_6 a1_7) u7_4 hb); have n1_ := am (below_step u7_2 hb); clear BK160 HB; have BK160 := n0_; have HB := n1_; clear n0_ n1_; (try clear hb); (try clear hb2); (try clear hk); (try clear hi); obtain ⟨hcz27_0, hcz27_1, hcz27_2, hcz27_3, hcz27_4, hcz27_5, hcz27_6, hcz27_7, hfz27_0, hfz27_1, hfz27_2, hfz27_3, hfz27_4, hfz27_5, hfz27_6, hfz27_7⟩ := cf8 BK160.out))
    go_ret
    exact ⟨by first | rfl | (simp [*] <;> rfl), s7_2⟩
  ·rw [if_neg c16] at H
   have c16b0 : (a1_1 == 3) = false := beq_eq_false_iff_ne.mpr c16
   have c16b1 : (a1_1 != 3) = true := bne_iff_ne.mpr c16
   obtain rfl := Option.some.inj H
   go_enter Try.func64, Try.ntmps64
   go_wp2_with (first | ((with_reducible refine gate_dst (N := 3) rfl ?_); refine box_event ?hg (N := 3) ?hd (cs := #[.string a1_0, .int .i64 a1_1, .string a1_2, .int .i64 a1_3, .int .i64 a1_4, .int .i64 a1_5, .int .i64 a1_6, .int .i64 a1_7]) (t := 30) ?hr ?_; (case hd => rfl); (case hg => rfl); (case hr => exact gq); intro gb160 hg w28 hbox hb; have n0_ := am (below_step u7_0 hb); have n1_ := am (hbox); have n2_ := bsw w hg (below_size u7_0); have n3_ := bsw w hg (below_size u7_0); clear HB; have HB := n0_; have BK160 := n1_; have GW160 := n2_; have GE160 := n3_; clear n0_ n1_ n2_ n3_ hb hbox hg; obtain ⟨hcz29_0, hcz29_1, hcz29_2, hcz29_3, hcz29_4, hcz29_5, hcz29_6, hcz29_7, hfz29_0, hfz29_1, hfz29_2, hfz29_3, hfz29_4, hfz29_5, hfz29_6, hfz29_7⟩ := cf8 BK160.out) | ((with_reducible refine gate_callee (f := 20) rfl ?_); refine goesL_ (some 9) rfl rfl Try.func20 (by kernel_rfl) rfl #[.slice A0 l0.length c0, .string a1_2] rfl u7_1 ?_; (with_reducible refine (spec_FindDevice.calls k _ _ l0 a1_2 t161 _ ?side1 ?side2 A3.out).mono ?_); (case side1 => exact y7_0); (case side2 => exact HC0.out); rintro e w30 ⟨rfl, hb⟩; refine ⟨_, rfl, ?_⟩; have n0_ := am (blk_below (g := gb160) (o := zo0 a1_0 a1_1 a1_2 a1_3 a1_4 a1_5 a1_6 a1_7) u7_4 hb); have n1_ := am (below_step u7_2 hb); clear BK160 HB; have BK160 := n0_; have HB := n1_; clear n0_ n1_; (try clear hb); (try clear hb2); (try clear hk); (try clear hi); obtain ⟨hcz31_0, hcz31_1, hcz31_2, hcz31_3, hcz31_4, hcz31_5, hcz31_6, hcz31_7, hfz31_0, hfz31_1, hfz31_2, hfz31_3, hfz31_4, hfz31_5, hfz31_6, hfz31_7⟩ := cf8 BK160.out))
   go_ret
   exact ⟨by first | rfl | (simp [*] <;> rfl), s7_2⟩

end Go.Proofs.Ytkedcokhcgklpaa.MFnLines
