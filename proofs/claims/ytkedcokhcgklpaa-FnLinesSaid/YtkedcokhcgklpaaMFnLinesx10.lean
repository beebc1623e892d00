-- Written by a program for this claim.
import Derived.Test.YtkedcokhcgklpaaMFnLinesx0
import Derived.Test.YtkedcokhcgklpaaMFnLinesx9
namespace Go.Proofs.Ytkedcokhcgklpaa.MFnLines
open Go.RowKit Go.Proofs.YtkedcokhcgklpaaW.PrintWords Go.Proofs.YtkedcokhcgklpaaW.PrintLast Go.Proofs.YtkedcokhcgklpaaW.PrintMore
attribute [local go_sem] max2_int min2_int max_two min_two max_three min_three max_four min_four   -- for this text's walks alone
set_option linter.unusedVariables false
set_option linter.unusedSimpArgs false

theorem s10_0 {p : Prop} (h : p := by repeat (first | (with_reducible first | exact HI0.out | apply IsS95.alloc | apply IsS95.drewN | apply IsS95.drew | apply IsS95.set_1 | apply IsS95.set_2 | refine IsS95.far ?_ NB0_241.out _ | refine IsS95.far ?_ NB0_249.out _) | exact HI0.out)) : p := h
theorem s10_1 {p : Prop} (h : p := by repeat (first | (with_reducible first | exact HB.out | apply below_alloc | apply pw_below_drewN | apply below_drew1 | refine below_set ?_ (IsS95.ge HI0.out) | refine below_set ?_ GE241.out | refine below_set ?_ GE249.out) | exact HB.out)) : p := h
theorem s10_2 {p : Prop} (h : p := by repeat (first | (with_reducible first | exact HK.out | apply KeepBut.set_ | apply keep_drewN | apply keep_drew | apply keep_alloc | refine keep_far ?_ GW241.out _ | refine keep_far ?_ GW249.out _) | exact HK.out)) : p := h
theorem s10_3 {p : Prop} (h : p := by repeat (first | (with_reducible first | exact HI0.out | apply IsS95.alloc | apply IsS95.drewN | apply IsS95.drew | apply IsS95.set_1 | apply IsS95.set_2 | refine IsS95.far ?_ NB0_220.out _) | exact HI0.out)) : p := h
theorem s10_4 {p : Prop} (h : p := by repeat (first | (with_reducible first | exact HI0.out | apply IsS95.alloc | apply IsS95.drewN | apply IsS95.drew | apply IsS95.set_1 | apply IsS95.set_2 | refine IsS95.far ?_ NB0_227.out _) | exact HI0.out)) : p := h
theorem s10_5 {p : Prop} (h : p := by repeat (first | (with_reducible first | exact HB.out | apply below_alloc | apply pw_below_drewN | apply below_drew1 | refine below_set ?_ (IsS95.ge HI0.out) | refine below_set ?_ GE220.out) | exact HB.out)) : p := h
theorem s10_6 {p : Prop} (h : p := by repeat (first | (with_reducible first | exact HB.out | apply below_alloc | apply pw_below_drewN | apply below_drew1 | refine below_set ?_ (IsS95.ge HI0.out) | refine below_set ?_ GE227.out) | exact HB.out)) : p := h
theorem s10_7 {p : Prop} (h : p := by repeat (first | (with_reducible first | exact HB.out | apply below_alloc | apply pw_below_drewN | apply below_drew1 | refine below_set ?_ (IsS95.ge HI0.out)) | exact HB.out)) : p := h
theorem s10_8 {p : Prop} (h : p := by repeat (first | (with_reducible first | exact HI0.out | apply IsS95.alloc | apply IsS95.drewN | apply IsS95.drew | apply IsS95.set_1 | apply IsS95.set_2) | exact HI0.out)) : p := h
theorem s10_9 {p : Prop} (h : p := by repeat (first | (with_reducible first | exact HK.out | apply KeepBut.set_ | apply keep_drewN | apply keep_drew | apply keep_alloc) | exact HK.out)) : p := h
theorem u10_0 {p : Prop} (h : p := by repeat (first | (with_reducible first | exact HK.out | apply KeepBut.set_ | apply keep_drewN | apply keep_drew | apply keep_alloc) | exact HK.out)) : p := h
theorem u10_1 {p : Prop} (h : p := by (try simp only [List.map_toArray, List.map_cons, List.map_nil]); first | done | rfl) : p := h
theorem u10_2 {p : Prop} (h : p := by repeat (first | (with_reducible first | exact HK.out | apply KeepBut.set_ | apply keep_drewN | apply keep_drew | apply keep_alloc | refine keep_far ?_ GW241.out _) | exact HK.out)) : p := h
theorem u10_3 {p : Prop} (h : p := by repeat (first | (with_reducible first | exact HK.out | apply KeepBut.set_ | apply keep_drewN | apply keep_drew | apply keep_alloc | refine keep_far ?_ GW227.out _) | exact HK.out)) : p := h
theorem u10_4 {p : Prop} (h : p := by (with_reducible repeat (first | refine blk_drewN ?_ _ | refine blk_drew ?_ | refine blk_alloc ?_ _)); exact BK241.out) : p := h
theorem u10_5 {p : Prop} (h : p := by (with_reducible repeat (first | refine blk_drewN ?_ _ | refine blk_drew ?_ | refine blk_alloc ?_ _)); exact BK227.out) : p := h
theorem u10_6 {p : Prop} (h : p := by repeat (first | (with_reducible first | exact HB.out | apply below_alloc | apply pw_below_drewN | apply below_drew1 | refine below_set ?_ (IsS95.ge HI0.out)) | exact HB.out)) : p := h
theorem u10_7 {p : Prop} (h : p := by repeat (first | (with_reducible first | exact HI0.out | apply IsS95.alloc | apply IsS95.drewN | apply IsS95.drew | apply IsS95.set_1 | apply IsS95.set_2) | exact HI0.out)) : p := h
/-! ### spec_l1Below: function 84 -/
def spec_l1Below.f (s0_0 : List Int) (s0_1 : Int) (s0_2 : Int) (a1 : Int) : Option (Int × Int × Int) := if a1 ≤ 0 then (some (0, s0_1, s0_2)) else (if a1 ≤ 256 then ((spec_l1Byte.f s0_0 s0_1 s0_2).bind fun bt205 => (if a1 = 0 then (none) else (some (Int.tmod bt205.1 a1, bt205.2.1, bt205.2.2)))) else ((spec_l1Byte.f s0_0 s0_1 s0_2).bind fun bt208 => ((spec_l1Byte.f s0_0 bt208.2.1 bt208.2.2).bind fun bt211 => ((spec_l1Byte.f s0_0 bt211.2.1 bt211.2.2).bind fun bt214 => (if a1 = 0 then (none) else (some (Int.tmod (wrap64 ((wrap64 ((wrap64 (bt208.1 * 65536)) + (wrap64 (bt211.1 * 256)))) + bt214.1)) a1, bt214.2.1, bt214.2.2)))))))
set_option maxHeartbeats 8000000 in
set_option maxRecDepth 100000 in
theorem spec_l1Below.calls (g : Nat) (s0_0 : List Int) (s0_1 : Int) (s0_2 : Int) (a1 : Int) (r1 : Int) (r2 : Int) (r3 : Int) (w0 w : World) (hI : IsS95 w0 w g s0_0 s0_1 s0_2) (hB : Below w0.heap.size w0 w) (h : spec_l1Below.f s0_0 s0_1 s0_2 a1 = some (r1, r2, r3)) :
  Calls Try.prog 84 #[.pointer (some ⟨g, 0, none⟩), .int .i64 a1] w fun e w' => e = .returned (.int .i64 r1) ∧ IsS95 w0 w' g s0_0 r2 r3 ∧ Below w0.heap.size w0 w' ∧ KeepBut w w' g none := by
 have HI0 := am hI
 have HK := am (KeepBut.refl w g none)
 have HL := am hB.size
 clear hI
 have HW0 := am hB.size
 have HB := am hB
 clear hB
 have H : (if a1 ≤ 0 then (some (0, s0_1, s0_2)) else (if a1 ≤ 256 then ((spec_l1Byte.f s0_0 s0_1 s0_2).bind fun bt205 => (if a1 = 0 then (none) else (some (Int.tmod bt205.1 a1, bt205.2.1, bt205.2.2)))) else ((spec_l1Byte.f s0_0 s0_1 s0_2).bind fun bt208 => ((spec_l1Byte.f s0_0 bt208.2.1 bt208.2.2).bind fun bt211 => ((spec_l1Byte.f s0_0 bt211.2.1 bt211.2.2).bind fun bt214 => (if a1 = 0 then (none) else (some (Int.tmod (wrap64 ((wrap64 ((wrap64 (bt208.1 * 65536)) + (wrap64 (bt211.1 * 256)))) + bt214.1)) a1, bt214.2.1, bt214.2.2)))))))) = some (r1, r2, r3) := h
 clear h
 by_cases c3 : a1 ≤ 0
 ·rw [if_pos c3] at H
  have c3b0 : decide (a1 ≤ 0) = true := decide_eq_true c3
  clear c3
  simp only [Option.some.injEq, Prod.mk.injEq] at H
  obtain ⟨rfl, rfl, rfl⟩ := H
  go_enter Try.func84, Try.ntmps84
  go_wp2
  go_ret
  exact ⟨by first | rfl | (simp [*] <;> rfl), s10_8, s10_7, s10_9⟩
 ·rw [if_neg c3] at H
  have c3b0 : decide (a1 ≤ 0) = false := decide_eq_false c3
  clear c3
  by_cases c4 : a1 ≤ 256
  ·rw [if_pos c4] at H
   have c4b0 : decide (a1 ≤ 256) = true := decide_eq_true c4
   clear c4
   replace H := Option.bind_eq_some_iff.mp H
   obtain ⟨⟨t205, t206, t207⟩, A50, H⟩ := H
   replace H : (if a1 = 0 then (none) else (some (Int.tmod t205 a1, t206, t207))) = some (r1, r2, r3) := H
   have A5 := am A50
   clear A50
   by_cases c6 : a1 = 0
   ·rw [if_pos c6] at H
    exact absurd H (by simp)
   ·rw [if_neg c6] at H
    have c6b0 : (a1 == 0) = false := beq_eq_false_iff_ne.mpr c6
    have c6b1 : (a1 != 0) = true := bne_iff_ne.mpr c6
    simp only [Option.some.injEq, Prod.mk.injEq] at H
    obtain ⟨rfl, rfl, rfl⟩ := H
    go_enter Try.func84, Try.ntmps84
    go_wp2_with (first | ((with_reducible refine gate_callee (f := 102) rfl ?_); refine goesL_ (some 13) rfl rfl Try.func102 (by kernel_rfl) rfl #[.pointer (some ⟨g, 0, none⟩)] rfl u10_1 ?_; (with_reducible refine (spec_l1Byte.calls g s0_0 s0_1 s0_2 t205 t206 t207 w0 _ ?side1 ?side2 A5.out).mono ?_); (case side1 => exact s10_8); (case side2 => exact s10_7); rintro e w7 ⟨rfl, hi, hb, hk⟩; refine ⟨_, rfl, ?_⟩; have n0_ := am (KeepBut.trans u10_0 hk (.inl rfl)); have n1_ := am (hb); have n2_ := am (hi); clear HK HB HI0; have HK := n0_; have HB := n1_; have HI0 := n2_; clear n0_ n1_ n2_; (try clear hb); (try clear hb2); (try clear hk); (try clear hi)))
    go_ret
    exact ⟨by first | rfl | (simp [*] <;> rfl), s10_8, s10_7, s10_9⟩
  ·rw [if_neg c4] at H
   have c4b0 : decide (a1 ≤ 256) = false := decide_eq_false c4
   clear c4
   replace H := Option.bind_eq_some_iff.mp H
   obtain ⟨⟨t208, t209, t210⟩, A80, H⟩ := H
   replace H : ((spec_l1Byte.f s0_0 t209 t210).bind fun bt211 => ((spec_l1Byte.f s0_0 bt211.2.1 bt211.2.2).bind fun bt214 => (if a1 = 0 then (none) else (some (Int.tmod (wrap64 ((wrap64 ((wrap64 (t208 * 65536)) + (wrap64 (bt211.1 * 256)))) + bt214.1)) a1, bt214.2.1, bt214.2.2))))) = some (r1, r2, r3) := H
   have A8 := am A80
   clear A80
   replace H := Option.bind_eq_some_iff.mp H
   obtain ⟨⟨t211, t212, t213⟩, A90, H⟩ := H
   replace H : ((spec_l1Byte.f s0_0 t212 t213).bind fun bt214 => (if a1 = 0 then (none) else (some (Int.tmod (wrap64 ((wrap64 ((wrap64 (t208 * 65536)) + (wrap64 (t211 * 256)))) + bt214.1)) a1, bt214.2.1, bt214.2.2)))) = some (r1, r2, r3) := H
   have A9 := am A90
   clear A90
   replace H := Option.bind_eq_some_iff.mp H
   obtain ⟨⟨t214, t215, t216⟩, A100, H⟩ := H
   replace H : (if a1 = 0 then (none) else (some (Int.tmod (wrap64 ((wrap64 ((wrap64 (t208 * 65536)) + (wrap64 (t211 * 256)))) + t214)) a1, t215, t216))) = some (r1, r2, r3) := H
   have A10 := am A100
   clear A100
   by_cases c11 : a1 = 0
   ·rw [if_pos c11] at H
    exact absurd H (by simp)
   ·rw [if_neg c11] at H
    have c11b0 : (a1 == 0) = false := beq_eq_false_iff_ne.mpr c11
    have c11b1 : (a1 != 0) = true := bne_iff_ne.mpr c11
    simp only [Option.some.injEq, Prod.mk.injEq] at H
    obtain ⟨rfl, rfl, rfl⟩ := H
    go_enter Try.func84, Try.ntmps84
    go_wp2_with (first | ((with_reducible refine gate_callee (f := 102) rfl ?_); refine goesL_ (some 17) rfl rfl Try.func102 (by kernel_rfl) rfl #[.pointer (some ⟨g, 0, none⟩)] rfl u10_1 ?_; (with_reducible refine (spec_l1Byte.calls g s0_0 s0_1 s0_2 t208 t209 t210 w0 _ ?side1 ?side2 A8.out).mono ?_); (case side1 => exact s10_8); (case side2 => exact s10_7); rintro e w12 ⟨rfl, hi, hb, hk⟩; refine ⟨_, rfl, ?_⟩; have n0_ := am (KeepBut.trans u10_0 hk (.inl rfl)); have n1_ := am (hb); have n2_ := am (hi); clear HK HB HI0; have HK := n0_; have HB := n1_; have HI0 := n2_; clear n0_ n1_ n2_; (try clear hb); (try clear hb2); (try clear hk); (try clear hi)) | ((with_reducible refine gate_callee (f := 102) rfl ?_); refine goesL_ (some 19) rfl rfl Try.func102 (by kernel_rfl) rfl #[.pointer (some ⟨g, 0, none⟩)] rfl u10_1 ?_; (with_reducible refine (spec_l1Byte.calls g s0_0 t209 t210 t211 t212 t213 w0 _ ?side1 ?side2 A9.out).mono ?_); (case side1 => exact s10_8); (case side2 => exact s10_7); rintro e w13 ⟨rfl, hi, hb, hk⟩; refine ⟨_, rfl, ?_⟩; have n0_ := am (KeepBut.trans u10_0 hk (.inl rfl)); have n1_ := am (hb); have n2_ := am (hi); clear HK HB HI0; have HK := n0_; have HB := n1_; have HI0 := n2_; clear n0_ n1_ n2_; (try clear hb); (try clear hb2); (try clear hk); (try clear hi)) | ((with_reducible refine gate_callee (f := 102) rfl ?_); refine goesL_ (some 21) rfl rfl Try.func102 (by kernel_rfl) rfl #[.pointer (some ⟨g, 0, none⟩)] rfl u10_1 ?_; (with_reducible refine (spec_l1Byte.calls g s0_0 t212 t213 t214 t215 t216 w0 _ ?side1 ?side2 A10.out).mono ?_); (case side1 => exact s10_8); (case side2 => exact s10_7); rintro e w14 ⟨rfl, hi, hb, hk⟩; refine ⟨_, rfl, ?_⟩; have n0_ := am (KeepBut.trans u10_0 hk (.inl rfl)); have n1_ := am (hb); have n2_ := am (hi); clear HK HB HI0; have HK := n0_; have HB := n1_; have HI0 := n2_; clear n0_ n1_ n2_; (try clear hb); (try clear hb2); (try clear hk); (try clear hi)))
    go_ret
    exact ⟨by first | rfl | (simp [*] <;> rfl), s10_8, s10_7, s10_9⟩

/-! ### spec_l1Some: function 104 -/
def spec_l1Some.f (s0_0 : List Int) (s0_1 : Int) (s0_2 : Int) (a1 : Int) (a2 : Int) : Option (Int × Int × Int) := (spec_l1Below.f s0_0 s0_1 s0_2 (wrap64 ((wrap64 (a2 - a1)) + 1))).bind fun bt217 => (some (wrap64 (a1 + bt217.1), bt217.2.1, bt217.2.2))
set_option maxHeartbeats 8000000 in
set_option maxRecDepth 100000 in
theorem spec_l1Some.calls (g : Nat) (s0_0 : List Int) (s0_1 : Int) (s0_2 : Int) (a1 : Int) (a2 : Int) (r1 : Int) (r2 : Int) (r3 : Int) (w0 w : World) (hI : IsS95 w0 w g s0_0 s0_1 s0_2) (hB : Below w0.heap.size w0 w) (h : spec_l1Some.f s0_0 s0_1 s0_2 a1 a2 = some (r1, r2, r3)) :
  Calls Try.prog 104 #[.pointer (some ⟨g, 0, none⟩), .int .i64 a1, .int .i64 a2] w fun e w' => e = .returned (.int .i64 r1) ∧ IsS95 w0 w' g s0_0 r2 r3 ∧ Below w0.heap.size w0 w' ∧ KeepBut w w' g none := by
 have HI0 := am hI
 have HK := am (KeepBut.refl w g none)
 have HL := am hB.size
 clear hI
 have HW0 := am hB.size
 have HB := am hB
 clear hB
 have H : ((spec_l1Below.f s0_0 s0_1 s0_2 (wrap64 ((wrap64 (a2 - a1)) + 1))).bind fun bt217 => (some (wrap64 (a1 + bt217.1), bt217.2.1, bt217.2.2))) = some (r1, r2, r3) := h
 clear h
 replace H := Option.bind_eq_some_iff.mp H
 obtain ⟨⟨t217, t218, t219⟩, A40, H⟩ := H
 replace H : (some (wrap64 (a1 + t217), t218, t219)) = some (r1, r2, r3) := H
 have A4 := am A40
 clear A40
 simp only [Option.some.injEq, Prod.mk.injEq] at H
 obtain ⟨rfl, rfl, rfl⟩ := H
 go_enter Try.func104, Try.ntmps104
 go_wp2_with (first | ((with_reducible refine gate_callee (f := 84) rfl ?_); refine goesL_ (some 13) rfl rfl Try.func84 (by kernel_rfl) rfl #[.pointer (some ⟨g, 0, none⟩), .int .i64 (wrap64 ((wrap64 (a2 - a1)) + 1))] rfl u10_1 ?_; (with_reducible refine (spec_l1Below.calls g s0_0 s0_1 s0_2 (wrap64 ((wrap64 (a2 - a1)) + 1)) t217 t218 t219 w0 _ ?side1 ?side2 A4.out).mono ?_); (case side1 => exact s10_8); (case side2 => exact s10_7); rintro e w5 ⟨rfl, hi, hb, hk⟩; refine ⟨_, rfl, ?_⟩; have n0_ := am (KeepBut.trans u10_0 hk (.inl rfl)); have n1_ := am (hb); have n2_ := am (hi); clear HK HB HI0; have HK := n0_; have HB := n1_; have HI0 := n2_; clear n0_ n1_ n2_; (try clear hb); (try clear hb2); (try clear hk); (try clear hi)))
 go_ret
 exact ⟨by first | rfl | (simp [*] <;> rfl), s10_8, s10_7, s10_9⟩

/-! ### spec_l2Draw: function 88 -/
def spec_l2Draw.f (s0_0 : List Int) (s0_1 : Int) (s0_2 : Int) : Option (Int × Int × Int × Int) := (spec_l1Some.f s0_0 s0_1 s0_2 (-64) 64).bind fun bt221 => ((spec_l1Some.f s0_0 bt221.2.1 bt221.2.2 (-64) 64).bind fun bt224 => (some (bt221.1, bt224.1, bt224.2.1, bt224.2.2)))
set_option maxHeartbeats 8000000 in
set_option maxRecDepth 100000 in
theorem spec_l2Draw.calls (g : Nat) (s0_0 : List Int) (s0_1 : Int) (s0_2 : Int) (r1 : Int) (r2 : Int) (r3 : Int) (r4 : Int) (w0 w : World) (hI : IsS95 w0 w g s0_0 s0_1 s0_2) (hB : Below w0.heap.size w0 w) (h : spec_l2Draw.f s0_0 s0_1 s0_2 = some (r1, r2, r3, r4)) :
  Calls Try.prog 88 #[.pointer (some ⟨g, 0, none⟩)] w fun e w' => e = .returned (.agg #[.int .i64 r1, .int .i64 r2]) ∧ IsS95 w0 w' g s0_0 r3 r4 ∧ Below w0.heap.size w0 w' ∧ KeepBut w w' g none := by
 have hu28 := Try.underlying28
 have HI0 := am hI
 have HK := am (KeepBut.refl w g none)
 have HL := am hB.size
 clear hI
 have HW0 := am hB.size
 have HB := am hB
 clear hB
 have H : ((spec_l1Some.f s0_0 s0_1 s0_2 (-64) 64).bind fun bt221 => ((spec_l1Some.f s0_0 bt221.2.1 bt221.2.2 (-64) 64).bind fun bt224 => (some (bt221.1, bt224.1, bt224.2.1, bt224.2.2)))) = some (r1, r2, r3, r4) := h
 clear h
 replace H := Option.bind_eq_some_iff.mp H
 obtain ⟨⟨t221, t222, t223⟩, A20, H⟩ := H
 replace H : ((spec_l1Some.f s0_0 t222 t223 (-64) 64).bind fun bt224 => (some (t221, bt224.1, bt224.2.1, bt224.2.2))) = some (r1, r2, r3, r4) := H
 have A2 := am A20
 clear A20
 replace H := Option.bind_eq_some_iff.mp H
 obtain ⟨⟨t224, t225, t226⟩, A30, H⟩ := H
 replace H : (some (t221, t224, t225, t226)) = some (r1, r2, r3, r4) := H
 have A3 := am A30
 clear A30
 simp only [Option.some.injEq, Prod.mk.injEq] at H
 obtain ⟨rfl, rfl, rfl, rfl⟩ := H
 go_enter Try.func88, Try.ntmps88
 go_wp2_with (first | ((with_reducible refine gate_dst (N := 2) rfl ?_); refine box_event ?hg (N := 2) ?hd (cs := #[.int .i64 0, .int .i64 0]) (t := 28) ?hr ?_; (case hd => rfl); (case hg => rfl); (case hr => exact gq); intro gb220 hg w4 hbox hb; have n0_ := am (IsS95.below u10_7 hb); have n1_ := am (KeepBut.trans u10_0 (KeepBut.of_below hb g none) (.inl rfl)); have n2_ := am (below_step u10_6 hb); have n3_ := am (hbox); have n4_ := am ((by rw [hg]; exact (keep_size (w := w) (g := g) (row := none) u10_0) : w.heap.size ≤ gb220)); have n5_ := am ((Nat.le_trans HW0.out (by rw [hg]; exact (keep_size (w := w) (g := g) (row := none) u10_0) : w.heap.size ≤ gb220) : w0.heap.size ≤ gb220)); have n6_ := am ((by rw [hg]; exact Nat.ne_of_lt (IsS95.lt (show IsS95 w0 _ g s0_0 s0_1 s0_2 from by repeat (first | (with_reducible first | exact HI0.out | apply IsS95.alloc | apply IsS95.drewN | apply IsS95.drew | apply IsS95.set_1 | apply IsS95.set_2) | exact HI0.out))) : g ≠ gb220)); have n7_ := am ((by rw [hg]; exact Nat.ne_of_gt (IsS95.lt (show IsS95 w0 _ g s0_0 s0_1 s0_2 from by repeat (first | (with_reducible first | exact HI0.out | apply IsS95.alloc | apply IsS95.drewN | apply IsS95.drew | apply IsS95.set_1 | apply IsS95.set_2) | exact HI0.out))) : gb220 ≠ g)); clear HI0 HK HB; have HI0 := n0_; have HK := n1_; have HB := n2_; have BK220 := n3_; have GW220 := n4_; have GE220 := n5_; have NB0_220 := n6_; have NB220_0 := n7_; clear n0_ n1_ n2_ n3_ n4_ n5_ n6_ n7_ hb hbox hg) | ((with_reducible refine gate_callee (f := 104) rfl ?_); refine goesL_ (some 4) rfl rfl Try.func104 (by kernel_rfl) rfl #[.pointer (some ⟨g, 0, none⟩), .int .i64 (-64), .int .i64 64] rfl u10_1 ?_; (with_reducible refine (spec_l1Some.calls g s0_0 s0_1 s0_2 (-64) 64 t221 t222 t223 w0 _ ?side1 ?side2 A2.out).mono ?_); (case side1 => exact s10_3); (case side2 => exact s10_5); rintro e w5 ⟨rfl, hi, hb, hk⟩; refine ⟨_, rfl, ?_⟩; have n0_ := am (KeepBut.blk hk (g' := gb220) (o := zo8 0 0) (by (with_reducible repeat (first | refine blk_drewN ?_ _ | refine blk_drew ?_ | refine blk_alloc ?_ _)); exact BK220.out) NB220_0.out (by simp)); have n1_ := am (KeepBut.trans (by repeat (first | (with_reducible first | exact HK.out | apply KeepBut.set_ | apply keep_drewN | apply keep_drew | apply keep_alloc | refine keep_far ?_ GW220.out _) | exact HK.out)) hk (.inl rfl)); have n2_ := am (hb); have n3_ := am (hi); clear BK220 HK HB HI0; have BK220 := n0_; have HK := n1_; have HB := n2_; have HI0 := n3_; clear n0_ n1_ n2_ n3_; (try clear hb); (try clear hb2); (try clear hk); (try clear hi)) | ((with_reducible refine gate_callee (f := 104) rfl ?_); refine goesL_ (some 6) rfl rfl Try.func104 (by kernel_rfl) rfl #[.pointer (some ⟨g, 0, none⟩), .int .i64 (-64), .int .i64 64] rfl u10_1 ?_; (with_reducible refine (spec_l1Some.calls g s0_0 t222 t223 (-64) 64 t224 t225 t226 w0 _ ?side1 ?side2 A3.out).mono ?_); (case side1 => exact s10_3); (case side2 => exact s10_5); rintro e w6 ⟨rfl, hi, hb, hk⟩; refine ⟨_, rfl, ?_⟩; have n0_ := am (KeepBut.blk hk (g' := gb220) (o := zo8 0 0) (by (with_reducible repeat (first | refine blk_drewN ?_ _ | refine blk_drew ?_ | refine blk_alloc ?_ _)); exact BK220.out) NB220_0.out (by simp)); have n1_ := am (KeepBut.trans (by repeat (first | (with_reducible first | exact HK.out | apply KeepBut.set_ | apply keep_drewN | apply keep_drew | apply keep_alloc | refine keep_far ?_ GW220.out _) | exact HK.out)) hk (.inl rfl)); have n2_ := am (hb); have n3_ := am (hi); clear BK220 HK HB HI0; have BK220 := n0_; have HK := n1_; have HB := n2_; have HI0 := n3_; clear n0_ n1_ n2_ n3_; (try clear hb); (try clear hb2); (try clear hk); (try clear hi); have hnb7 := NB220_0.out; have hnc7 := NB0_220.out; obtain ⟨hcz8_0, hcz8_1, hfz8_0, hfz8_1⟩ := cf2 BK220.out))
 refine bodyPost_ret (results_cell_row rfl _ _ gb220 28 #[.int .i64 t221, .int .i64 t224] (0, 0) _ rfl (by (with_reducible repeat (first | refine blk_drewN ?_ _ | refine blk_drew ?_ | refine blk_alloc ?_ _)); refine blk_put (cs := zr10 t221 0) ?_ 1 _ rfl; refine blk_put (cs := zr10 0 0) ?_ 0 _ rfl; (with_reducible repeat (first | refine blk_drewN ?_ _ | refine blk_drew ?_ | refine blk_alloc ?_ _)); exact BK220.out) Try.underlying28 rfl (by kernel_rfl)) rfl ?_
 exact ⟨by first | rfl | (simp [*] <;> rfl), s10_3, s10_5, by repeat (first | (with_reducible first | exact HK.out | apply KeepBut.set_ | apply keep_drewN | apply keep_drew | apply keep_alloc | refine keep_far ?_ GW220.out _) | exact HK.out)⟩

/-! ### spec_l3Draw: function 103 -/
def spec_l3Draw.f (s0_0 : List Int) (s0_1 : Int) (s0_2 : Int) : Option (Int × Int × Int × Int × Int × Int × Int) := (spec_l2Draw.f s0_0 s0_1 s0_2).bind fun bt228 => ((spec_l1Below.f s0_0 bt228.2.2.1 bt228.2.2.2 4).bind fun bt232 => ((spec_l1Below.f s0_0 bt232.2.1 bt232.2.2 17).bind fun bt235 => ((spec_l1Some.f s0_0 bt235.2.1 bt235.2.2 1 32).bind fun bt238 => (some (bt228.1, bt228.2.1, bt232.1, bt235.1, bt238.1, bt238.2.1, bt238.2.2)))))
set_option maxHeartbeats 8000000 in
set_option maxRecDepth 100000 in
theorem spec_l3Draw.calls (g : Nat) (s0_0 : List Int) (s0_1 : Int) (s0_2 : Int) (r1 : Int) (r2 : Int) (r3 : Int) (r4 : Int) (r5 : Int) (r6 : Int) (r7 : Int) (w0 w : World) (hI : IsS95 w0 w g s0_0 s0_1 s0_2) (hB : Below w0.heap.size w0 w) (h : spec_l3Draw.f s0_0 s0_1 s0_2 = some (r1, r2, r3, r4, r5, r6, r7)) :
  Calls Try.prog 103 #[.pointer (some ⟨g, 0, none⟩)] w fun e w' => e = .returned (.agg #[.int .i64 r1, .int .i64 r2, .int .i64 r3, .int .i64 r4, .int .i64 r5]) ∧ IsS95 w0 w' g s0_0 r6 r7 ∧ Below w0.heap.size w0 w' ∧ KeepBut w w' g none := by
 have hu71 := Try.underlying71
 have HI0 := am hI
 have HK := am (KeepBut.refl w g none)
 have HL := am hB.size
 clear hI
 have HW0 := am hB.size
 have HB := am hB
 clear hB
 have H : ((spec_l2Draw.f s0_0 s0_1 s0_2).bind fun bt228 => ((spec_l1Below.f s0_0 bt228.2.2.1 bt228.2.2.2 4).bind fun bt232 => ((spec_l1Below.f s0_0 bt232.2.1 bt232.2.2 17).bind fun bt235 => ((spec_l1Some.f s0_0 bt235.2.1 bt235.2.2 1 32).bind fun bt238 => (some (bt228.1, bt228.2.1, bt232.1, bt235.1, bt238.1, bt238.2.1, bt238.2.2)))))) = some (r1, r2, r3, r4, r5, r6, r7) := h
 clear h
 replace H := Option.bind_eq_some_iff.mp H
 obtain ⟨⟨t228, t229, t230, t231⟩, A20, H⟩ := H
 replace H : ((spec_l1Below.f s0_0 t230 t231 4).bind fun bt232 => ((spec_l1Below.f s0_0 bt232.2.1 bt232.2.2 17).bind fun bt235 => ((spec_l1Some.f s0_0 bt235.2.1 bt235.2.2 1 32).bind fun bt238 => (some (t228, t229, bt232.1, bt235.1, bt238.1, bt238.2.1, bt238.2.2))))) = some (r1, r2, r3, r4, r5, r6, r7) := H
 have A2 := am A20
 clear A20
 replace H := Option.bind_eq_some_iff.mp H
 obtain ⟨⟨t232, t233, t234⟩, A30, H⟩ := H
 replace H : ((spec_l1Below.f s0_0 t233 t234 17).bind fun bt235 => ((spec_l1Some.f s0_0 bt235.2.1 bt235.2.2 1 32).bind fun bt238 => (some (t228, t229, t232, bt235.1, bt238.1, bt238.2.1, bt238.2.2)))) = some (r1, r2, r3, r4, r5, r6, r7) := H
 have A3 := am A30
 clear A30
 replace H := Option.bind_eq_some_iff.mp H
 obtain ⟨⟨t235, t236, t237⟩, A40, H⟩ := H
 replace H : ((spec_l1Some.f s0_0 t236 t237 1 32).bind fun bt238 => (some (t228, t229, t232, t235, bt238.1, bt238.2.1, bt238.2.2))) = some (r1, r2, r3, r4, r5, r6, r7) := H
 have A4 := am A40
 clear A40
 replace H := Option.bind_eq_some_iff.mp H
 obtain ⟨⟨t238, t239, t240⟩, A50, H⟩ := H
 replace H : (some (t228, t229, t232, t235, t238, t239, t240)) = some (r1, r2, r3, r4, r5, r6, r7) := H
 have A5 := am A50
 clear A50
 simp only [Option.some.injEq, Prod.mk.injEq] at H
 obtain ⟨rfl, rfl, rfl, rfl, rfl, rfl, rfl⟩ := H
 go_enter Try.func103, Try.ntmps103
 go_wp2_with (first | ((with_reducible refine gate_dst (N := 2) rfl ?_); refine box_event ?hg (N := 2) ?hd (cs := #[.int .i64 0, .int .i64 0, .int .i64 0, .int .i64 0, .int .i64 0]) (t := 71) ?hr ?_; (case hd => rfl); (case hg => rfl); (case hr => exact gq); intro gb227 hg w6 hbox hb; have n0_ := am (IsS95.below u10_7 hb); have n1_ := am (KeepBut.trans u10_0 (KeepBut.of_below hb g none) (.inl rfl)); have n2_ := am (below_step u10_6 hb); have n3_ := am (hbox); have n4_ := am ((by rw [hg]; exact (keep_size (w := w) (g := g) (row := none) u10_0) : w.heap.size ≤ gb227)); have n5_ := am ((Nat.le_trans HW0.out (by rw [hg]; exact (keep_size (w := w) (g := g) (row := none) u10_0) : w.heap.size ≤ gb227) : w0.heap.size ≤ gb227)); have n6_ := am ((by rw [hg]; exact Nat.ne_of_lt (IsS95.lt (show IsS95 w0 _ g s0_0 s0_1 s0_2 from by repeat (first | (with_reducible first | exact HI0.out | apply IsS95.alloc | apply IsS95.drewN | apply IsS95.drew | apply IsS95.set_1 | apply IsS95.set_2) | exact HI0.out))) : g ≠ gb227)); have n7_ := am ((by rw [hg]; exact Nat.ne_of_gt (IsS95.lt (show IsS95 w0 _ g s0_0 s0_1 s0_2 from by repeat (first | (with_reducible first | exact HI0.out | apply IsS95.alloc | apply IsS95.drewN | apply IsS95.drew | apply IsS95.set_1 | apply IsS95.set_2) | exact HI0.out))) : gb227 ≠ g)); clear HI0 HK HB; have HI0 := n0_; have HK := n1_; have HB := n2_; have BK227 := n3_; have GW227 := n4_; have GE227 := n5_; have NB0_227 := n6_; have NB227_0 := n7_; clear n0_ n1_ n2_ n3_ n4_ n5_ n6_ n7_ hb hbox hg) | ((with_reducible refine gate_callee (f := 88) rfl ?_); refine goesL_ (some 4) rfl rfl Try.func88 (by kernel_rfl) rfl #[.pointer (some ⟨g, 0, none⟩)] rfl u10_1 ?_; (with_reducible refine (spec_l2Draw.calls g s0_0 s0_1 s0_2 t228 t229 t230 t231 w0 _ ?side1 ?side2 A2.out).mono ?_); (case side1 => exact s10_4); (case side2 => exact s10_6); rintro e w7 ⟨rfl, hi, hb, hk⟩; refine ⟨_, rfl, ?_⟩; have n0_ := am (KeepBut.blk hk (g' := gb227) (o := zo9 0 0 0 0 0) u10_5 NB227_0.out (by simp)); have n1_ := am (KeepBut.trans u10_3 hk (.inl rfl)); have n2_ := am (hb); have n3_ := am (hi); clear BK227 HK HB HI0; have BK227 := n0_; have HK := n1_; have HB := n2_; have HI0 := n3_; clear n0_ n1_ n2_ n3_; (try clear hb); (try clear hb2); (try clear hk); (try clear hi)) | ((with_reducible refine gate_callee (f := 84) rfl ?_); refine goesL_ (some 6) rfl rfl Try.func84 (by kernel_rfl) rfl #[.pointer (some ⟨g, 0, none⟩), .int .i64 4] rfl u10_1 ?_; (with_reducible refine (spec_l1Below.calls g s0_0 t230 t231 4 t232 t233 t234 w0 _ ?side1 ?side2 A3.out).mono ?_); (case side1 => exact s10_4); (case side2 => exact s10_6); rintro e w8 ⟨rfl, hi, hb, hk⟩; refine ⟨_, rfl, ?_⟩; have n0_ := am (KeepBut.blk hk (g' := gb227) (o := zo9 0 0 0 0 0) u10_5 NB227_0.out (by simp)); have n1_ := am (KeepBut.trans u10_3 hk (.inl rfl)); have n2_ := am (hb); have n3_ := am (hi); clear BK227 HK HB HI0; have BK227 := n0_; have HK := n1_; have HB := n2_; have HI0 := n3_; clear n0_ n1_ n2_ n3_; (try clear hb); (try clear hb2); (try clear hk); (try clear hi)) | ((with_reducible refine gate_callee (f := 84) rfl ?_); refine goesL_ (some 8) rfl rfl Try.func84 (by kernel_rfl) rfl #[.pointer (some ⟨g, 0, none⟩), .int .i64 17] rfl u10_1 ?_; (with_reducible refine (spec_l1Below.calls g s0_0 t233 t234 17 t235 t236 t237 w0 _ ?side1 ?side2 A4.out).mono ?_); (case side1 => exact s10_4); (case side2 => exact s10_6); rintro e w9 ⟨rfl, hi, hb, hk⟩; refine ⟨_, rfl, ?_⟩; have n0_ := am (KeepBut.blk hk (g' := gb227) (o := zo9 0 0 0 0 0) u10_5 NB227_0.out (by simp)); have n1_ := am (KeepBut.trans u10_3 hk (.inl rfl)); have n2_ := am (hb); have n3_ := am (hi); clear BK227 HK HB HI0; have BK227 := n0_; have HK := n1_; have HB := n2_; have HI0 := n3_; clear n0_ n1_ n2_ n3_; (try clear hb); (try clear hb2); (try clear hk); (try clear hi)) | ((with_reducible refine gate_callee (f := 104) rfl ?_); refine goesL_ (some 10) rfl rfl Try.func104 (by kernel_rfl) rfl #[.pointer (some ⟨g, 0, none⟩), .int .i64 1, .int .i64 32] rfl u10_1 ?_; (with_reducible refine (spec_l1Some.calls g s0_0 t236 t237 1 32 t238 t239 t240 w0 _ ?side1 ?side2 A5.out).mono ?_); (case side1 => exact s10_4); (case side2 => exact s10_6); rintro e w10 ⟨rfl, hi, hb, hk⟩; refine ⟨_, rfl, ?_⟩; have n0_ := am (KeepBut.blk hk (g' := gb227) (o := zo9 0 0 0 0 0) u10_5 NB227_0.out (by simp)); have n1_ := am (KeepBut.trans u10_3 hk (.inl rfl)); have n2_ := am (hb); have n3_ := am (hi); clear BK227 HK HB HI0; have BK227 := n0_; have HK := n1_; have HB := n2_; have HI0 := n3_; clear n0_ n1_ n2_ n3_; (try clear hb); (try clear hb2); (try clear hk); (try clear hi); have hnb11 := NB227_0.out; have hnc11 := NB0_227.out; obtain ⟨hcz12_0, hcz12_1, hcz12_2, hcz12_3, hcz12_4, hfz12_0, hfz12_1, hfz12_2, hfz12_3, hfz12_4⟩ := cf5 BK227.out))
 refine bodyPost_ret (results_cell_row rfl _ _ gb227 71 #[.int .i64 t228, .int .i64 t229, .int .i64 t232, .int .i64 t235, .int .i64 t238] (0, 0) _ rfl (by (with_reducible repeat (first | refine blk_drewN ?_ _ | refine blk_drew ?_ | refine blk_alloc ?_ _)); refine blk_put (cs := zr11 t228 t229 t232 t235 0) ?_ 4 _ rfl; refine blk_put (cs := zr11 t228 t229 t232 0 0) ?_ 3 _ rfl; refine blk_put (cs := zr11 t228 t229 0 0 0) ?_ 2 _ rfl; refine blk_put (cs := zr11 t228 0 0 0 0) ?_ 1 _ rfl; refine blk_put (cs := zr11 0 0 0 0 0) ?_ 0 _ rfl; (with_reducible repeat (first | refine blk_drewN ?_ _ | refine blk_drew ?_ | refine blk_alloc ?_ _)); exact BK227.out) Try.underlying71 rfl (by kernel_rfl)) rfl ?_
 exact ⟨by first | rfl | (simp [*] <;> rfl), s10_4, s10_6, by repeat (first | (with_reducible first | exact HK.out | apply KeepBut.set_ | apply keep_drewN | apply keep_drew | apply keep_alloc | refine keep_far ?_ GW227.out _) | exact HK.out)⟩

/-! ### spec_l6Nozzle: function 85 -/
def spec_l6Nozzle.f (s0_0 : List Int) (s0_1 : Int) (s0_2 : Int) (a1 : ByteArray) (a2 : ByteArray) : Option (ByteArray × Int × ByteArray × Int × Int × Int × Int × Int × Int × Int) := (spec_l3Draw.f s0_0 s0_1 s0_2).bind fun bt242 => ((spec_l1Some.f s0_0 bt242.2.2.2.2.2.1 bt242.2.2.2.2.2.2 0 32).bind fun bt250 => (some (a1, 2, a2, bt242.1, bt242.2.1, bt242.2.2.1, bt242.2.2.2.1, bt250.1, bt250.2.1, bt250.2.2)))
def spec_l6Nozzle.T2 : Bool × List (List Nat × List Nat) := (true, [([], []), ([], []), ([], []), ([2], [2]), ([], []), ([4], [4]), ([], []), ([6], [6]), ([], []), ([8], [8]), ([0, 1, 3, 5, 7, 9], [0, 1, 3, 5, 7, 9]), ([10, 9, 0, 1, 2, 3, 4, 5, 6, 7, 8, 9, 10], [10])])
def spec_l6Nozzle.B2 : List Nat := [0, 0, 0, 4, 0, 16, 0, 64, 0, 256, 1023, 2047]
theorem spec_l6Nozzle.tab2 : rtab .any (opsOf Try.f85 2) = spec_l6Nozzle.T2 := by kernel_rfl
theorem spec_l6Nozzle.bits2 : waitsOk spec_l6Nozzle.T2.2 spec_l6Nozzle.B2 = true := by kernel_rfl
set_option maxHeartbeats 8000000 in
set_option maxRecDepth 100000 in
theorem spec_l6Nozzle.calls (g : Nat) (s0_0 : List Int) (s0_1 : Int) (s0_2 : Int) (a1 : ByteArray) (a2 : ByteArray) (r1 : ByteArray) (r2 : Int) (r3 : ByteArray) (r4 : Int) (r5 : Int) (r6 : Int) (r7 : Int) (r8 : Int) (r9 : Int) (r10 : Int) (w0 w : World) (hI : IsS95 w0 w g s0_0 s0_1 s0_2) (hB : Below w0.heap.size w0 w) (h : spec_l6Nozzle.f s0_0 s0_1 s0_2 a1 a2 = some (r1, r2, r3, r4, r5, r6, r7, r8, r9, r10)) :
  Calls Try.prog 85 #[.pointer (some ⟨g, 0, none⟩), .string a1, .string a2] w fun e w' => e = .returned (.agg #[.string r1, .int .i64 r2, .string r3, .int .i64 r4, .int .i64 r5, .int .i64 r6, .int .i64 r7, .int .i64 r8]) ∧ IsS95 w0 w' g s0_0 r9 r10 ∧ Below w0.heap.size w0 w' ∧ KeepBut w w' g none := by
 have hu30 := Try.underlying30
 have hu71 := Try.underlying71
 have hu28 := Try.underlying28
 have HI0 := am hI
 have HK := am (KeepBut.refl w g none)
 have HL := am hB.size
 clear hI
 have HW0 := am hB.size
 have HB := am hB
 clear hB
 have H : ((spec_l3Draw.f s0_0 s0_1 s0_2).bind fun bt242 => ((spec_l1Some.f s0_0 bt242.2.2.2.2.2.1 bt242.2.2.2.2.2.2 0 32).bind fun bt250 => (some (a1, 2, a2, bt242.1, bt242.2.1, bt242.2.2.1, bt242.2.2.2.1, bt250.1, bt250.2.1, bt250.2.2)))) = some (r1, r2, r3, r4, r5, r6, r7, r8, r9, r10) := h
 clear h
 replace H := Option.bind_eq_some_iff.mp H
 obtain ⟨⟨t242, t243, t244, t245, t246, t247, t248⟩, A40, H⟩ := H
 replace H : ((spec_l1Some.f s0_0 t247 t248 0 32).bind fun bt250 => (some (a1, 2, a2, t242, t243, t244, t245, bt250.1, bt250.2.1, bt250.2.2))) = some (r1, r2, r3, r4, r5, r6, r7, r8, r9, r10) := H
 have A4 := am A40
 clear A40
 replace H := Option.bind_eq_some_iff.mp H
 obtain ⟨⟨t250, t251, t252⟩, A50, H⟩ := H
 replace H : (some (a1, 2, a2, t242, t243, t244, t245, t250, t251, t252)) = some (r1, r2, r3, r4, r5, r6, r7, r8, r9, r10) := H
 have A5 := am A50
 clear A50
 simp only [Option.some.injEq, Prod.mk.injEq] at H
 obtain ⟨rfl, rfl, rfl, rfl, rfl, rfl, rfl, rfl, rfl, rfl⟩ := H
 go_enter Try.func85, Try.ntmps85
 try go_wp2_with (first | ((with_reducible refine gate_dst (N := 6) rfl ?_); refine box_event ?hg (N := 6) ?hd (cs := #[.string (⟨#[]⟩ : ByteArray), .int .i64 0, .string (⟨#[]⟩ : ByteArray), .int .i64 0, .int .i64 0, .int .i64 0, .int .i64 0, .int .i64 0]) (t := 30) ?hr ?_; (case hd => rfl); (case hg => rfl); (case hr => exact gq); intro gb241 hg w6 hbox hb; have n0_ := am (IsS95.below u10_7 hb); have n1_ := am (KeepBut.trans u10_0 (KeepBut.of_below hb g none) (.inl rfl)); have n2_ := am (below_step u10_6 hb); have n3_ := am (hbox); have n4_ := am ((by rw [hg]; exact (keep_size (w := w) (g := g) (row := none) u10_0) : w.heap.size ≤ gb241)); have n5_ := am ((Nat.le_trans HW0.out (by rw [hg]; exact (keep_size (w := w) (g := g) (row := none) u10_0) : w.heap.size ≤ gb241) : w0.heap.size ≤ gb241)); have n6_ := am ((by rw [hg]; exact Nat.ne_of_lt (IsS95.lt (show IsS95 w0 _ g s0_0 s0_1 s0_2 from by repeat (first | (with_reducible first | exact HI0.out | apply IsS95.alloc | apply IsS95.drewN | apply IsS95.drew | apply IsS95.set_1 | apply IsS95.set_2) | exact HI0.out))) : g ≠ gb241)); have n7_ := am ((by rw [hg]; exact Nat.ne_of_gt (IsS95.lt (show IsS95 w0 _ g s0_0 s0_1 s0_2 from by repeat (first | (with_reducible first | exact HI0.out | apply IsS95.alloc | apply IsS95.drewN | apply IsS95.drew | apply IsS95.set_1 | apply IsS95.set_2) | exact HI0.out))) : gb241 ≠ g)); clear HI0 HK HB; have HI0 := n0_; have HK := n1_; have HB := n2_; have BK241 := n3_; have GW241 := n4_; have GE241 := n5_; have NB0_241 := n6_; have NB241_0 := n7_; clear n0_ n1_ n2_ n3_ n4_ n5_ n6_ n7_ hb hbox hg) | ((with_reducible refine gate_callee (f := 103) rfl ?_); refine goesL_ (some 9) rfl rfl Try.func103 (by kernel_rfl) rfl #[.pointer (some ⟨g, 0, none⟩)] rfl u10_1 ?_; (with_reducible refine (spec_l3Draw.calls g s0_0 s0_1 s0_2 t242 t243 t244 t245 t246 t247 t248 w0 _ ?side1 ?side2 A4.out).mono ?_); (case side1 => repeat (first | (with_reducible first | exact HI0.out | apply IsS95.alloc | apply IsS95.drewN | apply IsS95.drew | apply IsS95.set_1 | apply IsS95.set_2 | refine IsS95.far ?_ NB0_241.out _) | exact HI0.out)); (case side2 => repeat (first | (with_reducible first | exact HB.out | apply below_alloc | apply pw_below_drewN | apply below_drew1 | refine below_set ?_ (IsS95.ge HI0.out) | refine below_set ?_ GE241.out) | exact HB.out)); rintro e w7 ⟨rfl, hi, hb, hk⟩; refine ⟨_, rfl, ?_⟩; have n0_ := am (KeepBut.blk hk (g' := gb241) (o := zo0 (⟨#[]⟩ : ByteArray) 0 (⟨#[]⟩ : ByteArray) 0 0 0 0 0) u10_4 NB241_0.out (by simp)); have n1_ := am (KeepBut.trans u10_2 hk (.inl rfl)); have n2_ := am (hb); have n3_ := am (hi); clear BK241 HK HB HI0; have BK241 := n0_; have HK := n1_; have HB := n2_; have HI0 := n3_; clear n0_ n1_ n2_ n3_; (try clear hb); (try clear hb2); (try clear hk); (try clear hi)) | ((with_reducible refine gate_dst (N := 7) rfl ?_); refine box_event ?hg (N := 7) ?hd (cs := #[.int .i64 0, .int .i64 0, .int .i64 0, .int .i64 0, .int .i64 0]) (t := 71) ?hr ?_; (case hd => rfl); (case hg => rfl); (case hr => exact gq); intro gb249 hg w8 hbox hb; have n0_ := am (IsS95.below (by repeat (first | (with_reducible first | exact HI0.out | apply IsS95.alloc | apply IsS95.drewN | apply IsS95.drew | apply IsS95.set_1 | apply IsS95.set_2 | refine IsS95.far ?_ NB0_241.out _) | exact HI0.out)) hb); have n1_ := am (blk_below (g := gb241) (o := zo0 (⟨#[]⟩ : ByteArray) 0 (⟨#[]⟩ : ByteArray) 0 0 0 0 0) u10_4 hb); have n2_ := am (KeepBut.trans u10_2 (KeepBut.of_below hb g none) (.inl rfl)); have n3_ := am (below_step (by repeat (first | (with_reducible first | exact HB.out | apply below_alloc | apply pw_below_drewN | apply below_drew1 | refine below_set ?_ (IsS95.ge HI0.out) | refine below_set ?_ GE241.out) | exact HB.out)) hb); have n4_ := am (hbox); have n5_ := am ((by rw [hg]; exact (keep_size (w := w) (g := g) (row := none) u10_2) : w.heap.size ≤ gb249)); have n6_ := am ((Nat.le_trans HW0.out (by rw [hg]; exact (keep_size (w := w) (g := g) (row := none) u10_2) : w.heap.size ≤ gb249) : w0.heap.size ≤ gb249)); have n7_ := am ((by rw [hg]; exact Nat.ne_of_lt (blk_lt (g := gb241) (o := zo0 (⟨#[]⟩ : ByteArray) 0 (⟨#[]⟩ : ByteArray) 0 0 0 0 0) u10_4) : gb241 ≠ gb249)); have n8_ := am ((by rw [hg]; exact Nat.ne_of_gt (blk_lt (g := gb241) (o := zo0 (⟨#[]⟩ : ByteArray) 0 (⟨#[]⟩ : ByteArray) 0 0 0 0 0) u10_4) : gb249 ≠ gb241)); have n9_ := am ((by rw [hg]; exact Nat.ne_of_lt (IsS95.lt (show IsS95 w0 _ g s0_0 t247 t248 from by repeat (first | (with_reducible first | exact HI0.out | apply IsS95.alloc | apply IsS95.drewN | apply IsS95.drew | apply IsS95.set_1 | apply IsS95.set_2 | refine IsS95.far ?_ NB0_241.out _) | exact HI0.out))) : g ≠ gb249)); have n10_ := am ((by rw [hg]; exact Nat.ne_of_gt (IsS95.lt (show IsS95 w0 _ g s0_0 t247 t248 from by repeat (first | (with_reducible first | exact HI0.out | apply IsS95.alloc | apply IsS95.drewN | apply IsS95.drew | apply IsS95.set_1 | apply IsS95.set_2 | refine IsS95.far ?_ NB0_241.out _) | exact HI0.out))) : gb249 ≠ g)); clear HI0 BK241 HK HB; have HI0 := n0_; have BK241 := n1_; have HK := n2_; have HB := n3_; have BK249 := n4_; have GW249 := n5_; have GE249 := n6_; have NB241_249 := n7_; have NB249_241 := n8_; have NB0_249 := n9_; have NB249_0 := n10_; clear n0_ n1_ n2_ n3_ n4_ n5_ n6_ n7_ n8_ n9_ n10_ hb hbox hg; have hnb9 := NB249_241.out; have hnc9 := NB241_249.out; have hnb10 := NB249_0.out; have hnc10 := NB0_249.out; obtain ⟨hcz11_0, hcz11_1, hcz11_2, hcz11_3, hcz11_4, hfz11_0, hfz11_1, hfz11_2, hfz11_3, hfz11_4⟩ := cf5 BK249.out))
 have n0_ : Aside0 ((((((w8.setCell ⟨gb249, 0, none⟩ (.int .i64 t242)).setCell ⟨gb249, 1, none⟩ (.int .i64 t243)).setCell ⟨gb249, 2, none⟩ (.int .i64 t244)).setCell ⟨gb249, 3, none⟩ (.int .i64 t245)).setCell ⟨gb249, 4, none⟩ (.int .i64 t246)).heap[gb241]? = some (.cells #[.string (⟨#[]⟩ : ByteArray), .int .i64 0, .string (⟨#[]⟩ : ByteArray), .int .i64 0, .int .i64 0, .int .i64 0, .int .i64 0, .int .i64 0] 30 (0, 0))) := ⟨by (with_reducible repeat (first | refine blk_drewN ?_ _ | refine blk_drew ?_ | refine blk_alloc ?_ _)); refine blk_far ?_ NB241_249.out _; (with_reducible repeat (first | refine blk_drewN ?_ _ | refine blk_drew ?_ | refine blk_alloc ?_ _)); refine blk_far ?_ NB241_249.out _; (with_reducible repeat (first | refine blk_drewN ?_ _ | refine blk_drew ?_ | refine blk_alloc ?_ _)); refine blk_far ?_ NB241_249.out _; (with_reducible repeat (first | refine blk_drewN ?_ _ | refine blk_drew ?_ | refine blk_alloc ?_ _)); refine blk_far ?_ NB241_249.out _; (with_reducible repeat (first | refine blk_drewN ?_ _ | refine blk_drew ?_ | refine blk_alloc ?_ _)); refine blk_far ?_ NB241_249.out _; (with_reducible repeat (first | refine blk_drewN ?_ _ | refine blk_drew ?_ | refine blk_alloc ?_ _)); exact BK241.out⟩
 have n1_ : Aside0 ((((((w8.setCell ⟨gb249, 0, none⟩ (.int .i64 t242)).setCell ⟨gb249, 1, none⟩ (.int .i64 t243)).setCell ⟨gb249, 2, none⟩ (.int .i64 t244)).setCell ⟨gb249, 3, none⟩ (.int .i64 t245)).setCell ⟨gb249, 4, none⟩ (.int .i64 t246)).heap[gb249]? = some (.cells #[.int .i64 t242, .int .i64 t243, .int .i64 t244, .int .i64 t245, .int .i64 t246] 71 (0, 0))) := ⟨by (with_reducible repeat (first | refine blk_drewN ?_ _ | refine blk_drew ?_ | refine blk_alloc ?_ _)); refine blk_put (cs := zr11 t242 t243 t244 t245 0) ?_ 4 _ rfl; refine blk_put (cs := zr11 t242 t243 t244 0 0) ?_ 3 _ rfl; refine blk_put (cs := zr11 t242 t243 0 0 0) ?_ 2 _ rfl; refine blk_put (cs := zr11 t242 0 0 0 0) ?_ 1 _ rfl; refine blk_put (cs := zr11 0 0 0 0 0) ?_ 0 _ rfl; (with_reducible repeat (first | refine blk_drewN ?_ _ | refine blk_drew ?_ | refine blk_alloc ?_ _)); exact BK249.out⟩
 have n2_ : Aside0 (IsS95 w0 (((((w8.setCell ⟨gb249, 0, none⟩ (.int .i64 t242)).setCell ⟨gb249, 1, none⟩ (.int .i64 t243)).setCell ⟨gb249, 2, none⟩ (.int .i64 t244)).setCell ⟨gb249, 3, none⟩ (.int .i64 t245)).setCell ⟨gb249, 4, none⟩ (.int .i64 t246)) g s0_0 t247 t248) := ⟨s10_0⟩
 have n3_ : Aside0 (KeepBut w (((((w8.setCell ⟨gb249, 0, none⟩ (.int .i64 t242)).setCell ⟨gb249, 1, none⟩ (.int .i64 t243)).setCell ⟨gb249, 2, none⟩ (.int .i64 t244)).setCell ⟨gb249, 3, none⟩ (.int .i64 t245)).setCell ⟨gb249, 4, none⟩ (.int .i64 t246)) g none) := ⟨s10_2⟩
 have n4_ : Aside0 (Below w0.heap.size w0 (((((w8.setCell ⟨gb249, 0, none⟩ (.int .i64 t242)).setCell ⟨gb249, 1, none⟩ (.int .i64 t243)).setCell ⟨gb249, 2, none⟩ (.int .i64 t244)).setCell ⟨gb249, 3, none⟩ (.int .i64 t245)).setCell ⟨gb249, 4, none⟩ (.int .i64 t246))) := ⟨s10_1⟩
 (try clear BK241)
 (try clear BK249)
 (try clear HI0)
 (try clear HK)
 (try clear HB)
 (try simp only [show ∀ (w_ : World) (n_ : Nat) (a_ : Addr) (v_ : Value), (w_.drewN n_).setCell a_ v_ = (w_.setCell a_ v_).drewN n_ from fun _ _ _ _ => rfl, show ∀ (w_ : World) (a_ : Addr) (v_ : Value), w_.drew.setCell a_ v_ = (w_.setCell a_ v_).drew from fun _ _ _ => rfl])
 generalize (((((w8.setCell ⟨gb249, 0, none⟩ (.int .i64 t242)).setCell ⟨gb249, 1, none⟩ (.int .i64 t243)).setCell ⟨gb249, 2, none⟩ (.int .i64 t244)).setCell ⟨gb249, 3, none⟩ (.int .i64 t245)).setCell ⟨gb249, 4, none⟩ (.int .i64 t246)) = w12 at n0_ n1_ n2_ n3_ n4_ ⊢
 have BK241 := n0_
 have BK249 := n1_
 have HI0 := n2_
 have HK := n3_
 have HB := n4_
 clear n0_ n1_ n2_ n3_ n4_
 have n0_ := am (blk_drew BK241.out)
 have n1_ := am (blk_drew BK249.out)
 have n2_ := am (IsS95.drew HI0.out)
 have n3_ := am (keep_drew HK.out)
 have n4_ := am (below_drew1 HB.out)
 clear BK241 BK249 HI0 HK HB
 have BK241 := n0_
 have BK249 := n1_
 have HI0 := n2_
 have HK := n3_
 have HB := n4_
 clear n0_ n1_ n2_ n3_ n4_
 refine start_ (n := 12) (S := fun w' => zc7 w' gb249 t242 t243 t244 t245 t246) (ds := []) #[false, false, false, false, false, false, false, false, false, false, false, false] (by kernel_rfl) rfl rfl ⟨(blk_cell BK249.out 0).trans rfl, (blk_cell BK249.out 1).trans rfl, (blk_cell BK249.out 2).trans rfl, (blk_cell BK249.out 3).trans rfl, (blk_cell BK249.out 4).trans rfl⟩ (fun hHeld => ?_); refine with_tabW spec_l6Nozzle.tab2 spec_l6Nozzle.bits2 (fun HT_ HW_ => ?_)
 generalize w12.drew = w13 at BK241 BK249 HI0 HK HB hHeld ⊢
 refine pz 0 10 #[true, false, false, false, false, false, false, false, false, false, false, false] (any_of HT_.out (by kernel_rfl)) ?_
 refine pz 1 11 #[true, true, false, false, false, false, false, false, false, false, false, false] (any_of HT_.out (by kernel_rfl)) ?_
 refine pz 2 12 #[true, true, true, false, false, false, false, false, false, false, false, false] (any_of HT_.out (by kernel_rfl)) ?_
 refine pz 4 14 #[true, true, true, false, true, false, false, false, false, false, false, false] (any_of HT_.out (by kernel_rfl)) ?_
 refine pz 6 16 #[true, true, true, false, true, false, true, false, false, false, false, false] (any_of HT_.out (by kernel_rfl)) ?_
 refine pz 8 18 #[true, true, true, false, true, false, true, false, true, false, false, false] (any_of HT_.out (by kernel_rfl)) ?_
 refine take_ (i := 3) (N := some 13) (v := ?_) (a' := ?_) #[true, true, true, true, true, false, true, false, true, false, false, false] rfl rfl (take_ofW HT_.out HW_.out (by kernel_rfl)) (fun _ _ _ h => h) (Or.inl ⟨by rfl, ?_⟩) hHeld ?_ ?_
 rotate_left
 ·rintro w' ⟨s0, s1, s2, s3, s4⟩
  exact gs
 rotate_left
 ·exact ap
 refine take_ (i := 5) (N := some 15) (v := ?_) (a' := ?_) #[true, true, true, true, true, true, true, false, true, false, false, false] rfl rfl (take_ofW HT_.out HW_.out (by kernel_rfl)) (fun _ _ _ h => h) (Or.inl ⟨by rfl, ?_⟩) hHeld ?_ ?_
 rotate_left
 ·rintro w' ⟨s0, s1, s2, s3, s4⟩
  exact gs
 rotate_left
 ·exact ap
 refine take_ (i := 7) (N := some 17) (v := ?_) (a' := ?_) #[true, true, true, true, true, true, true, true, true, false, false, false] rfl rfl (take_ofW HT_.out HW_.out (by kernel_rfl)) (fun _ _ _ h => h) (Or.inl ⟨by rfl, ?_⟩) hHeld ?_ ?_
 rotate_left
 ·rintro w' ⟨s0, s1, s2, s3, s4⟩
  exact gs
 rotate_left
 ·exact ap
 refine one_ (i := 9) (N := some 19) #[true, true, true, true, true, true, true, true, true, true, false, false] rfl rfl (one_of HT_.out (by kernel_rfl)) (by decide) (fun K hK => ?_)
 refine goes_ Try.func104 (by kernel_rfl) rfl #[.pointer (some ⟨g, 0, none⟩), .int .i64 0, .int .i64 32] (by rfl) rfl rfl u10_1 ?_
 with_reducible refine (spec_l1Some.calls g s0_0 t247 t248 0 32 t250 t251 t252 w0 _ ?side1 ?side2 A5.out).mono ?_
 (case side1 => exact s10_0)
 (case side2 => exact s10_1)
 rintro e w14 ⟨rfl, hi, hb, hk⟩
 refine ⟨_, rfl, ?_⟩
 have n0_ := am (KeepBut.blk hk (g' := gb241) (o := zo0 (⟨#[]⟩ : ByteArray) 0 (⟨#[]⟩ : ByteArray) 0 0 0 0 0) u10_4 NB241_0.out (by simp))
 have n1_ := am (KeepBut.blk hk (g' := gb249) (o := zo9 t242 t243 t244 t245 t246) (by (with_reducible repeat (first | refine blk_drewN ?_ _ | refine blk_drew ?_ | refine blk_alloc ?_ _)); exact BK249.out) NB249_0.out (by simp))
 have n2_ := am (KeepBut.trans (by repeat (first | (with_reducible first | exact HK.out | apply KeepBut.set_ | apply keep_drewN | apply keep_drew | apply keep_alloc | refine keep_far ?_ GW241.out _ | refine keep_far ?_ GW249.out _) | exact HK.out)) hk (.inl rfl))
 have n3_ := am (hb)
 have n4_ := am (hi)
 clear BK241 BK249 HK HB HI0
 have BK241 := n0_
 have BK249 := n1_
 have HK := n2_
 have HB := n3_
 have HI0 := n4_
 clear n0_ n1_ n2_ n3_ n4_
 (try clear hb)
 (try clear hb2)
 (try clear hk)
 (try clear hi)
 refine hK.out _ _ ⟨(blk_cell BK249.out 0).trans rfl, (blk_cell BK249.out 1).trans rfl, (blk_cell BK249.out 2).trans rfl, (blk_cell BK249.out 3).trans rfl, (blk_cell BK249.out 4).trans rfl⟩ (fun hHeld => ?_)
 clear hK K
 refine norm_ (a' := ?_) ?_ ?_
 rotate_left
 ·show Act.put _ (some 19) _ = _
  simp only [Act.put, List.setIfInBounds_toArray, List.set_cons_zero, List.set_cons_succ, i64_w, i32_w]
  rfl
 refine pz 10 20 #[true, true, true, true, true, true, true, true, true, true, true, false] (any_of HT_.out (by kernel_rfl)) ?_
 refine one_ (i := 11) (N := none) #[true, true, true, true, true, true, true, true, true, true, true, true] rfl rfl (one_of HT_.out (by kernel_rfl)) (by decide) (fun K hK => ?_)
 have hs15 : w14.cell? ⟨gb241, 0, none⟩ = some (.string (⟨#[]⟩ : ByteArray)) := (blk_cell BK241.out 0).trans rfl
 have hfs15 := blk_frozen BK241.out 0
 have hns15_1 := NB249_241.out
 have hms15_1 := NB241_249.out
 have hs16 : w14.cell? ⟨gb241, 1, none⟩ = some (.int .i64 0) := (blk_cell BK241.out 1).trans rfl
 have hfs16 := blk_frozen BK241.out 1
 have hns16_1 := NB249_241.out
 have hms16_1 := NB241_249.out
 have hs17 : w14.cell? ⟨gb241, 2, none⟩ = some (.string (⟨#[]⟩ : ByteArray)) := (blk_cell BK241.out 2).trans rfl
 have hfs17 := blk_frozen BK241.out 2
 have hns17_1 := NB249_241.out
 have hms17_1 := NB241_249.out
 have hs18 : w14.cell? ⟨gb241, 3, none⟩ = some (.int .i64 0) := (blk_cell BK241.out 3).trans rfl
 have hfs18 := blk_frozen BK241.out 3
 have hns18_1 := NB249_241.out
 have hms18_1 := NB241_249.out
 have hs19 : w14.cell? ⟨gb241, 4, none⟩ = some (.int .i64 0) := (blk_cell BK241.out 4).trans rfl
 have hfs19 := blk_frozen BK241.out 4
 have hns19_1 := NB249_241.out
 have hms19_1 := NB241_249.out
 have hs20 : w14.cell? ⟨gb241, 5, none⟩ = some (.int .i64 0) := (blk_cell BK241.out 5).trans rfl
 have hfs20 := blk_frozen BK241.out 5
 have hns20_1 := NB249_241.out
 have hms20_1 := NB241_249.out
 have hs21 : w14.cell? ⟨gb241, 6, none⟩ = some (.int .i64 0) := (blk_cell BK241.out 6).trans rfl
 have hfs21 := blk_frozen BK241.out 6
 have hns21_1 := NB249_241.out
 have hms21_1 := NB241_249.out
 have hs22 : w14.cell? ⟨gb241, 7, none⟩ = some (.int .i64 0) := (blk_cell BK241.out 7).trans rfl
 have hfs22 := blk_frozen BK241.out 7
 have hns22_1 := NB249_241.out
 have hms22_1 := NB241_249.out
 refine skip_ (w1 := ?_) (by rfl) rfl ?_ ?_
 rotate_left
 ·go_simp
  rfl
 refine hK.out _ _ ⟨((cell_far (p := ⟨gb241, _, none⟩) NB249_241.out _).trans (((cell_far (p := ⟨gb241, _, none⟩) NB249_241.out _).trans (((cell_far (p := ⟨gb241, _, none⟩) NB249_241.out _).trans (((cell_far (p := ⟨gb241, _, none⟩) NB249_241.out _).trans (((cell_far (p := ⟨gb241, _, none⟩) NB249_241.out _).trans (((cell_far (p := ⟨gb241, _, none⟩) NB249_241.out _).trans (((cell_far (p := ⟨gb241, _, none⟩) NB249_241.out _).trans (((cell_far (p := ⟨gb241, _, none⟩) NB249_241.out _).trans (hHeld.1)))))))))))))))), ((cell_far (p := ⟨gb241, _, none⟩) NB249_241.out _).trans (((cell_far (p := ⟨gb241, _, none⟩) NB249_241.out _).trans (((cell_far (p := ⟨gb241, _, none⟩) NB249_241.out _).trans (((cell_far (p := ⟨gb241, _, none⟩) NB249_241.out _).trans (((cell_far (p := ⟨gb241, _, none⟩) NB249_241.out _).trans (((cell_far (p := ⟨gb241, _, none⟩) NB249_241.out _).trans (((cell_far (p := ⟨gb241, _, none⟩) NB249_241.out _).trans (((cell_far (p := ⟨gb241, _, none⟩) NB249_241.out _).trans (hHeld.2.1)))))))))))))))), ((cell_far (p := ⟨gb241, _, none⟩) NB249_241.out _).trans (((cell_far (p := ⟨gb241, _, none⟩) NB249_241.out _).trans (((cell_far (p := ⟨gb241, _, none⟩) NB249_241.out _).trans (((cell_far (p := ⟨gb241, _, none⟩) NB249_241.out _).trans (((cell_far (p := ⟨gb241, _, none⟩) NB249_241.out _).trans (((cell_far (p := ⟨gb241, _, none⟩) NB249_241.out _).trans (((cell_far (p := ⟨gb241, _, none⟩) NB249_241.out _).trans (((cell_far (p := ⟨gb241, _, none⟩) NB249_241.out _).trans (hHeld.2.2.1)))))))))))))))), ((cell_far (p := ⟨gb241, _, none⟩) NB249_241.out _).trans (((cell_far (p := ⟨gb241, _, none⟩) NB249_241.out _).trans (((cell_far (p := ⟨gb241, _, none⟩) NB249_241.out _).trans (((cell_far (p := ⟨gb241, _, none⟩) NB249_241.out _).trans (((cell_far (p := ⟨gb241, _, none⟩) NB249_241.out _).trans (((cell_far (p := ⟨gb241, _, none⟩) NB249_241.out _).trans (((cell_far (p := ⟨gb241, _, none⟩) NB249_241.out _).trans (((cell_far (p := ⟨gb241, _, none⟩) NB249_241.out _).trans (hHeld.2.2.2.1)))))))))))))))), ((cell_far (p := ⟨gb241, _, none⟩) NB249_241.out _).trans (((cell_far (p := ⟨gb241, _, none⟩) NB249_241.out _).trans (((cell_far (p := ⟨gb241, _, none⟩) NB249_241.out _).trans (((cell_far (p := ⟨gb241, _, none⟩) NB249_241.out _).trans (((cell_far (p := ⟨gb241, _, none⟩) NB249_241.out _).trans (((cell_far (p := ⟨gb241, _, none⟩) NB249_241.out _).trans (((cell_far (p := ⟨gb241, _, none⟩) NB249_241.out _).trans (((cell_far (p := ⟨gb241, _, none⟩) NB249_241.out _).trans (hHeld.2.2.2.2))))))))))))))))⟩ (fun hHeld => ?_)
 clear hK K
 refine done_ (done_of HT_.out (by kernel_rfl)) ?_
 try go_wp2
 refine bodyPost_ret (results_cell_row rfl _ _ gb241 30 #[.string a1, .int .i64 2, .string a2, .int .i64 t242, .int .i64 t243, .int .i64 t244, .int .i64 t245, .int .i64 t250] (0, 0) _ rfl (by (with_reducible repeat (first | refine blk_drewN ?_ _ | refine blk_drew ?_ | refine blk_alloc ?_ _)); refine blk_put (cs := zr5 a1 2 a2 t242 t243 t244 t245 0) ?_ 7 _ rfl; refine blk_put (cs := zr5 a1 2 a2 t242 t243 t244 0 0) ?_ 6 _ rfl; refine blk_put (cs := zr5 a1 2 a2 t242 t243 0 0 0) ?_ 5 _ rfl; refine blk_put (cs := zr5 a1 2 a2 t242 0 0 0 0) ?_ 4 _ rfl; refine blk_put (cs := zr5 a1 2 a2 0 0 0 0 0) ?_ 3 _ rfl; refine blk_put (cs := zr5 a1 2 (⟨#[]⟩ : ByteArray) 0 0 0 0 0) ?_ 2 _ rfl; (with_reducible repeat (first | refine blk_drewN ?_ _ | refine blk_drew ?_ | refine blk_alloc ?_ _)); refine blk_put (cs := zr5 a1 0 (⟨#[]⟩ : ByteArray) 0 0 0 0 0) ?_ 1 _ rfl; (with_reducible repeat (first | refine blk_drewN ?_ _ | refine blk_drew ?_ | refine blk_alloc ?_ _)); refine blk_put (cs := zr5 (⟨#[]⟩ : ByteArray) 0 (⟨#[]⟩ : ByteArray) 0 0 0 0 0) ?_ 0 _ rfl; (with_reducible repeat (first | refine blk_drewN ?_ _ | refine blk_drew ?_ | refine blk_alloc ?_ _)); exact BK241.out) Try.underlying30 rfl (by kernel_rfl)) rfl ?_
 exact ⟨by first | rfl | (simp [*] <;> rfl), s10_0, s10_1, s10_2⟩

/-! ### spec_l1Str: function 86 -/
def spec_l1Str.f (s0_0 : List Int) (s0_1 : Int) (s0_2 : Int) (l1 : List ByteArray) : Option (ByteArray × Int × Int) := (spec_l1Below.f s0_0 s0_1 s0_2 (l1.length : Int)).bind fun bt253 => (if 0 ≤ bt253.1 then (if bt253.1 < (l1.length : Int) then (some (rdOf ByteArray.empty l1 bt253.1, bt253.2.1, bt253.2.2)) else (none)) else (none))
set_option maxHeartbeats 8000000 in
set_option maxRecDepth 100000 in
theorem spec_l1Str.calls (g : Nat) (s0_0 : List Int) (s0_1 : Int) (s0_2 : Int) (A1 : Option Addr) (c1 : Nat) (l1 : List ByteArray) (r1 : ByteArray) (r2 : Int) (r3 : Int) (w0 w : World) (hI : IsS95 w0 w g s0_0 s0_1 s0_2) (hB : Below w0.heap.size w0 w) (hr1 : Kd.C Kd.string w A1 l1.length l1) (hc1 : l1.length ≤ c1) (hf1 : ∀ ad, A1 = some ad → 0 < l1.length → ad.block ≠ g) (h : spec_l1Str.f s0_0 s0_1 s0_2 l1 = some (r1, r2, r3)) :
  Calls Try.prog 86 #[.pointer (some ⟨g, 0, none⟩), .slice A1 l1.length c1] w fun e w' => e = .returned (.string r1) ∧ IsS95 w0 w' g s0_0 r2 r3 ∧ Below w0.heap.size w0 w' ∧ KeepBut w w' g none := by
 have HR1 := am hr1
 have HC1 := am hc1
 clear hr1 hc1
 have HI0 := am hI
 have HK := am (KeepBut.refl w g none)
 have HL := am hB.size
 clear hI
 have HW0 := am hB.size
 have HB := am hB
 clear hB
 have H : ((spec_l1Below.f s0_0 s0_1 s0_2 (l1.length : Int)).bind fun bt253 => (if 0 ≤ bt253.1 then (if bt253.1 < (l1.length : Int) then (some (rdOf ByteArray.empty l1 bt253.1, bt253.2.1, bt253.2.2)) else (none)) else (none))) = some (r1, r2, r3) := h
 clear h
 replace H := Option.bind_eq_some_iff.mp H
 obtain ⟨⟨t253, t254, t255⟩, A30, H⟩ := H
 replace H : (if 0 ≤ t253 then (if t253 < (l1.length : Int) then (some (rdOf ByteArray.empty l1 t253, t254, t255)) else (none)) else (none)) = some (r1, r2, r3) := H
 have A3 := am A30
 clear A30
 by_cases c4 : 0 ≤ t253
 ·rw [if_pos c4] at H
  have c4b0 : decide (0 ≤ t253) = true := decide_eq_true c4
  clear c4
  by_cases c5 : t253 < (l1.length : Int)
  ·rw [if_pos c5] at H
   have c5b0 : decide (t253 < (l1.length : Int)) = true := decide_eq_true c5
   clear c5
   simp only [Option.some.injEq, Prod.mk.injEq] at H
   obtain ⟨rfl, rfl, rfl⟩ := H
   go_enter Try.func86, Try.ntmps86
   go_wp2_with (first | ((with_reducible refine gate_callee (f := 84) rfl ?_); refine goesL_ (some 9) rfl rfl Try.func84 (by kernel_rfl) rfl #[.pointer (some ⟨g, 0, none⟩), .int .i64 (l1.length : Int)] rfl u10_1 ?_; (with_reducible refine (spec_l1Below.calls g s0_0 s0_1 s0_2 (l1.length : Int) t253 t254 t255 w0 _ ?side1 ?side2 A3.out).mono ?_); (case side1 => exact s10_8); (case side2 => exact s10_7); rintro e w6 ⟨rfl, hi, hb, hk⟩; refine ⟨_, rfl, ?_⟩; have n0_ := am (KeepBut.trans u10_0 hk (.inl rfl)); have n1_ := am (hb); have n2_ := am (hi); clear HK HB HI0; have HK := n0_; have HB := n1_; have HI0 := n2_; clear n0_ n1_ n2_; (try clear hb); (try clear hb2); (try clear hk); (try clear hi); have p256 : 0 ≤ (t253 : Int) := od (by assumption); have q256 : t253 < (l1.length : Int) := od (by assumption); obtain ⟨ad256, e256, hx256_0⟩ := Kd.at_string HR1.out t253 p256 q256; cases e256; replace hx256_0 := keep_cell HK.out hx256_0 (by first | (rw [add_block]; exact hf1 _ rfl (by omega)) | exact hf1 _ rfl (by omega) | exact hf1 ad256 rfl (by omega)); replace p256 := eq_true p256; replace q256 := eq_true q256))
   go_ret
   exact ⟨by first | rfl | (simp [*] <;> rfl), s10_8, s10_7, s10_9⟩
  ·rw [if_neg c5] at H
   exact absurd H (by simp)
 ·rw [if_neg c4] at H
  exact absurd H (by simp)

/-! ### spec_l1Once: function 87 -/
def spec_l1Once.f (s0_0 : List Int) (s0_1 : Int) (s0_2 : Int) (a1 : Int) : Option (Bool × Int × Int) := (spec_l1Below.f s0_0 s0_1 s0_2 a1).bind fun bt257 => (some ((bt257.1 == 0), bt257.2.1, bt257.2.2))
set_option maxHeartbeats 8000000 in
set_option maxRecDepth 100000 in
theorem spec_l1Once.calls (g : Nat) (s0_0 : List Int) (s0_1 : Int) (s0_2 : Int) (a1 : Int) (r1 : Bool) (r2 : Int) (r3 : Int) (w0 w : World) (hI : IsS95 w0 w g s0_0 s0_1 s0_2) (hB : Below w0.heap.size w0 w) (h : spec_l1Once.f s0_0 s0_1 s0_2 a1 = some (r1, r2, r3)) :
  Calls Try.prog 87 #[.pointer (some ⟨g, 0, none⟩), .int .i64 a1] w fun e w' => e = .returned (.bool r1) ∧ IsS95 w0 w' g s0_0 r2 r3 ∧ Below w0.heap.size w0 w' ∧ KeepBut w w' g none := by
 have HI0 := am hI
 have HK := am (KeepBut.refl w g none)
 have HL := am hB.size
 clear hI
 have HW0 := am hB.size
 have HB := am hB
 clear hB
 have H : ((spec_l1Below.f s0_0 s0_1 s0_2 a1).bind fun bt257 => (some ((bt257.1 == 0), bt257.2.1, bt257.2.2))) = some (r1, r2, r3) := h
 clear h
 replace H := Option.bind_eq_some_iff.mp H
 obtain ⟨⟨t257, t258, t259⟩, A30, H⟩ := H
 replace H : (some ((t257 == 0), t258, t259)) = some (r1, r2, r3) := H
 have A3 := am A30
 clear A30
 simp only [Option.some.injEq, Prod.mk.injEq] at H
 obtain ⟨rfl, rfl, rfl⟩ := H
 go_enter Try.func87, Try.ntmps87
 go_wp2_with (first | ((with_reducible refine gate_callee (f := 84) rfl ?_); refine goesL_ (some 7) rfl rfl Try.func84 (by kernel_rfl) rfl #[.pointer (some ⟨g, 0, none⟩), .int .i64 a1] rfl u10_1 ?_; (with_reducible refine (spec_l1Below.calls g s0_0 s0_1 s0_2 a1 t257 t258 t259 w0 _ ?side1 ?side2 A3.out).mono ?_); (case side1 => exact s10_8); (case side2 => exact s10_7); rintro e w4 ⟨rfl, hi, hb, hk⟩; refine ⟨_, rfl, ?_⟩; have n0_ := am (KeepBut.trans u10_0 hk (.inl rfl)); have n1_ := am (hb); have n2_ := am (hi); clear HK HB HI0; have HK := n0_; have HB := n1_; have HI0 := n2_; clear n0_ n1_ n2_; (try clear hb); (try clear hb2); (try clear hk); (try clear hi)))
 go_ret
 exact ⟨by first | rfl | (simp [*] <;> rfl), s10_8, s10_7, s10_9⟩

end Go.Proofs.Ytkedcokhcgklpaa.MFnLines
