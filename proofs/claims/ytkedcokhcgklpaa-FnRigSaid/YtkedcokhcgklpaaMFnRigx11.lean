-- Written by a program for this claim.
import Derived.Test.YtkedcokhcgklpaaMFnRigx0
import Derived.Test.YtkedcokhcgklpaaMFnRigx6
import Derived.Test.YtkedcokhcgklpaaMFnRigx10
namespace Go.Proofs.Ytkedcokhcgklpaa.MFnRig
open Go.RowKit Go.Proofs.YtkedcokhcgklpaaW.PrintWords Go.Proofs.YtkedcokhcgklpaaW.PrintLast Go.Proofs.YtkedcokhcgklpaaW.PrintMore
attribute [local go_sem] max2_int min2_int max_two min_two max_three min_three max_four min_four   -- for this text's walks alone
set_option linter.unusedVariables false
set_option linter.unusedSimpArgs false

theorem s11_0 {p : Prop} (h : p := by repeat (first | (with_reducible first | exact HI0.out | apply IsS95.alloc | apply IsS95.drewN | apply IsS95.drew | apply IsS95.set_1 | apply IsS95.set_2 | refine IsS95.far ?_ NB0_285.out _ | refine IsS95.far ?_ NB0_293.out _) | exact HI0.out)) : p := h
theorem s11_1 {p : Prop} (h : p := by repeat (first | (with_reducible first | exact HB.out | apply below_alloc | apply pw_below_drewN | apply below_drew1 | refine below_set ?_ (IsS95.ge HI0.out) | refine below_set ?_ GE285.out | refine below_set ?_ GE293.out) | exact HB.out)) : p := h
theorem s11_2 {p : Prop} (h : p := by repeat (first | (with_reducible first | exact HK.out | apply KeepBut.set_ | apply keep_drewN | apply keep_drew | apply keep_alloc | refine keep_far ?_ GW285.out _ | refine keep_far ?_ GW293.out _) | exact HK.out)) : p := h
theorem s11_3 {p : Prop} (h : p := by repeat (first | (with_reducible first | exact HI0.out | apply IsS95.alloc | apply IsS95.drewN | apply IsS95.drew | apply IsS95.set_1 | apply IsS95.set_2 | refine IsS95.far ?_ NB0_264.out _) | exact HI0.out)) : p := h
theorem s11_4 {p : Prop} (h : p := by repeat (first | (with_reducible first | exact HI0.out | apply IsS95.alloc | apply IsS95.drewN | apply IsS95.drew | apply IsS95.set_1 | apply IsS95.set_2 | refine IsS95.far ?_ NB0_271.out _) | exact HI0.out)) : p := h
theorem s11_5 {p : Prop} (h : p := by repeat (first | (with_reducible first | exact HB.out | apply below_alloc | apply pw_below_drewN | apply below_drew1 | refine below_set ?_ (IsS95.ge HI0.out) | refine below_set ?_ GE264.out) | exact HB.out)) : p := h
theorem s11_6 {p : Prop} (h : p := by repeat (first | (with_reducible first | exact HB.out | apply below_alloc | apply pw_below_drewN | apply below_drew1 | refine below_set ?_ (IsS95.ge HI0.out) | refine below_set ?_ GE271.out) | exact HB.out)) : p := h
theorem s11_7 {p : Prop} (h : p := by repeat (first | (with_reducible first | exact HB.out | apply below_alloc | apply pw_below_drewN | apply below_drew1 | refine below_set ?_ (IsS95.ge HI0.out)) | exact HB.out)) : p := h
theorem s11_8 {p : Prop} (h : p := by repeat (first | (with_reducible first | exact HI0.out | apply IsS95.alloc | apply IsS95.drewN | apply IsS95.drew | apply IsS95.set_1 | apply IsS95.set_2) | exact HI0.out)) : p := h
theorem s11_9 {p : Prop} (h : p := by repeat (first | (with_reducible first | exact HK.out | apply KeepBut.set_ | apply keep_drewN | apply keep_drew | apply keep_alloc) | exact HK.out)) : p := h
theorem y11_0 {p : Prop} (h : p := by repeat (first | exact (Kd.R_reads' HO_3.out).2.2 | (with_reducible refine Kd.C_alloc ?_ _) | (with_reducible refine Kd.C_drewN ?_ _) | (with_reducible refine Kd.C_drew ?_))) : p := h
theorem u11_0 {p : Prop} (h : p := by repeat (first | (with_reducible first | exact HK.out | apply KeepBut.set_ | apply keep_drewN | apply keep_drew | apply keep_alloc) | exact HK.out)) : p := h
theorem u11_1 {p : Prop} (h : p := by (try simp only [List.map_toArray, List.map_cons, List.map_nil]); first | done | rfl | (simp only [List.length_drop, List.length_take]; rfl)) : p := h
theorem u11_2 {p : Prop} (h : p := by repeat (first | (with_reducible first | exact HB.out | apply below_alloc | apply pw_below_drewN | apply below_drew1 | refine below_set ?_ (IsS95.ge HI0.out)) | exact HB.out)) : p := h
theorem u11_3 {p : Prop} (h : p := by repeat (first | (with_reducible first | exact HI0.out | apply IsS95.alloc | apply IsS95.drewN | apply IsS95.drew | apply IsS95.set_1 | apply IsS95.set_2) | exact HI0.out)) : p := h
theorem u11_4 {p : Prop} (h : p := by (with_reducible repeat (first | apply Kd.R_alloc | apply Kd.R_drewN | apply Kd.R_drew)); exact HO_3.out) : p := h
theorem u11_5 {p : Prop} (h : p := by (with_reducible repeat (first | apply Kd.R_alloc | apply Kd.R_drewN | apply Kd.R_drew)); exact HO_7.out) : p := h
theorem u11_6 {p : Prop} (h : p := by (with_reducible repeat (first | apply Kd.R_alloc | apply Kd.R_drewN | apply Kd.R_drew)); exact HO_4.out) : p := h
theorem u11_7 {p : Prop} (h : p := by repeat (first | (with_reducible first | exact HK.out | apply KeepBut.set_ | apply keep_drewN | apply keep_drew | apply keep_alloc | refine keep_far ?_ GW285.out _) | exact HK.out)) : p := h
theorem u11_8 {p : Prop} (h : p := by repeat (first | (with_reducible first | exact HK.out | apply KeepBut.set_ | apply keep_drewN | apply keep_drew | apply keep_alloc | refine keep_far ?_ GW271.out _) | exact HK.out)) : p := h
theorem u11_9 {p : Prop} (h : p := by (with_reducible repeat (first | refine blk_drewN ?_ _ | refine blk_drew ?_ | refine blk_alloc ?_ _)); exact BK285.out) : p := h
theorem u11_10 {p : Prop} (h : p := by (with_reducible repeat (first | apply Kd.R_alloc | apply Kd.R_drewN | apply Kd.R_drew)); exact HO_16.out) : p := h
theorem u11_11 {p : Prop} (h : p := by (with_reducible repeat (first | refine blk_drewN ?_ _ | refine blk_drew ?_ | refine blk_alloc ?_ _)); exact BK271.out) : p := h
theorem u11_12 {p : Prop} (h : p := by (with_reducible repeat (first | apply Kd.R_alloc | apply Kd.R_drewN | apply Kd.R_drew)); exact HO_36.out) : p := h
theorem u11_13 {p : Prop} (h : p := by (with_reducible repeat (first | apply Kd.R_alloc | apply Kd.R_drewN | apply Kd.R_drew)); exact HO356.out) : p := h
theorem u11_14 {p : Prop} (h : p := by decide) : p := h
theorem u11_15 {p : Prop} (h : p := by first | rfl | (simp; done) | (simp [*]; done)) : p := h
def spec_l2Draw.f (s0_0 : List Int) (s0_1 : Int) (s0_2 : Int) : Option (Int × Int × Int × Int) := (spec_l1Some.f s0_0 s0_1 s0_2 (-64) 64).bind fun bt265 => ((spec_l1Some.f s0_0 bt265.2.1 bt265.2.2 (-64) 64).bind fun bt268 => (some (bt265.1, bt268.1, bt268.2.1, bt268.2.2)))
set_option maxHeartbeats 8000000 in
set_option maxRecDepth 100000 in
theorem spec_l2Draw.calls (g : Nat) (s0_0 : List Int) (s0_1 : Int) (s0_2 : Int) (r1 : Int) (r2 : Int) (r3 : Int) (r4 : Int) (w0 w : World) (hI : IsS95 w0 w g s0_0 s0_1 s0_2) (hB : Below w0.heap.size w0 w) (h : spec_l2Draw.f s0_0 s0_1 s0_2 = some (r1, r2, r3, r4)) :
  Calls Try.prog 88 #[.pointer (some ⟨g, 0, none⟩)] w fun e w' => e = .returned (.agg #[.int .i64 r1, .int .i64 r2]) ∧ IsS95 w0 w' g s0_0 r3 r4 ∧ Below w0.heap.size w0 w' ∧ KeepBut w w' g none := by
 have hu28 := Try.underlying28
 have HI0 := Aside0.mk hI
 have HK := Aside0.mk (KeepBut.refl w g none)
 have HL := Aside0.mk hB.size
 clear hI
 have HW0 := Aside0.mk hB.size
 have HB := Aside0.mk hB
 clear hB
 have H : ((spec_l1Some.f s0_0 s0_1 s0_2 (-64) 64).bind fun bt265 => ((spec_l1Some.f s0_0 bt265.2.1 bt265.2.2 (-64) 64).bind fun bt268 => (some (bt265.1, bt268.1, bt268.2.1, bt268.2.2)))) = some (r1, r2, r3, r4) := h
 clear h
 replace H := Option.bind_eq_some_iff.mp H
 obtain ⟨⟨t265, t266, t267⟩, A20, H⟩ := H
 replace H : ((spec_l1Some.f s0_0 t266 t267 (-64) 64).bind fun bt268 => (some (t265, bt268.1, bt268.2.1, bt268.2.2))) = some (r1, r2, r3, r4) := H
 have A2 := Aside0.mk A20
 clear A20
 replace H := Option.bind_eq_some_iff.mp H
 obtain ⟨⟨t268, t269, t270⟩, A30, H⟩ := H
 replace H : (some (t265, t268, t269, t270)) = some (r1, r2, r3, r4) := H
 have A3 := Aside0.mk A30
 clear A30
 simp only [Option.some.injEq, Prod.mk.injEq] at H
 obtain ⟨rfl, rfl, rfl, rfl⟩ := H
 go_enter Try.func88, Try.ntmps88
 go_wp2_with (first | ((with_reducible refine gate_dst (N := 2) rfl ?_); refine box_event ?hg (N := 2) ?hd (cs := #[.int .i64 0, .int .i64 0]) (t := 28) ?hr ?_; (case hd => rfl); (case hg => rfl); (case hr => exact gq); intro gb264 hg w4 hbox hb; have n0_ := Aside0.mk (IsS95.below u11_3 hb); have n1_ := Aside0.mk (KeepBut.trans u11_0 (KeepBut.of_below hb g none) (.inl rfl)); have n2_ := Aside0.mk (below_step u11_2 hb); have n3_ := Aside0.mk (hbox); have n4_ := Aside0.mk ((by rw [hg]; exact (keep_size (w := w) (g := g) (row := none) u11_0) : w.heap.size ≤ gb264)); have n5_ := Aside0.mk ((Nat.le_trans HW0.out (by rw [hg]; exact (keep_size (w := w) (g := g) (row := none) u11_0) : w.heap.size ≤ gb264) : w0.heap.size ≤ gb264)); have n6_ := Aside0.mk ((by rw [hg]; exact Nat.ne_of_lt (IsS95.lt (show IsS95 w0 _ g s0_0 s0_1 s0_2 from by repeat (first | (with_reducible first | exact HI0.out | apply IsS95.alloc | apply IsS95.drewN | apply IsS95.drew | apply IsS95.set_1 | apply IsS95.set_2) | exact HI0.out))) : g ≠ gb264)); have n7_ := Aside0.mk ((by rw [hg]; exact Nat.ne_of_gt (IsS95.lt (show IsS95 w0 _ g s0_0 s0_1 s0_2 from by repeat (first | (with_reducible first | exact HI0.out | apply IsS95.alloc | apply IsS95.drewN | apply IsS95.drew | apply IsS95.set_1 | apply IsS95.set_2) | exact HI0.out))) : gb264 ≠ g)); clear HI0; clear HK; clear HB; have HI0 := n0_; have HK := n1_; have HB := n2_; have BK264 := n3_; have GW264 := n4_; have GE264 := n5_; have NB0_264 := n6_; have NB264_0 := n7_; clear n0_ n1_ n2_ n3_ n4_ n5_ n6_ n7_; clear hb hbox hg) | ((with_reducible refine gate_callee (f := 104) rfl ?_); refine goesL_ (some 4) rfl rfl Try.func104 (by kernel_rfl) rfl #[.pointer (some ⟨g, 0, none⟩), .int .i64 (-64), .int .i64 64] rfl u11_1 ?_; (with_reducible refine (spec_l1Some.calls g s0_0 s0_1 s0_2 (-64) 64 t265 t266 t267 w0 _ ?side1 ?side2 A2.out).mono ?_); (case side1 => exact s11_3); (case side2 => exact s11_5); rintro e w5 ⟨rfl, hi, hb, hk⟩; refine ⟨_, rfl, ?_⟩; have n0_ := Aside0.mk (KeepBut.blk hk (g' := gb264) (o := .cells #[.int .i64 0, .int .i64 0] 28 (0, 0)) (by (with_reducible repeat (first | refine blk_drewN ?_ _ | refine blk_drew ?_ | refine blk_alloc ?_ _)); exact BK264.out) NB264_0.out (by simp)); have n1_ := Aside0.mk (KeepBut.trans (by repeat (first | (with_reducible first | exact HK.out | apply KeepBut.set_ | apply keep_drewN | apply keep_drew | apply keep_alloc | refine keep_far ?_ GW264.out _) | exact HK.out)) hk (.inl rfl)); have n2_ := Aside0.mk (hb); have n3_ := Aside0.mk (hi); clear BK264; clear HK; clear HB; clear HI0; have BK264 := n0_; have HK := n1_; have HB := n2_; have HI0 := n3_; clear n0_ n1_ n2_ n3_; (try clear hb); (try clear hb2); (try clear hk); (try clear hi)) | ((with_reducible refine gate_callee (f := 104) rfl ?_); refine goesL_ (some 6) rfl rfl Try.func104 (by kernel_rfl) rfl #[.pointer (some ⟨g, 0, none⟩), .int .i64 (-64), .int .i64 64] rfl u11_1 ?_; (with_reducible refine (spec_l1Some.calls g s0_0 t266 t267 (-64) 64 t268 t269 t270 w0 _ ?side1 ?side2 A3.out).mono ?_); (case side1 => exact s11_3); (case side2 => exact s11_5); rintro e w6 ⟨rfl, hi, hb, hk⟩; refine ⟨_, rfl, ?_⟩; have n0_ := Aside0.mk (KeepBut.blk hk (g' := gb264) (o := .cells #[.int .i64 0, .int .i64 0] 28 (0, 0)) (by (with_reducible repeat (first | refine blk_drewN ?_ _ | refine blk_drew ?_ | refine blk_alloc ?_ _)); exact BK264.out) NB264_0.out (by simp)); have n1_ := Aside0.mk (KeepBut.trans (by repeat (first | (with_reducible first | exact HK.out | apply KeepBut.set_ | apply keep_drewN | apply keep_drew | apply keep_alloc | refine keep_far ?_ GW264.out _) | exact HK.out)) hk (.inl rfl)); have n2_ := Aside0.mk (hb); have n3_ := Aside0.mk (hi); clear BK264; clear HK; clear HB; clear HI0; have BK264 := n0_; have HK := n1_; have HB := n2_; have HI0 := n3_; clear n0_ n1_ n2_ n3_; (try clear hb); (try clear hb2); (try clear hk); (try clear hi); have hnb7 := NB264_0.out; have hnc7 := NB0_264.out; obtain ⟨hcz8_0, hcz8_1, hfz8_0, hfz8_1⟩ := cf2 BK264.out))
 refine bodyPost_ret (results_cell_row rfl _ _ gb264 28 #[.int .i64 t265, .int .i64 t268] (0, 0) _ rfl (by (with_reducible repeat (first | refine blk_drewN ?_ _ | refine blk_drew ?_ | refine blk_alloc ?_ _)); refine blk_put (cs := #[.int .i64 t265, .int .i64 0]) ?_ 1 _ rfl; refine blk_put (cs := #[.int .i64 0, .int .i64 0]) ?_ 0 _ rfl; (with_reducible repeat (first | refine blk_drewN ?_ _ | refine blk_drew ?_ | refine blk_alloc ?_ _)); exact BK264.out) Try.underlying28 rfl (by kernel_rfl)) rfl ?_
 exact ⟨by first | rfl | (simp [*] <;> rfl), s11_3, s11_5, by repeat (first | (with_reducible first | exact HK.out | apply KeepBut.set_ | apply keep_drewN | apply keep_drew | apply keep_alloc | refine keep_far ?_ GW264.out _) | exact HK.out)⟩

def spec_l3Draw.f (s0_0 : List Int) (s0_1 : Int) (s0_2 : Int) : Option (Int × Int × Int × Int × Int × Int × Int) := (spec_l2Draw.f s0_0 s0_1 s0_2).bind fun bt272 => ((spec_l1Below.f s0_0 bt272.2.2.1 bt272.2.2.2 4).bind fun bt276 => ((spec_l1Below.f s0_0 bt276.2.1 bt276.2.2 17).bind fun bt279 => ((spec_l1Some.f s0_0 bt279.2.1 bt279.2.2 1 32).bind fun bt282 => (some (bt272.1, bt272.2.1, bt276.1, bt279.1, bt282.1, bt282.2.1, bt282.2.2)))))
set_option maxHeartbeats 8000000 in
set_option maxRecDepth 100000 in
theorem spec_l3Draw.calls (g : Nat) (s0_0 : List Int) (s0_1 : Int) (s0_2 : Int) (r1 : Int) (r2 : Int) (r3 : Int) (r4 : Int) (r5 : Int) (r6 : Int) (r7 : Int) (w0 w : World) (hI : IsS95 w0 w g s0_0 s0_1 s0_2) (hB : Below w0.heap.size w0 w) (h : spec_l3Draw.f s0_0 s0_1 s0_2 = some (r1, r2, r3, r4, r5, r6, r7)) :
  Calls Try.prog 103 #[.pointer (some ⟨g, 0, none⟩)] w fun e w' => e = .returned (.agg #[.int .i64 r1, .int .i64 r2, .int .i64 r3, .int .i64 r4, .int .i64 r5]) ∧ IsS95 w0 w' g s0_0 r6 r7 ∧ Below w0.heap.size w0 w' ∧ KeepBut w w' g none := by
 have hu71 := Try.underlying71
 have HI0 := Aside0.mk hI
 have HK := Aside0.mk (KeepBut.refl w g none)
 have HL := Aside0.mk hB.size
 clear hI
 have HW0 := Aside0.mk hB.size
 have HB := Aside0.mk hB
 clear hB
 have H : ((spec_l2Draw.f s0_0 s0_1 s0_2).bind fun bt272 => ((spec_l1Below.f s0_0 bt272.2.2.1 bt272.2.2.2 4).bind fun bt276 => ((spec_l1Below.f s0_0 bt276.2.1 bt276.2.2 17).bind fun bt279 => ((spec_l1Some.f s0_0 bt279.2.1 bt279.2.2 1 32).bind fun bt282 => (some (bt272.1, bt272.2.1, bt276.1, bt279.1, bt282.1, bt282.2.1, bt282.2.2)))))) = some (r1, r2, r3, r4, r5, r6, r7) := h
 clear h
 replace H := Option.bind_eq_some_iff.mp H
 obtain ⟨⟨t272, t273, t274, t275⟩, A20, H⟩ := H
 replace H : ((spec_l1Below.f s0_0 t274 t275 4).bind fun bt276 => ((spec_l1Below.f s0_0 bt276.2.1 bt276.2.2 17).bind fun bt279 => ((spec_l1Some.f s0_0 bt279.2.1 bt279.2.2 1 32).bind fun bt282 => (some (t272, t273, bt276.1, bt279.1, bt282.1, bt282.2.1, bt282.2.2))))) = some (r1, r2, r3, r4, r5, r6, r7) := H
 have A2 := Aside0.mk A20
 clear A20
 replace H := Option.bind_eq_some_iff.mp H
 obtain ⟨⟨t276, t277, t278⟩, A30, H⟩ := H
 replace H : ((spec_l1Below.f s0_0 t277 t278 17).bind fun bt279 => ((spec_l1Some.f s0_0 bt279.2.1 bt279.2.2 1 32).bind fun bt282 => (some (t272, t273, t276, bt279.1, bt282.1, bt282.2.1, bt282.2.2)))) = some (r1, r2, r3, r4, r5, r6, r7) := H
 have A3 := Aside0.mk A30
 clear A30
 replace H := Option.bind_eq_some_iff.mp H
 obtain ⟨⟨t279, t280, t281⟩, A40, H⟩ := H
 replace H : ((spec_l1Some.f s0_0 t280 t281 1 32).bind fun bt282 => (some (t272, t273, t276, t279, bt282.1, bt282.2.1, bt282.2.2))) = some (r1, r2, r3, r4, r5, r6, r7) := H
 have A4 := Aside0.mk A40
 clear A40
 replace H := Option.bind_eq_some_iff.mp H
 obtain ⟨⟨t282, t283, t284⟩, A50, H⟩ := H
 replace H : (some (t272, t273, t276, t279, t282, t283, t284)) = some (r1, r2, r3, r4, r5, r6, r7) := H
 have A5 := Aside0.mk A50
 clear A50
 simp only [Option.some.injEq, Prod.mk.injEq] at H
 obtain ⟨rfl, rfl, rfl, rfl, rfl, rfl, rfl⟩ := H
 go_enter Try.func103, Try.ntmps103
 go_wp2_with (first | ((with_reducible refine gate_dst (N := 2) rfl ?_); refine box_event ?hg (N := 2) ?hd (cs := #[.int .i64 0, .int .i64 0, .int .i64 0, .int .i64 0, .int .i64 0]) (t := 71) ?hr ?_; (case hd => rfl); (case hg => rfl); (case hr => exact gq); intro gb271 hg w6 hbox hb; have n0_ := Aside0.mk (IsS95.below u11_3 hb); have n1_ := Aside0.mk (KeepBut.trans u11_0 (KeepBut.of_below hb g none) (.inl rfl)); have n2_ := Aside0.mk (below_step u11_2 hb); have n3_ := Aside0.mk (hbox); have n4_ := Aside0.mk ((by rw [hg]; exact (keep_size (w := w) (g := g) (row := none) u11_0) : w.heap.size ≤ gb271)); have n5_ := Aside0.mk ((Nat.le_trans HW0.out (by rw [hg]; exact (keep_size (w := w) (g := g) (row := none) u11_0) : w.heap.size ≤ gb271) : w0.heap.size ≤ gb271)); have n6_ := Aside0.mk ((by rw [hg]; exact Nat.ne_of_lt (IsS95.lt (show IsS95 w0 _ g s0_0 s0_1 s0_2 from by repeat (first | (with_reducible first | exact HI0.out | apply IsS95.alloc | apply IsS95.drewN | apply IsS95.drew | apply IsS95.set_1 | apply IsS95.set_2) | exact HI0.out))) : g ≠ gb271)); have n7_ := Aside0.mk ((by rw [hg]; exact Nat.ne_of_gt (IsS95.lt (show IsS95 w0 _ g s0_0 s0_1 s0_2 from by repeat (first | (with_reducible first | exact HI0.out | apply IsS95.alloc | apply IsS95.drewN | apply IsS95.drew | apply IsS95.set_1 | apply IsS95.set_2) | exact HI0.out))) : gb271 ≠ g)); clear HI0; clear HK; clear HB; have HI0 := n0_; have HK := n1_; have HB := n2_; have BK271 := n3_; have GW271 := n4_; have GE271 := n5_; have NB0_271 := n6_; have NB271_0 := n7_; clear n0_ n1_ n2_ n3_ n4_ n5_ n6_ n7_; clear hb hbox hg) | ((with_reducible refine gate_callee (f := 88) rfl ?_); refine goesL_ (some 4) rfl rfl Try.func88 (by kernel_rfl) rfl #[.pointer (some ⟨g, 0, none⟩)] rfl u11_1 ?_; (with_reducible refine (spec_l2Draw.calls g s0_0 s0_1 s0_2 t272 t273 t274 t275 w0 _ ?side1 ?side2 A2.out).mono ?_); (case side1 => exact s11_4); (case side2 => exact s11_6); rintro e w7 ⟨rfl, hi, hb, hk⟩; refine ⟨_, rfl, ?_⟩; have n0_ := Aside0.mk (KeepBut.blk hk (g' := gb271) (o := .cells #[.int .i64 0, .int .i64 0, .int .i64 0, .int .i64 0, .int .i64 0] 71 (0, 0)) u11_11 NB271_0.out (by simp)); have n1_ := Aside0.mk (KeepBut.trans u11_8 hk (.inl rfl)); have n2_ := Aside0.mk (hb); have n3_ := Aside0.mk (hi); clear BK271; clear HK; clear HB; clear HI0; have BK271 := n0_; have HK := n1_; have HB := n2_; have HI0 := n3_; clear n0_ n1_ n2_ n3_; (try clear hb); (try clear hb2); (try clear hk); (try clear hi)) | ((with_reducible refine gate_callee (f := 84) rfl ?_); refine goesL_ (some 6) rfl rfl Try.func84 (by kernel_rfl) rfl #[.pointer (some ⟨g, 0, none⟩), .int .i64 4] rfl u11_1 ?_; (with_reducible refine (spec_l1Below.calls g s0_0 t274 t275 4 t276 t277 t278 w0 _ ?side1 ?side2 A3.out).mono ?_); (case side1 => exact s11_4); (case side2 => exact s11_6); rintro e w8 ⟨rfl, hi, hb, hk⟩; refine ⟨_, rfl, ?_⟩; have n0_ := Aside0.mk (KeepBut.blk hk (g' := gb271) (o := .cells #[.int .i64 0, .int .i64 0, .int .i64 0, .int .i64 0, .int .i64 0] 71 (0, 0)) u11_11 NB271_0.out (by simp)); have n1_ := Aside0.mk (KeepBut.trans u11_8 hk (.inl rfl)); have n2_ := Aside0.mk (hb); have n3_ := Aside0.mk (hi); clear BK271; clear HK; clear HB; clear HI0; have BK271 := n0_; have HK := n1_; have HB := n2_; have HI0 := n3_; clear n0_ n1_ n2_ n3_; (try clear hb); (try clear hb2); (try clear hk); (try clear hi)) | ((with_reducible refine gate_callee (f := 84) rfl ?_); refine goesL_ (some 8) rfl rfl Try.func84 (by kernel_rfl) rfl #[.pointer (some ⟨g, 0, none⟩), .int .i64 17] rfl u11_1 ?_; (with_reducible refine (spec_l1Below.calls g s0_0 t277 t278 17 t279 t280 t281 w0 _ ?side1 ?side2 A4.out).mono ?_); (case side1 => exact s11_4); (case side2 => exact s11_6); rintro e w9 ⟨rfl, hi, hb, hk⟩; refine ⟨_, rfl, ?_⟩; have n0_ := Aside0.mk (KeepBut.blk hk (g' := gb271) (o := .cells #[.int .i64 0, .int .i64 0, .int .i64 0, .int .i64 0, .int .i64 0] 71 (0, 0)) u11_11 NB271_0.out (by simp)); have n1_ := Aside0.mk (KeepBut.trans u11_8 hk (.inl rfl)); have n2_ := Aside0.mk (hb); have n3_ := Aside0.mk (hi); clear BK271; clear HK; clear HB; clear HI0; have BK271 := n0_; have HK := n1_; have HB := n2_; have HI0 := n3_; clear n0_ n1_ n2_ n3_; (try clear hb); (try clear hb2); (try clear hk); (try clear hi)) | ((with_reducible refine gate_callee (f := 104) rfl ?_); refine goesL_ (some 10) rfl rfl Try.func104 (by kernel_rfl) rfl #[.pointer (some ⟨g, 0, none⟩), .int .i64 1, .int .i64 32] rfl u11_1 ?_; (with_reducible refine (spec_l1Some.calls g s0_0 t280 t281 1 32 t282 t283 t284 w0 _ ?side1 ?side2 A5.out).mono ?_); (case side1 => exact s11_4); (case side2 => exact s11_6); rintro e w10 ⟨rfl, hi, hb, hk⟩; refine ⟨_, rfl, ?_⟩; have n0_ := Aside0.mk (KeepBut.blk hk (g' := gb271) (o := .cells #[.int .i64 0, .int .i64 0, .int .i64 0, .int .i64 0, .int .i64 0] 71 (0, 0)) u11_11 NB271_0.out (by simp)); have n1_ := Aside0.mk (KeepBut.trans u11_8 hk (.inl rfl)); have n2_ := Aside0.mk (hb); have n3_ := Aside0.mk (hi); clear BK271; clear HK; clear HB; clear HI0; have BK271 := n0_; have HK := n1_; have HB := n2_; have HI0 := n3_; clear n0_ n1_ n2_ n3_; (try clear hb); (try clear hb2); (try clear hk); (try clear hi); have hnb11 := NB271_0.out; have hnc11 := NB0_271.out; obtain ⟨hcz12_0, hcz12_1, hcz12_2, hcz12_3, hcz12_4, hfz12_0, hfz12_1, hfz12_2, hfz12_3, hfz12_4⟩ := cf5 BK271.out))
 refine bodyPost_ret (results_cell_row rfl _ _ gb271 71 #[.int .i64 t272, .int .i64 t273, .int .i64 t276, .int .i64 t279, .int .i64 t282] (0, 0) _ rfl (by (with_reducible repeat (first | refine blk_drewN ?_ _ | refine blk_drew ?_ | refine blk_alloc ?_ _)); refine blk_put (cs := #[.int .i64 t272, .int .i64 t273, .int .i64 t276, .int .i64 t279, .int .i64 0]) ?_ 4 _ rfl; refine blk_put (cs := #[.int .i64 t272, .int .i64 t273, .int .i64 t276, .int .i64 0, .int .i64 0]) ?_ 3 _ rfl; refine blk_put (cs := #[.int .i64 t272, .int .i64 t273, .int .i64 0, .int .i64 0, .int .i64 0]) ?_ 2 _ rfl; refine blk_put (cs := #[.int .i64 t272, .int .i64 0, .int .i64 0, .int .i64 0, .int .i64 0]) ?_ 1 _ rfl; refine blk_put (cs := #[.int .i64 0, .int .i64 0, .int .i64 0, .int .i64 0, .int .i64 0]) ?_ 0 _ rfl; (with_reducible repeat (first | refine blk_drewN ?_ _ | refine blk_drew ?_ | refine blk_alloc ?_ _)); exact BK271.out) Try.underlying71 rfl (by kernel_rfl)) rfl ?_
 exact ⟨by first | rfl | (simp [*] <;> rfl), s11_4, s11_6, by repeat (first | (with_reducible first | exact HK.out | apply KeepBut.set_ | apply keep_drewN | apply keep_drew | apply keep_alloc | refine keep_far ?_ GW271.out _) | exact HK.out)⟩

def spec_l6Nozzle.f (s0_0 : List Int) (s0_1 : Int) (s0_2 : Int) (a1 : ByteArray) (a2 : ByteArray) : Option (ByteArray × Int × ByteArray × Int × Int × Int × Int × Int × Int × Int) := (spec_l3Draw.f s0_0 s0_1 s0_2).bind fun bt286 => ((spec_l1Some.f s0_0 bt286.2.2.2.2.2.1 bt286.2.2.2.2.2.2 0 32).bind fun bt294 => (some (a1, 2, a2, bt286.1, bt286.2.1, bt286.2.2.1, bt286.2.2.2.1, bt294.1, bt294.2.1, bt294.2.2)))
def spec_l6Nozzle.T2 : Bool × List (List Nat × List Nat) := (true, [([], []), ([], []), ([], []), ([2], [2]), ([], []), ([4], [4]), ([], []), ([6], [6]), ([], []), ([8], [8]), ([0, 1, 3, 5, 7, 9], [0, 1, 3, 5, 7, 9]), ([10, 9, 0, 1, 2, 3, 4, 5, 6, 7, 8, 9, 10], [10])])
def spec_l6Nozzle.B2 : List Nat := [0, 0, 0, 4, 0, 16, 0, 64, 0, 256, 1023, 2047]
theorem spec_l6Nozzle.tab2 : rtab .any (opsOf Try.f85 2) = spec_l6Nozzle.T2 := by kernel_rfl
theorem spec_l6Nozzle.bits2 : waitsOk spec_l6Nozzle.T2.2 spec_l6Nozzle.B2 = true := by kernel_rfl
set_option maxHeartbeats 8000000 in
set_option maxRecDepth 100000 in
theorem spec_l6Nozzle.calls (g : Nat) (s0_0 : List Int) (s0_1 : Int) (s0_2 : Int) (a1 : ByteArray) (a2 : ByteArray) (r1 : ByteArray) (r2 : Int) (r3 : ByteArray) (r4 : Int) (r5 : Int) (r6 : Int) (r7 : Int) (r8 : Int) (r9 : Int) (r10 : Int) (w0 w : World) (hI : IsS95 w0 w g s0_0 s0_1 s0_2) (hB : Below w0.heap.size w0 w) (h : spec_l6Nozzle.f s0_0 s0_1 s0_2 a1 a2 = some (r1, r2, r3, r4, r5, r6, r7, r8, r9, r10)) :
  Calls Try.prog 85 #[.pointer (some ⟨g, 0, none⟩), .string a1, .string a2] w fun e w' => e = .returned (.agg #[.string r1, .int .i64 r2, .string r3, .int .i64 r4, .int .i64 r5, .int .i64 r6, .int .i64 r7, .int .i64 r8]) ∧ IsS95 w0 w' g s0_0 r9 r10 ∧ Below w0.heap.size w0 w' ∧ KeepBut w w' g none := by
 have hu30 := Try.underlying30
 have hu71 := Try.underlying71
 have hu28 := Try.underlying28
 have HI0 := Aside0.mk hI
 have HK := Aside0.mk (KeepBut.refl w g none)
 have HL := Aside0.mk hB.size
 clear hI
 have HW0 := Aside0.mk hB.size
 have HB := Aside0.mk hB
 clear hB
 have H : ((spec_l3Draw.f s0_0 s0_1 s0_2).bind fun bt286 => ((spec_l1Some.f s0_0 bt286.2.2.2.2.2.1 bt286.2.2.2.2.2.2 0 32).bind fun bt294 => (some (a1, 2, a2, bt286.1, bt286.2.1, bt286.2.2.1, bt286.2.2.2.1, bt294.1, bt294.2.1, bt294.2.2)))) = some (r1, r2, r3, r4, r5, r6, r7, r8, r9, r10) := h
 clear h
 replace H := Option.bind_eq_some_iff.mp H
 obtain ⟨⟨t286, t287, t288, t289, t290, t291, t292⟩, A40, H⟩ := H
 replace H : ((spec_l1Some.f s0_0 t291 t292 0 32).bind fun bt294 => (some (a1, 2, a2, t286, t287, t288, t289, bt294.1, bt294.2.1, bt294.2.2))) = some (r1, r2, r3, r4, r5, r6, r7, r8, r9, r10) := H
 have A4 := Aside0.mk A40
 clear A40
 replace H := Option.bind_eq_some_iff.mp H
 obtain ⟨⟨t294, t295, t296⟩, A50, H⟩ := H
 replace H : (some (a1, 2, a2, t286, t287, t288, t289, t294, t295, t296)) = some (r1, r2, r3, r4, r5, r6, r7, r8, r9, r10) := H
 have A5 := Aside0.mk A50
 clear A50
 simp only [Option.some.injEq, Prod.mk.injEq] at H
 obtain ⟨rfl, rfl, rfl, rfl, rfl, rfl, rfl, rfl, rfl, rfl⟩ := H
 go_enter Try.func85, Try.ntmps85
 try go_wp2_with (first | ((with_reducible refine gate_dst (N := 6) rfl ?_); refine box_event ?hg (N := 6) ?hd (cs := #[.string (⟨#[]⟩ : ByteArray), .int .i64 0, .string (⟨#[]⟩ : ByteArray), .int .i64 0, .int .i64 0, .int .i64 0, .int .i64 0, .int .i64 0]) (t := 30) ?hr ?_; (case hd => rfl); (case hg => rfl); (case hr => exact gq); intro gb285 hg w6 hbox hb; have n0_ := Aside0.mk (IsS95.below u11_3 hb); have n1_ := Aside0.mk (KeepBut.trans u11_0 (KeepBut.of_below hb g none) (.inl rfl)); have n2_ := Aside0.mk (below_step u11_2 hb); have n3_ := Aside0.mk (hbox); have n4_ := Aside0.mk ((by rw [hg]; exact (keep_size (w := w) (g := g) (row := none) u11_0) : w.heap.size ≤ gb285)); have n5_ := Aside0.mk ((Nat.le_trans HW0.out (by rw [hg]; exact (keep_size (w := w) (g := g) (row := none) u11_0) : w.heap.size ≤ gb285) : w0.heap.size ≤ gb285)); have n6_ := Aside0.mk ((by rw [hg]; exact Nat.ne_of_lt (IsS95.lt (show IsS95 w0 _ g s0_0 s0_1 s0_2 from by repeat (first | (with_reducible first | exact HI0.out | apply IsS95.alloc | apply IsS95.drewN | apply IsS95.drew | apply IsS95.set_1 | apply IsS95.set_2) | exact HI0.out))) : g ≠ gb285)); have n7_ := Aside0.mk ((by rw [hg]; exact Nat.ne_of_gt (IsS95.lt (show IsS95 w0 _ g s0_0 s0_1 s0_2 from by repeat (first | (with_reducible first | exact HI0.out | apply IsS95.alloc | apply IsS95.drewN | apply IsS95.drew | apply IsS95.set_1 | apply IsS95.set_2) | exact HI0.out))) : gb285 ≠ g)); clear HI0; clear HK; clear HB; have HI0 := n0_; have HK := n1_; have HB := n2_; have BK285 := n3_; have GW285 := n4_; have GE285 := n5_; have NB0_285 := n6_; have NB285_0 := n7_; clear n0_ n1_ n2_ n3_ n4_ n5_ n6_ n7_; clear hb hbox hg) | ((with_reducible refine gate_callee (f := 103) rfl ?_); refine goesL_ (some 9) rfl rfl Try.func103 (by kernel_rfl) rfl #[.pointer (some ⟨g, 0, none⟩)] rfl u11_1 ?_; (with_reducible refine (spec_l3Draw.calls g s0_0 s0_1 s0_2 t286 t287 t288 t289 t290 t291 t292 w0 _ ?side1 ?side2 A4.out).mono ?_); (case side1 => repeat (first | (with_reducible first | exact HI0.out | apply IsS95.alloc | apply IsS95.drewN | apply IsS95.drew | apply IsS95.set_1 | apply IsS95.set_2 | refine IsS95.far ?_ NB0_285.out _) | exact HI0.out)); (case side2 => repeat (first | (with_reducible first | exact HB.out | apply below_alloc | apply pw_below_drewN | apply below_drew1 | refine below_set ?_ (IsS95.ge HI0.out) | refine below_set ?_ GE285.out) | exact HB.out)); rintro e w7 ⟨rfl, hi, hb, hk⟩; refine ⟨_, rfl, ?_⟩; have n0_ := Aside0.mk (KeepBut.blk hk (g' := gb285) (o := .cells #[.string (⟨#[]⟩ : ByteArray), .int .i64 0, .string (⟨#[]⟩ : ByteArray), .int .i64 0, .int .i64 0, .int .i64 0, .int .i64 0, .int .i64 0] 30 (0, 0)) u11_9 NB285_0.out (by simp)); have n1_ := Aside0.mk (KeepBut.trans u11_7 hk (.inl rfl)); have n2_ := Aside0.mk (hb); have n3_ := Aside0.mk (hi); clear BK285; clear HK; clear HB; clear HI0; have BK285 := n0_; have HK := n1_; have HB := n2_; have HI0 := n3_; clear n0_ n1_ n2_ n3_; (try clear hb); (try clear hb2); (try clear hk); (try clear hi)) | ((with_reducible refine gate_dst (N := 7) rfl ?_); refine box_event ?hg (N := 7) ?hd (cs := #[.int .i64 0, .int .i64 0, .int .i64 0, .int .i64 0, .int .i64 0]) (t := 71) ?hr ?_; (case hd => rfl); (case hg => rfl); (case hr => exact gq); intro gb293 hg w8 hbox hb; have n0_ := Aside0.mk (IsS95.below (by repeat (first | (with_reducible first | exact HI0.out | apply IsS95.alloc | apply IsS95.drewN | apply IsS95.drew | apply IsS95.set_1 | apply IsS95.set_2 | refine IsS95.far ?_ NB0_285.out _) | exact HI0.out)) hb); have n1_ := Aside0.mk (blk_below (g := gb285) (o := .cells #[.string (⟨#[]⟩ : ByteArray), .int .i64 0, .string (⟨#[]⟩ : ByteArray), .int .i64 0, .int .i64 0, .int .i64 0, .int .i64 0, .int .i64 0] 30 (0, 0)) u11_9 hb); have n2_ := Aside0.mk (KeepBut.trans u11_7 (KeepBut.of_below hb g none) (.inl rfl)); have n3_ := Aside0.mk (below_step (by repeat (first | (with_reducible first | exact HB.out | apply below_alloc | apply pw_below_drewN | apply below_drew1 | refine below_set ?_ (IsS95.ge HI0.out) | refine below_set ?_ GE285.out) | exact HB.out)) hb); have n4_ := Aside0.mk (hbox); have n5_ := Aside0.mk ((by rw [hg]; exact (keep_size (w := w) (g := g) (row := none) u11_7) : w.heap.size ≤ gb293)); have n6_ := Aside0.mk ((Nat.le_trans HW0.out (by rw [hg]; exact (keep_size (w := w) (g := g) (row := none) u11_7) : w.heap.size ≤ gb293) : w0.heap.size ≤ gb293)); have n7_ := Aside0.mk ((by rw [hg]; exact Nat.ne_of_lt (blk_lt (g := gb285) (o := .cells #[.string (⟨#[]⟩ : ByteArray), .int .i64 0, .string (⟨#[]⟩ : ByteArray), .int .i64 0, .int .i64 0, .int .i64 0, .int .i64 0, .int .i64 0] 30 (0, 0)) u11_9) : gb285 ≠ gb293)); have n8_ := Aside0.mk ((by rw [hg]; exact Nat.ne_of_gt (blk_lt (g := gb285) (o := .cells #[.string (⟨#[]⟩ : ByteArray), .int .i64 0, .string (⟨#[]⟩ : ByteArray), .int .i64 0, .int .i64 0, .int .i64 0, .int .i64 0, .int .i64 0] 30 (0, 0)) u11_9) : gb293 ≠ gb285)); have n9_ := Aside0.mk ((by rw [hg]; exact Nat.ne_of_lt (IsS95.lt (show IsS95 w0 _ g s0_0 t291 t292 from by repeat (first | (with_reducible first | exact HI0.out | apply IsS95.alloc | apply IsS95.drewN | apply IsS95.drew | apply IsS95.set_1 | apply IsS95.set_2 | refine IsS95.far ?_ NB0_285.out _) | exact HI0.out))) : g ≠ gb293)); have n10_ := Aside0.mk ((by rw [hg]; exact Nat.ne_of_gt (IsS95.lt (show IsS95 w0 _ g s0_0 t291 t292 from by repeat (first | (with_reducible first | exact HI0.out | apply IsS95.alloc | apply IsS95.drewN | apply IsS95.drew | apply IsS95.set_1 | apply IsS95.set_2 | refine IsS95.far ?_ NB0_285.out _) | exact HI0.out))) : gb293 ≠ g)); clear HI0; clear BK285; clear HK; clear HB; have HI0 := n0_; have BK285 := n1_; have HK := n2_; have HB := n3_; have BK293 := n4_; have GW293 := n5_; have GE293 := n6_; have NB285_293 := n7_; have NB293_285 := n8_; have NB0_293 := n9_; have NB293_0 := n10_; clear n0_ n1_ n2_ n3_ n4_ n5_ n6_ n7_ n8_ n9_ n10_; clear hb hbox hg; have hnb9 := NB293_285.out; have hnc9 := NB285_293.out; have hnb10 := NB293_0.out; have hnc10 := NB0_293.out; obtain ⟨hcz11_0, hcz11_1, hcz11_2, hcz11_3, hcz11_4, hfz11_0, hfz11_1, hfz11_2, hfz11_3, hfz11_4⟩ := cf5 BK293.out))
 have n0_ : Aside0 ((((((w8.setCell ⟨gb293, 0, none⟩ (.int .i64 t286)).setCell ⟨gb293, 1, none⟩ (.int .i64 t287)).setCell ⟨gb293, 2, none⟩ (.int .i64 t288)).setCell ⟨gb293, 3, none⟩ (.int .i64 t289)).setCell ⟨gb293, 4, none⟩ (.int .i64 t290)).heap[gb285]? = some (.cells #[.string (⟨#[]⟩ : ByteArray), .int .i64 0, .string (⟨#[]⟩ : ByteArray), .int .i64 0, .int .i64 0, .int .i64 0, .int .i64 0, .int .i64 0] 30 (0, 0))) := ⟨by (with_reducible repeat (first | refine blk_drewN ?_ _ | refine blk_drew ?_ | refine blk_alloc ?_ _)); refine blk_far ?_ NB285_293.out _; (with_reducible repeat (first | refine blk_drewN ?_ _ | refine blk_drew ?_ | refine blk_alloc ?_ _)); refine blk_far ?_ NB285_293.out _; (with_reducible repeat (first | refine blk_drewN ?_ _ | refine blk_drew ?_ | refine blk_alloc ?_ _)); refine blk_far ?_ NB285_293.out _; (with_reducible repeat (first | refine blk_drewN ?_ _ | refine blk_drew ?_ | refine blk_alloc ?_ _)); refine blk_far ?_ NB285_293.out _; (with_reducible repeat (first | refine blk_drewN ?_ _ | refine blk_drew ?_ | refine blk_alloc ?_ _)); refine blk_far ?_ NB285_293.out _; (with_reducible repeat (first | refine blk_drewN ?_ _ | refine blk_drew ?_ | refine blk_alloc ?_ _)); exact BK285.out⟩
 have n1_ : Aside0 ((((((w8.setCell ⟨gb293, 0, none⟩ (.int .i64 t286)).setCell ⟨gb293, 1, none⟩ (.int .i64 t287)).setCell ⟨gb293, 2, none⟩ (.int .i64 t288)).setCell ⟨gb293, 3, none⟩ (.int .i64 t289)).setCell ⟨gb293, 4, none⟩ (.int .i64 t290)).heap[gb293]? = some (.cells #[.int .i64 t286, .int .i64 t287, .int .i64 t288, .int .i64 t289, .int .i64 t290] 71 (0, 0))) := ⟨by (with_reducible repeat (first | refine blk_drewN ?_ _ | refine blk_drew ?_ | refine blk_alloc ?_ _)); refine blk_put (cs := #[.int .i64 t286, .int .i64 t287, .int .i64 t288, .int .i64 t289, .int .i64 0]) ?_ 4 _ rfl; refine blk_put (cs := #[.int .i64 t286, .int .i64 t287, .int .i64 t288, .int .i64 0, .int .i64 0]) ?_ 3 _ rfl; refine blk_put (cs := #[.int .i64 t286, .int .i64 t287, .int .i64 0, .int .i64 0, .int .i64 0]) ?_ 2 _ rfl; refine blk_put (cs := #[.int .i64 t286, .int .i64 0, .int .i64 0, .int .i64 0, .int .i64 0]) ?_ 1 _ rfl; refine blk_put (cs := #[.int .i64 0, .int .i64 0, .int .i64 0, .int .i64 0, .int .i64 0]) ?_ 0 _ rfl; (with_reducible repeat (first | refine blk_drewN ?_ _ | refine blk_drew ?_ | refine blk_alloc ?_ _)); exact BK293.out⟩
 have n2_ : Aside0 (IsS95 w0 (((((w8.setCell ⟨gb293, 0, none⟩ (.int .i64 t286)).setCell ⟨gb293, 1, none⟩ (.int .i64 t287)).setCell ⟨gb293, 2, none⟩ (.int .i64 t288)).setCell ⟨gb293, 3, none⟩ (.int .i64 t289)).setCell ⟨gb293, 4, none⟩ (.int .i64 t290)) g s0_0 t291 t292) := ⟨s11_0⟩
 have n3_ : Aside0 (KeepBut w (((((w8.setCell ⟨gb293, 0, none⟩ (.int .i64 t286)).setCell ⟨gb293, 1, none⟩ (.int .i64 t287)).setCell ⟨gb293, 2, none⟩ (.int .i64 t288)).setCell ⟨gb293, 3, none⟩ (.int .i64 t289)).setCell ⟨gb293, 4, none⟩ (.int .i64 t290)) g none) := ⟨s11_2⟩
 have n4_ : Aside0 (Below w0.heap.size w0 (((((w8.setCell ⟨gb293, 0, none⟩ (.int .i64 t286)).setCell ⟨gb293, 1, none⟩ (.int .i64 t287)).setCell ⟨gb293, 2, none⟩ (.int .i64 t288)).setCell ⟨gb293, 3, none⟩ (.int .i64 t289)).setCell ⟨gb293, 4, none⟩ (.int .i64 t290))) := ⟨s11_1⟩
 (try clear BK285)
 (try clear BK293)
 (try clear HI0)
 (try clear HK)
 (try clear HB)
 (try simp only [show ∀ (w_ : World) (n_ : Nat) (a_ : Addr) (v_ : Value), (w_.drewN n_).setCell a_ v_ = (w_.setCell a_ v_).drewN n_ from fun _ _ _ _ => rfl, show ∀ (w_ : World) (a_ : Addr) (v_ : Value), w_.drew.setCell a_ v_ = (w_.setCell a_ v_).drew from fun _ _ _ => rfl])
 generalize (((((w8.setCell ⟨gb293, 0, none⟩ (.int .i64 t286)).setCell ⟨gb293, 1, none⟩ (.int .i64 t287)).setCell ⟨gb293, 2, none⟩ (.int .i64 t288)).setCell ⟨gb293, 3, none⟩ (.int .i64 t289)).setCell ⟨gb293, 4, none⟩ (.int .i64 t290)) = w12 at n0_ n1_ n2_ n3_ n4_ ⊢
 have BK285 := n0_
 have BK293 := n1_
 have HI0 := n2_
 have HK := n3_
 have HB := n4_
 clear n0_ n1_ n2_ n3_ n4_
 have n0_ := Aside0.mk (blk_drew BK285.out)
 have n1_ := Aside0.mk (blk_drew BK293.out)
 have n2_ := Aside0.mk (IsS95.drew HI0.out)
 have n3_ := Aside0.mk (keep_drew HK.out)
 have n4_ := Aside0.mk (below_drew1 HB.out)
 clear BK285
 clear BK293
 clear HI0
 clear HK
 clear HB
 have BK285 := n0_
 have BK293 := n1_
 have HI0 := n2_
 have HK := n3_
 have HB := n4_
 clear n0_ n1_ n2_ n3_ n4_
 refine start_ (n := 12) (S := fun w' => w'.cell? ⟨gb293, 0, none⟩ = some (.int .i64 t286) ∧ w'.cell? ⟨gb293, 1, none⟩ = some (.int .i64 t287) ∧ w'.cell? ⟨gb293, 2, none⟩ = some (.int .i64 t288) ∧ w'.cell? ⟨gb293, 3, none⟩ = some (.int .i64 t289) ∧ w'.cell? ⟨gb293, 4, none⟩ = some (.int .i64 t290)) (ds := []) #[false, false, false, false, false, false, false, false, false, false, false, false] (by kernel_rfl) rfl rfl ⟨(blk_cell BK293.out 0).trans rfl, (blk_cell BK293.out 1).trans rfl, (blk_cell BK293.out 2).trans rfl, (blk_cell BK293.out 3).trans rfl, (blk_cell BK293.out 4).trans rfl⟩ (fun hHeld => ?_); refine with_tabW spec_l6Nozzle.tab2 spec_l6Nozzle.bits2 (fun HT_ HW_ => ?_)
 generalize w12.drew = w13 at BK285 BK293 HI0 HK HB hHeld ⊢
 refine pz 0 10 #[true, false, false, false, false, false, false, false, false, false, false, false] (any_of HT_.out (by kernel_rfl)) ?_
 refine pz 1 11 #[true, true, false, false, false, false, false, false, false, false, false, false] (any_of HT_.out (by kernel_rfl)) ?_
 refine pz 2 12 #[true, true, true, false, false, false, false, false, false, false, false, false] (any_of HT_.out (by kernel_rfl)) ?_
 refine pz 4 14 #[true, true, true, false, true, false, false, false, false, false, false, false] (any_of HT_.out (by kernel_rfl)) ?_
 refine pz 6 16 #[true, true, true, false, true, false, true, false, false, false, false, false] (any_of HT_.out (by kernel_rfl)) ?_
 refine pz 8 18 #[true, true, true, false, true, false, true, false, true, false, false, false] (any_of HT_.out (by kernel_rfl)) ?_
 refine take_ (i := 3) (N := some 13) (v := ?_) (a' := ?_) #[true, true, true, true, true, false, true, false, true, false, false, false] rfl rfl (take_ofW HT_.out HW_.out (by kernel_rfl)) (fun _ _ _ h => h) (Or.inl ⟨by rfl, ?_⟩) hHeld ?_ ?_
 rotate_left
 ·rintro w' ⟨s0, s1, s2, s3, s4⟩
  exact gs
 rotate_left
 ·exact ap
 refine take_ (i := 5) (N := some 15) (v := ?_) (a' := ?_) #[true, true, true, true, true, true, true, false, true, false, false, false] rfl rfl (take_ofW HT_.out HW_.out (by kernel_rfl)) (fun _ _ _ h => h) (Or.inl ⟨by rfl, ?_⟩) hHeld ?_ ?_
 rotate_left
 ·rintro w' ⟨s0, s1, s2, s3, s4⟩
  exact gs
 rotate_left
 ·exact ap
 refine take_ (i := 7) (N := some 17) (v := ?_) (a' := ?_) #[true, true, true, true, true, true, true, true, true, false, false, false] rfl rfl (take_ofW HT_.out HW_.out (by kernel_rfl)) (fun _ _ _ h => h) (Or.inl ⟨by rfl, ?_⟩) hHeld ?_ ?_
 rotate_left
 ·rintro w' ⟨s0, s1, s2, s3, s4⟩
  exact gs
 rotate_left
 ·exact ap
 refine one_ (i := 9) (N := some 19) #[true, true, true, true, true, true, true, true, true, true, false, false] rfl rfl (one_of HT_.out (by kernel_rfl)) u11_14 (fun K hK => ?_)
 refine goes_ Try.func104 (by kernel_rfl) rfl #[.pointer (some ⟨g, 0, none⟩), .int .i64 0, .int .i64 32] (by rfl) rfl rfl u11_1 ?_
 with_reducible refine (spec_l1Some.calls g s0_0 t291 t292 0 32 t294 t295 t296 w0 _ ?side1 ?side2 A5.out).mono ?_
 (case side1 => exact s11_0)
 (case side2 => exact s11_1)
 rintro e w14 ⟨rfl, hi, hb, hk⟩
 refine ⟨_, rfl, ?_⟩
 have n0_ := Aside0.mk (KeepBut.blk hk (g' := gb285) (o := .cells #[.string (⟨#[]⟩ : ByteArray), .int .i64 0, .string (⟨#[]⟩ : ByteArray), .int .i64 0, .int .i64 0, .int .i64 0, .int .i64 0, .int .i64 0] 30 (0, 0)) u11_9 NB285_0.out (by simp))
 have n1_ := Aside0.mk (KeepBut.blk hk (g' := gb293) (o := .cells #[.int .i64 t286, .int .i64 t287, .int .i64 t288, .int .i64 t289, .int .i64 t290] 71 (0, 0)) (by (with_reducible repeat (first | refine blk_drewN ?_ _ | refine blk_drew ?_ | refine blk_alloc ?_ _)); exact BK293.out) NB293_0.out (by simp))
 have n2_ := Aside0.mk (KeepBut.trans (by repeat (first | (with_reducible first | exact HK.out | apply KeepBut.set_ | apply keep_drewN | apply keep_drew | apply keep_alloc | refine keep_far ?_ GW285.out _ | refine keep_far ?_ GW293.out _) | exact HK.out)) hk (.inl rfl))
 have n3_ := Aside0.mk (hb)
 have n4_ := Aside0.mk (hi)
 clear BK285
 clear BK293
 clear HK
 clear HB
 clear HI0
 have BK285 := n0_
 have BK293 := n1_
 have HK := n2_
 have HB := n3_
 have HI0 := n4_
 clear n0_ n1_ n2_ n3_ n4_
 (try clear hb)
 (try clear hb2)
 (try clear hk)
 (try clear hi)
 refine hK.out _ _ ⟨(blk_cell BK293.out 0).trans rfl, (blk_cell BK293.out 1).trans rfl, (blk_cell BK293.out 2).trans rfl, (blk_cell BK293.out 3).trans rfl, (blk_cell BK293.out 4).trans rfl⟩ (fun hHeld => ?_)
 clear hK K
 refine norm_ (a' := ?_) ?_ ?_
 rotate_left
 ·show Act.put _ (some 19) _ = _
  simp only [Act.put, List.setIfInBounds_toArray, List.set_cons_zero, List.set_cons_succ, i64_w, i32_w]
  rfl
 refine pz 10 20 #[true, true, true, true, true, true, true, true, true, true, true, false] (any_of HT_.out (by kernel_rfl)) ?_
 refine one_ (i := 11) (N := none) #[true, true, true, true, true, true, true, true, true, true, true, true] rfl rfl (one_of HT_.out (by kernel_rfl)) u11_14 (fun K hK => ?_)
 have hs15 : w14.cell? ⟨gb285, 0, none⟩ = some (.string (⟨#[]⟩ : ByteArray)) := (blk_cell BK285.out 0).trans rfl
 have hfs15 := blk_frozen BK285.out 0
 have hns15_1 := NB293_285.out
 have hms15_1 := NB285_293.out
 have hs16 : w14.cell? ⟨gb285, 1, none⟩ = some (.int .i64 0) := (blk_cell BK285.out 1).trans rfl
 have hfs16 := blk_frozen BK285.out 1
 have hns16_1 := NB293_285.out
 have hms16_1 := NB285_293.out
 have hs17 : w14.cell? ⟨gb285, 2, none⟩ = some (.string (⟨#[]⟩ : ByteArray)) := (blk_cell BK285.out 2).trans rfl
 have hfs17 := blk_frozen BK285.out 2
 have hns17_1 := NB293_285.out
 have hms17_1 := NB285_293.out
 have hs18 : w14.cell? ⟨gb285, 3, none⟩ = some (.int .i64 0) := (blk_cell BK285.out 3).trans rfl
 have hfs18 := blk_frozen BK285.out 3
 have hns18_1 := NB293_285.out
 have hms18_1 := NB285_293.out
 have hs19 : w14.cell? ⟨gb285, 4, none⟩ = some (.int .i64 0) := (blk_cell BK285.out 4).trans rfl
 have hfs19 := blk_frozen BK285.out 4
 have hns19_1 := NB293_285.out
 have hms19_1 := NB285_293.out
 have hs20 : w14.cell? ⟨gb285, 5, none⟩ = some (.int .i64 0) := (blk_cell BK285.out 5).trans rfl
 have hfs20 := blk_frozen BK285.out 5
 have hns20_1 := NB293_285.out
 have hms20_1 := NB285_293.out
 have hs21 : w14.cell? ⟨gb285, 6, none⟩ = some (.int .i64 0) := (blk_cell BK285.out 6).trans rfl
 have hfs21 := blk_frozen BK285.out 6
 have hns21_1 := NB293_285.out
 have hms21_1 := NB285_293.out
 have hs22 : w14.cell? ⟨gb285, 7, none⟩ = some (.int .i64 0) := (blk_cell BK285.out 7).trans rfl
 have hfs22 := blk_frozen BK285.out 7
 have hns22_1 := NB293_285.out
 have hms22_1 := NB285_293.out
 refine skip_ (w1 := ?_) (by rfl) rfl ?_ ?_
 rotate_left
 ·go_simp
  rfl
 refine hK.out _ _ ⟨((cell_far (p := ⟨gb285, _, none⟩) NB293_285.out _).trans (((cell_far (p := ⟨gb285, _, none⟩) NB293_285.out _).trans (((cell_far (p := ⟨gb285, _, none⟩) NB293_285.out _).trans (((cell_far (p := ⟨gb285, _, none⟩) NB293_285.out _).trans (((cell_far (p := ⟨gb285, _, none⟩) NB293_285.out _).trans (((cell_far (p := ⟨gb285, _, none⟩) NB293_285.out _).trans (((cell_far (p := ⟨gb285, _, none⟩) NB293_285.out _).trans (((cell_far (p := ⟨gb285, _, none⟩) NB293_285.out _).trans (hHeld.1)))))))))))))))), ((cell_far (p := ⟨gb285, _, none⟩) NB293_285.out _).trans (((cell_far (p := ⟨gb285, _, none⟩) NB293_285.out _).trans (((cell_far (p := ⟨gb285, _, none⟩) NB293_285.out _).trans (((cell_far (p := ⟨gb285, _, none⟩) NB293_285.out _).trans (((cell_far (p := ⟨gb285, _, none⟩) NB293_285.out _).trans (((cell_far (p := ⟨gb285, _, none⟩) NB293_285.out _).trans (((cell_far (p := ⟨gb285, _, none⟩) NB293_285.out _).trans (((cell_far (p := ⟨gb285, _, none⟩) NB293_285.out _).trans (hHeld.2.1)))))))))))))))), ((cell_far (p := ⟨gb285, _, none⟩) NB293_285.out _).trans (((cell_far (p := ⟨gb285, _, none⟩) NB293_285.out _).trans (((cell_far (p := ⟨gb285, _, none⟩) NB293_285.out _).trans (((cell_far (p := ⟨gb285, _, none⟩) NB293_285.out _).trans (((cell_far (p := ⟨gb285, _, none⟩) NB293_285.out _).trans (((cell_far (p := ⟨gb285, _, none⟩) NB293_285.out _).trans (((cell_far (p := ⟨gb285, _, none⟩) NB293_285.out _).trans (((cell_far (p := ⟨gb285, _, none⟩) NB293_285.out _).trans (hHeld.2.2.1)))))))))))))))), ((cell_far (p := ⟨gb285, _, none⟩) NB293_285.out _).trans (((cell_far (p := ⟨gb285, _, none⟩) NB293_285.out _).trans (((cell_far (p := ⟨gb285, _, none⟩) NB293_285.out _).trans (((cell_far (p := ⟨gb285, _, none⟩) NB293_285.out _).trans (((cell_far (p := ⟨gb285, _, none⟩) NB293_285.out _).trans (((cell_far (p := ⟨gb285, _, none⟩) NB293_285.out _).trans (((cell_far (p := ⟨gb285, _, none⟩) NB293_285.out _).trans (((cell_far (p := ⟨gb285, _, none⟩) NB293_285.out _).trans (hHeld.2.2.2.1)))))))))))))))), ((cell_far (p := ⟨gb285, _, none⟩) NB293_285.out _).trans (((cell_far (p := ⟨gb285, _, none⟩) NB293_285.out _).trans (((cell_far (p := ⟨gb285, _, none⟩) NB293_285.out _).trans (((cell_far (p := ⟨gb285, _, none⟩) NB293_285.out _).trans (((cell_far (p := ⟨gb285, _, none⟩) NB293_285.out _).trans (((cell_far (p := ⟨gb285, _, none⟩) NB293_285.out _).trans (((cell_far (p := ⟨gb285, _, none⟩) NB293_285.out _).trans (((cell_far (p := ⟨gb285, _, none⟩) NB293_285.out _).trans (hHeld.2.2.2.2))))))))))))))))⟩ (fun hHeld => ?_)
 clear hK K
 refine done_ (done_of HT_.out (by kernel_rfl)) ?_
 try go_wp2
 refine bodyPost_ret (results_cell_row rfl _ _ gb285 30 #[.string a1, .int .i64 2, .string a2, .int .i64 t286, .int .i64 t287, .int .i64 t288, .int .i64 t289, .int .i64 t294] (0, 0) _ rfl (by (with_reducible repeat (first | refine blk_drewN ?_ _ | refine blk_drew ?_ | refine blk_alloc ?_ _)); refine blk_put (cs := #[.string a1, .int .i64 2, .string a2, .int .i64 t286, .int .i64 t287, .int .i64 t288, .int .i64 t289, .int .i64 0]) ?_ 7 _ rfl; refine blk_put (cs := #[.string a1, .int .i64 2, .string a2, .int .i64 t286, .int .i64 t287, .int .i64 t288, .int .i64 0, .int .i64 0]) ?_ 6 _ rfl; refine blk_put (cs := #[.string a1, .int .i64 2, .string a2, .int .i64 t286, .int .i64 t287, .int .i64 0, .int .i64 0, .int .i64 0]) ?_ 5 _ rfl; refine blk_put (cs := #[.string a1, .int .i64 2, .string a2, .int .i64 t286, .int .i64 0, .int .i64 0, .int .i64 0, .int .i64 0]) ?_ 4 _ rfl; refine blk_put (cs := #[.string a1, .int .i64 2, .string a2, .int .i64 0, .int .i64 0, .int .i64 0, .int .i64 0, .int .i64 0]) ?_ 3 _ rfl; refine blk_put (cs := #[.string a1, .int .i64 2, .string (⟨#[]⟩ : ByteArray), .int .i64 0, .int .i64 0, .int .i64 0, .int .i64 0, .int .i64 0]) ?_ 2 _ rfl; (with_reducible repeat (first | refine blk_drewN ?_ _ | refine blk_drew ?_ | refine blk_alloc ?_ _)); refine blk_put (cs := #[.string a1, .int .i64 0, .string (⟨#[]⟩ : ByteArray), .int .i64 0, .int .i64 0, .int .i64 0, .int .i64 0, .int .i64 0]) ?_ 1 _ rfl; (with_reducible repeat (first | refine blk_drewN ?_ _ | refine blk_drew ?_ | refine blk_alloc ?_ _)); refine blk_put (cs := #[.string (⟨#[]⟩ : ByteArray), .int .i64 0, .string (⟨#[]⟩ : ByteArray), .int .i64 0, .int .i64 0, .int .i64 0, .int .i64 0, .int .i64 0]) ?_ 0 _ rfl; (with_reducible repeat (first | refine blk_drewN ?_ _ | refine blk_drew ?_ | refine blk_alloc ?_ _)); exact BK285.out) Try.underlying30 rfl (by kernel_rfl)) rfl ?_
 exact ⟨by first | rfl | (simp [*] <;> rfl), s11_0, s11_1, s11_2⟩

def spec_l1Str.f (s0_0 : List Int) (s0_1 : Int) (s0_2 : Int) (l1 : List ByteArray) : Option (ByteArray × Int × Int) := (spec_l1Below.f s0_0 s0_1 s0_2 (l1.length : Int)).bind fun bt297 => (if 0 ≤ bt297.1 then (if bt297.1 < (l1.length : Int) then (some (rdOf ByteArray.empty l1 bt297.1, bt297.2.1, bt297.2.2)) else (none)) else (none))
set_option maxHeartbeats 8000000 in
set_option maxRecDepth 100000 in
theorem spec_l1Str.calls (g : Nat) (s0_0 : List Int) (s0_1 : Int) (s0_2 : Int) (A1 : Option Addr) (c1 : Nat) (l1 : List ByteArray) (r1 : ByteArray) (r2 : Int) (r3 : Int) (w0 w : World) (hI : IsS95 w0 w g s0_0 s0_1 s0_2) (hB : Below w0.heap.size w0 w) (hr1 : Kd.C Kd.string w A1 l1.length l1) (hc1 : l1.length ≤ c1) (hf1 : ∀ ad, A1 = some ad → 0 < l1.length → ad.block ≠ g) (h : spec_l1Str.f s0_0 s0_1 s0_2 l1 = some (r1, r2, r3)) :
  Calls Try.prog 86 #[.pointer (some ⟨g, 0, none⟩), .slice A1 l1.length c1] w fun e w' => e = .returned (.string r1) ∧ IsS95 w0 w' g s0_0 r2 r3 ∧ Below w0.heap.size w0 w' ∧ KeepBut w w' g none := by
 have HR1 := Aside0.mk hr1
 have HC1 := Aside0.mk hc1
 clear hr1 hc1
 have HI0 := Aside0.mk hI
 have HK := Aside0.mk (KeepBut.refl w g none)
 have HL := Aside0.mk hB.size
 clear hI
 have HW0 := Aside0.mk hB.size
 have HB := Aside0.mk hB
 clear hB
 have H : ((spec_l1Below.f s0_0 s0_1 s0_2 (l1.length : Int)).bind fun bt297 => (if 0 ≤ bt297.1 then (if bt297.1 < (l1.length : Int) then (some (rdOf ByteArray.empty l1 bt297.1, bt297.2.1, bt297.2.2)) else (none)) else (none))) = some (r1, r2, r3) := h
 clear h
 replace H := Option.bind_eq_some_iff.mp H
 obtain ⟨⟨t297, t298, t299⟩, A30, H⟩ := H
 replace H : (if 0 ≤ t297 then (if t297 < (l1.length : Int) then (some (rdOf ByteArray.empty l1 t297, t298, t299)) else (none)) else (none)) = some (r1, r2, r3) := H
 have A3 := Aside0.mk A30
 clear A30
 by_cases c4 : 0 ≤ t297
 ·rw [if_pos c4] at H
  have c4b0 : decide (0 ≤ t297) = true := decide_eq_true c4
  clear c4
  by_cases c5 : t297 < (l1.length : Int)
  ·rw [if_pos c5] at H
   have c5b0 : decide (t297 < (l1.length : Int)) = true := decide_eq_true c5
   clear c5
   simp only [Option.some.injEq, Prod.mk.injEq] at H
   obtain ⟨rfl, rfl, rfl⟩ := H
   go_enter Try.func86, Try.ntmps86
   go_wp2_with (first | ((with_reducible refine gate_callee (f := 84) rfl ?_); refine goesL_ (some 9) rfl rfl Try.func84 (by kernel_rfl) rfl #[.pointer (some ⟨g, 0, none⟩), .int .i64 (l1.length : Int)] rfl u11_1 ?_; (with_reducible refine (spec_l1Below.calls g s0_0 s0_1 s0_2 (l1.length : Int) t297 t298 t299 w0 _ ?side1 ?side2 A3.out).mono ?_); (case side1 => exact s11_8); (case side2 => exact s11_7); rintro e w6 ⟨rfl, hi, hb, hk⟩; refine ⟨_, rfl, ?_⟩; have n0_ := Aside0.mk (KeepBut.trans u11_0 hk (.inl rfl)); have n1_ := Aside0.mk (hb); have n2_ := Aside0.mk (hi); clear HK; clear HB; clear HI0; have HK := n0_; have HB := n1_; have HI0 := n2_; clear n0_ n1_ n2_; (try clear hb); (try clear hb2); (try clear hk); (try clear hi); have p300 : 0 ≤ (t297 : Int) := of_decide_eq_true (by assumption); have q300 : t297 < (l1.length : Int) := of_decide_eq_true (by assumption); obtain ⟨ad300, e300, hx300_0⟩ := Kd.at_string HR1.out t297 p300 q300; cases e300; replace hx300_0 := keep_cell HK.out hx300_0 (by first | (rw [add_block]; exact hf1 _ rfl (by omega)) | exact hf1 _ rfl (by omega) | exact hf1 ad300 rfl (by omega)); replace p300 := eq_true p300; replace q300 := eq_true q300))
   go_ret
   exact ⟨by first | rfl | (simp [*] <;> rfl), s11_8, s11_7, s11_9⟩
  ·rw [if_neg c5] at H
   exact absurd H (by simp)
 ·rw [if_neg c4] at H
  exact absurd H (by simp)

def spec_l1Once.f (s0_0 : List Int) (s0_1 : Int) (s0_2 : Int) (a1 : Int) : Option (Bool × Int × Int) := (spec_l1Below.f s0_0 s0_1 s0_2 a1).bind fun bt301 => (some ((bt301.1 == 0), bt301.2.1, bt301.2.2))
set_option maxHeartbeats 8000000 in
set_option maxRecDepth 100000 in
theorem spec_l1Once.calls (g : Nat) (s0_0 : List Int) (s0_1 : Int) (s0_2 : Int) (a1 : Int) (r1 : Bool) (r2 : Int) (r3 : Int) (w0 w : World) (hI : IsS95 w0 w g s0_0 s0_1 s0_2) (hB : Below w0.heap.size w0 w) (h : spec_l1Once.f s0_0 s0_1 s0_2 a1 = some (r1, r2, r3)) :
  Calls Try.prog 87 #[.pointer (some ⟨g, 0, none⟩), .int .i64 a1] w fun e w' => e = .returned (.bool r1) ∧ IsS95 w0 w' g s0_0 r2 r3 ∧ Below w0.heap.size w0 w' ∧ KeepBut w w' g none := by
 have HI0 := Aside0.mk hI
 have HK := Aside0.mk (KeepBut.refl w g none)
 have HL := Aside0.mk hB.size
 clear hI
 have HW0 := Aside0.mk hB.size
 have HB := Aside0.mk hB
 clear hB
 have H : ((spec_l1Below.f s0_0 s0_1 s0_2 a1).bind fun bt301 => (some ((bt301.1 == 0), bt301.2.1, bt301.2.2))) = some (r1, r2, r3) := h
 clear h
 replace H := Option.bind_eq_some_iff.mp H
 obtain ⟨⟨t301, t302, t303⟩, A30, H⟩ := H
 replace H : (some ((t301 == 0), t302, t303)) = some (r1, r2, r3) := H
 have A3 := Aside0.mk A30
 clear A30
 simp only [Option.some.injEq, Prod.mk.injEq] at H
 obtain ⟨rfl, rfl, rfl⟩ := H
 go_enter Try.func87, Try.ntmps87
 go_wp2_with (first | ((with_reducible refine gate_callee (f := 84) rfl ?_); refine goesL_ (some 7) rfl rfl Try.func84 (by kernel_rfl) rfl #[.pointer (some ⟨g, 0, none⟩), .int .i64 a1] rfl u11_1 ?_; (with_reducible refine (spec_l1Below.calls g s0_0 s0_1 s0_2 a1 t301 t302 t303 w0 _ ?side1 ?side2 A3.out).mono ?_); (case side1 => exact s11_8); (case side2 => exact s11_7); rintro e w4 ⟨rfl, hi, hb, hk⟩; refine ⟨_, rfl, ?_⟩; have n0_ := Aside0.mk (KeepBut.trans u11_0 hk (.inl rfl)); have n1_ := Aside0.mk (hb); have n2_ := Aside0.mk (hi); clear HK; clear HB; clear HI0; have HK := n0_; have HB := n1_; have HI0 := n2_; clear n0_ n1_ n2_; (try clear hb); (try clear hb2); (try clear hk); (try clear hi)))
 go_ret
 exact ⟨by first | rfl | (simp [*] <;> rfl), s11_8, s11_7, s11_9⟩

theorem obk {A : Option Addr} {n c m d : Nat} : (Value.slice A n c).ownBlock = (Value.slice A m d).ownBlock := by cases A <;> rfl
mutual
def spec_l6Draw.l0 : Nat → List (S30) → List ByteArray → List ByteArray → Int → Int → List Int → Int → Int → Option ((List (S30)) × Int × Int)
 | 0, _, _, _, _, _, _, _, _ => none
 | k + 1, x3, x4, x16, x17, x18, x1000, x1001, x1002 => if x18 < x17 then (if 0 ≤ x18 then (if x18 < (x16.length : Int) then ((spec_l1Below.f x1000 x1001 x1002 80).bind fun bt317 => ((spec_AddDevice.f k x3 (rdOf ByteArray.empty x16 x18) 1 (⟨#[]⟩ : ByteArray) 0 0 0 0 bt317.1).bind fun bt320 => (spec_l6Draw.l0 k bt320.1 x4 x16 x17 (wrap64 (x18 + 1)) x1000 bt317.2.1 bt317.2.2))) else (none)) else (none)) else ((some (([(⟨#[97]⟩ : ByteArray), (⟨#[98]⟩ : ByteArray), (⟨#[99]⟩ : ByteArray), (⟨#[114]⟩ : ByteArray)] : List ByteArray) : List ByteArray)).bind fun y324 => ((spec_l1Below.f x1000 x1001 x1002 5).bind fun bt327 => (if 0 ≤ bt327.1 then (if bt327.1 ≤ (y324.length : Int) then ((some (y324.take (bt327.1 : Int).toNat : List ByteArray)).bind fun y330 => (spec_l6Draw.l1 k x3 x4 y330 y330 (y330.length : Int) 0 x1000 bt327.2.1 bt327.2.2)) else (none)) else (none))))
def spec_l6Draw.l1 : Nat → List (S30) → List ByteArray → List ByteArray → List ByteArray → Int → Int → List Int → Int → Int → Option ((List (S30)) × Int × Int)
 | 0, _, _, _, _, _, _, _, _, _ => none
 | k + 1, x3, x4, x7, x36, x37, x38, x1000, x1001, x1002 => if x38 < x37 then (if 0 ≤ x38 then (if x38 < (x36.length : Int) then ((spec_l1Str.f x1000 x1001 x1002 x4).bind fun bt334 => ((spec_l6Nozzle.f x1000 bt334.2.1 bt334.2.2 (rdOf ByteArray.empty x36 x38) bt334.1).bind fun bt337 => ((spec_AddDevice.f k x3 bt337.1 bt337.2.1 bt337.2.2.1 bt337.2.2.2.1 bt337.2.2.2.2.1 bt337.2.2.2.2.2.1 bt337.2.2.2.2.2.2.1 bt337.2.2.2.2.2.2.2.1).bind fun bt347 => (spec_l6Draw.l1 k bt347.1 x4 x7 x36 x37 (wrap64 (x38 + 1)) x1000 bt337.2.2.2.2.2.2.2.2.1 bt337.2.2.2.2.2.2.2.2.2)))) else (none)) else (none)) else (if (x7.length : Int) > 0 then ((spec_l1Once.f x1000 x1001 x1002 2).bind fun bt351 => (spec_l6Draw.j2 k x3 x7 bt351.1 x1000 bt351.2.1 bt351.2.2)) else (spec_l6Draw.j2 k x3 x7 false x1000 x1001 x1002))
def spec_l6Draw.j2 : Nat → List (S30) → List ByteArray → Bool → List Int → Int → Int → Option ((List (S30)) × Int × Int)
 | 0, _, _, _, _, _, _ => none
 | k + 1, x3, x7, x60, x1000, x1001, x1002 => if x60 = true then ((spec_l1Str.f x1000 x1001 x1002 (([(⟨#[108, 97, 109, 112]⟩ : ByteArray), (⟨#[122]⟩ : ByteArray)] : List ByteArray))).bind fun bt357 => ((spec_l1Str.f x1000 bt357.2.1 bt357.2.2 x7).bind fun bt360 => ((spec_l2Draw.f x1000 bt360.2.1 bt360.2.2).bind fun bt363 => ((spec_AddDevice.f k x3 bt357.1 3 bt360.1 bt363.1 bt363.2.1 0 0 0).bind fun bt367 => (some (bt367.1, bt363.2.2.1, bt363.2.2.2)))))) else (some (x3, x1001, x1002))
end
def spec_l6Draw.f (k : Nat) (s0_0 : List Int) (s0_1 : Int) (s0_2 : Int) : Option ((List (S30)) × Int × Int) := (some (([(⟨#[112]⟩ : ByteArray), (⟨#[113]⟩ : ByteArray)] : List ByteArray) : List ByteArray)).bind fun y307 => ((spec_l1Below.f s0_0 s0_1 s0_2 2).bind fun bt310 => (if 0 ≤ (wrap64 (1 + bt310.1)) then (if (wrap64 (1 + bt310.1)) ≤ (y307.length : Int) then ((some (y307.take ((wrap64 (1 + bt310.1)) : Int).toNat : List ByteArray)).bind fun y313 => (spec_l6Draw.l0 k (([] : List (S30))) y313 y313 (y313.length : Int) 0 s0_0 bt310.2.1 bt310.2.2)) else (none)) else (none)))
theorem spec_l6Draw.mono_l : ∀ k, (∀ y0 y1 y2 y3 y4 y5 y6 y7, LeO (spec_l6Draw.l0 k y0 y1 y2 y3 y4 y5 y6 y7) (spec_l6Draw.l0 (k + 1) y0 y1 y2 y3 y4 y5 y6 y7)) ∧ (∀ y0 y1 y2 y3 y4 y5 y6 y7 y8, LeO (spec_l6Draw.l1 k y0 y1 y2 y3 y4 y5 y6 y7 y8) (spec_l6Draw.l1 (k + 1) y0 y1 y2 y3 y4 y5 y6 y7 y8)) ∧ (∀ y0 y1 y2 y3 y4 y5, LeO (spec_l6Draw.j2 k y0 y1 y2 y3 y4 y5) (spec_l6Draw.j2 (k + 1) y0 y1 y2 y3 y4 y5))
 | 0 => ⟨fun _ _ _ _ _ _ _ _ r h => by simp [spec_l6Draw.l0] at h, fun _ _ _ _ _ _ _ _ _ r h => by simp [spec_l6Draw.l1] at h, fun _ _ _ _ _ _ r h => by simp [spec_l6Draw.j2] at h⟩
 | k + 1 => by
  obtain ⟨ih0, ih1, ih2⟩ := spec_l6Draw.mono_l k
  refine ⟨?_, ?_, ?_⟩
  ·intro y0 y1 y2 y3 y4 y5 y6 y7
   unfold spec_l6Draw.l0
   repeat' first
   | (with_reducible exact ih0 _ _ _ _ _ _ _ _)
   | (with_reducible exact ih1 _ _ _ _ _ _ _ _ _)
   | (with_reducible exact ih2 _ _ _ _ _ _)
   | (with_reducible exact spec_AddDevice.mono _ _ _ _ _ _ _ _ _ _)
   | (with_reducible exact LeO.refl _)
   | (with_reducible exact LeO.none _)
   | (with_reducible refine LeO.ite ?_ ?_)
   | (with_reducible refine LeO.bind ?_ (fun _ => ?_))
  ·intro y0 y1 y2 y3 y4 y5 y6 y7 y8
   unfold spec_l6Draw.l1
   repeat' first
   | (with_reducible exact ih0 _ _ _ _ _ _ _ _)
   | (with_reducible exact ih1 _ _ _ _ _ _ _ _ _)
   | (with_reducible exact ih2 _ _ _ _ _ _)
   | (with_reducible exact spec_AddDevice.mono _ _ _ _ _ _ _ _ _ _)
   | (with_reducible exact LeO.refl _)
   | (with_reducible exact LeO.none _)
   | (with_reducible refine LeO.ite ?_ ?_)
   | (with_reducible refine LeO.bind ?_ (fun _ => ?_))
  ·intro y0 y1 y2 y3 y4 y5
   unfold spec_l6Draw.j2
   repeat' first
   | (with_reducible exact ih0 _ _ _ _ _ _ _ _)
   | (with_reducible exact ih1 _ _ _ _ _ _ _ _ _)
   | (with_reducible exact ih2 _ _ _ _ _ _)
   | (with_reducible exact spec_AddDevice.mono _ _ _ _ _ _ _ _ _ _)
   | (with_reducible exact LeO.refl _)
   | (with_reducible exact LeO.none _)
   | (with_reducible refine LeO.ite ?_ ?_)
   | (with_reducible refine LeO.bind ?_ (fun _ => ?_))
theorem spec_l6Draw.mono : ∀ a0 a1 a2 k, LeO (spec_l6Draw.f k a0 a1 a2) (spec_l6Draw.f (k + 1) a0 a1 a2) := by
 intro a0 a1 a2 k
 obtain ⟨ih0, ih1, ih2⟩ := spec_l6Draw.mono_l k
 unfold spec_l6Draw.f
 repeat' first
   | (with_reducible exact ih0 _ _ _ _ _ _ _ _)
   | (with_reducible exact ih1 _ _ _ _ _ _ _ _ _)
   | (with_reducible exact ih2 _ _ _ _ _ _)
   | (with_reducible exact spec_AddDevice.mono _ _ _ _ _ _ _ _ _ _)
   | (with_reducible exact LeO.refl _)
   | (with_reducible exact LeO.none _)
   | (with_reducible refine LeO.ite ?_ ?_)
   | (with_reducible refine LeO.bind ?_ (fun _ => ?_))
set_option maxHeartbeats 8000000 in
set_option maxRecDepth 100000 in
theorem spec_l6Draw.calls (k : Nat) (g : Nat) (s0_0 : List Int) (s0_1 : Int) (s0_2 : Int) (r1 : List (S30)) (r2 : Int) (r3 : Int) (w0 w : World) (hI : IsS95 w0 w g s0_0 s0_1 s0_2) (hB : Below w0.heap.size w0 w) (h : spec_l6Draw.f k s0_0 s0_1 s0_2 = some (r1, r2, r3)) :
  Calls Try.prog 66 #[.pointer (some ⟨g, 0, none⟩)] w fun e w' => ∃ v0_ : Value, e = .returned (v0_) ∧ Kd.R k30 30 w' w.heap.size (fun _ => True) v0_ r1 ∧ IsS95 w0 w' g s0_0 r2 r3 ∧ Below w0.heap.size w0 w' ∧ KeepBut w w' g none := by
 have hu30 := Try.underlying30
 have HI0 := Aside0.mk hI
 have HK := Aside0.mk (KeepBut.refl w g none)
 have HL := Aside0.mk hB.size
 clear hI
 have HW0 := Aside0.mk hB.size
 have HB := Aside0.mk hB
 clear hB
 have H : ((some (([(⟨#[112]⟩ : ByteArray), (⟨#[113]⟩ : ByteArray)] : List ByteArray) : List ByteArray)).bind fun y307 => ((spec_l1Below.f s0_0 s0_1 s0_2 2).bind fun bt310 => (if 0 ≤ (wrap64 (1 + bt310.1)) then (if (wrap64 (1 + bt310.1)) ≤ (y307.length : Int) then ((some (y307.take ((wrap64 (1 + bt310.1)) : Int).toNat : List ByteArray)).bind fun y313 => (spec_l6Draw.l0 k (([] : List (S30))) y313 y313 (y313.length : Int) 0 s0_0 bt310.2.1 bt310.2.2)) else (none)) else (none)))) = some (r1, r2, r3) := h
 clear h
 obtain ⟨y304, hy304⟩ : ∃ y_ : List (S30), y_ = (([] : List (S30))) := ⟨_, rfl⟩
 replace H : ((some (([(⟨#[112]⟩ : ByteArray), (⟨#[113]⟩ : ByteArray)] : List ByteArray) : List ByteArray)).bind fun y307 => ((spec_l1Below.f s0_0 s0_1 s0_2 2).bind fun bt310 => (if 0 ≤ (wrap64 (1 + bt310.1)) then (if (wrap64 (1 + bt310.1)) ≤ (y307.length : Int) then ((some (y307.take ((wrap64 (1 + bt310.1)) : Int).toNat : List ByteArray)).bind fun y313 => (spec_l6Draw.l0 k y304 y313 y313 (y313.length : Int) 0 s0_0 bt310.2.1 bt310.2.2)) else (none)) else (none)))) = some (r1, r2, r3) := by first | (rw [hy304]; with_reducible exact H) | (have H2_ := (Option.bind_some _ _).symm.trans H; rw [hy304]; with_reducible exact H2_) | (have H2_ := (Option.bind_some _ _).symm.trans H; with_reducible exact H2_) | with_reducible exact H | (rw [hy304]; exact H) | exact H
 have Ny304 := Aside0.mk hy304
 clear hy304
 obtain ⟨y307, hy307⟩ : ∃ y_ : List ByteArray, y_ = (([(⟨#[112]⟩ : ByteArray), (⟨#[113]⟩ : ByteArray)] : List ByteArray)) := ⟨_, rfl⟩
 replace H : ((spec_l1Below.f s0_0 s0_1 s0_2 2).bind fun bt310 => (if 0 ≤ (wrap64 (1 + bt310.1)) then (if (wrap64 (1 + bt310.1)) ≤ (y307.length : Int) then ((some (y307.take ((wrap64 (1 + bt310.1)) : Int).toNat : List ByteArray)).bind fun y313 => (spec_l6Draw.l0 k y304 y313 y313 (y313.length : Int) 0 s0_0 bt310.2.1 bt310.2.2)) else (none)) else (none))) = some (r1, r2, r3) := by first | (rw [hy307]; with_reducible exact H) | (have H2_ := (Option.bind_some _ _).symm.trans H; rw [hy307]; with_reducible exact H2_) | (have H2_ := (Option.bind_some _ _).symm.trans H; with_reducible exact H2_) | with_reducible exact H | (rw [hy307]; exact H) | exact H
 have Ny307 := Aside0.mk hy307
 clear hy307
 replace H := Option.bind_eq_some_iff.mp H
 obtain ⟨⟨t310, t311, t312⟩, A20, H⟩ := H
 replace H : (if 0 ≤ (wrap64 (1 + t310)) then (if (wrap64 (1 + t310)) ≤ (y307.length : Int) then ((some (y307.take ((wrap64 (1 + t310)) : Int).toNat : List ByteArray)).bind fun y313 => (spec_l6Draw.l0 k y304 y313 y313 (y313.length : Int) 0 s0_0 t311 t312)) else (none)) else (none)) = some (r1, r2, r3) := H
 have A2 := Aside0.mk A20
 clear A20
 obtain ⟨ji3, hji3⟩ : ∃ j_ : Int, (wrap64 (1 + t310)) = j_ := ⟨_, rfl⟩
 replace H : (if 0 ≤ (ji3) then (if (ji3) ≤ (y307.length : Int) then ((some (y307.take ((ji3) : Int).toNat : List ByteArray)).bind fun y313 => (spec_l6Draw.l0 k y304 y313 y313 (y313.length : Int) 0 s0_0 t311 t312)) else (none)) else (none)) = some (r1, r2, r3) := by first | (rw [hji3] at H; exact H) | (simp only [hji3] at H ⊢; exact H)
 (try rw [hji3] at A2)
 have hji3w : (IntKind.i64.wrap (1 + t310)) = ji3 := (i64_w _).trans hji3
 by_cases c4 : 0 ≤ (ji3)
 ·rw [if_pos c4] at H
  have c4b0 := eq_true c4
  have c4b1 : decide (0 ≤ (ji3)) = true := decide_eq_true c4
  clear c4
  by_cases c5 : (ji3) ≤ (y307.length : Int)
  ·rw [if_pos c5] at H
   have c5b0 := eq_true c5
   have c5b1 : decide ((ji3) ≤ (y307.length : Int)) = true := decide_eq_true c5
   clear c5
   obtain ⟨y313, hy313⟩ : ∃ y_ : List ByteArray, y_ = (y307.take ((ji3) : Int).toNat) := ⟨_, rfl⟩
   replace H : (spec_l6Draw.l0 k y304 y313 y313 (y313.length : Int) 0 s0_0 t311 t312) = some (r1, r2, r3) := by first | (rw [hy313]; with_reducible exact H) | (have H2_ := (Option.bind_some _ _).symm.trans H; rw [hy313]; with_reducible exact H2_) | (have H2_ := (Option.bind_some _ _).symm.trans H; with_reducible exact H2_) | with_reducible exact H | (rw [hy313]; exact H) | exact H
   have Ny313 := Aside0.mk hy313
   clear hy313
   have H' := Aside0.mk H
   clear H
   go_enter Try.func66, Try.ntmps66
   go_wp2_with (first | ((with_reducible refine gate_dst (N := 10) rfl ?_); refine Kd.R_lit k30 _ 30 ?hg (N := 10) ?hd (xs := ([] : List (S30))) (inner := []) (ok := fun _ => True) (okp := fun _ => True) ?hr ?hp (fun _ hk => hk) trivial (Below.refl _ _) (Nat.le_refl _) (by simp) ?_; (case hd => rfl); (case hg => rfl); (case hr => exact gq); (case hp => exact (Reps.none _ _)); intro v305 w6 ho7 hb hg_ hnew_; clear hg_ hnew_; (first | rw [← Ny304.out] at ho7 | (simp only [Int.reduceToNat] at ho7; rw [← Ny304.out] at ho7)); have n0_ := Aside0.mk (Kd.R_lower ho7 (keep_size (w := w) (g := g) (row := none) u11_0)); have n1_ := Aside0.mk (IsS95.below u11_3 hb); have n2_ := Aside0.mk (KeepBut.trans u11_0 (KeepBut.of_below hb g none) (.inl rfl)); have n3_ := Aside0.mk (below_step u11_2 hb); clear HI0; clear HK; clear HB; have HO306 := n0_; have HI0 := n1_; have HK := n2_; have HB := n3_; clear n0_ n1_ n2_ n3_; clear hb ho7) | ((with_reducible refine gate_dst (N := 11) rfl ?_); refine Kd.R_lit Kd.string _ 9 ?hg (N := 11) ?hd (xs := ([(⟨#[112]⟩ : ByteArray), (⟨#[113]⟩ : ByteArray)] : List ByteArray)) (inner := [.string (⟨#[112]⟩ : ByteArray), .string (⟨#[113]⟩ : ByteArray)]) (ok := fun _ => True) (okp := fun _ => True) ?hr ?hp (fun _ hk => hk) trivial (Below.refl _ _) (Nat.le_refl _) (by simp) ?_; (case hd => rfl); (case hg => rfl); (case hr => exact gq); (case hp => exact (Reps.one (show Kd.M Kd.string _ _ _ (⟨#[112]⟩ : ByteArray) [.string (⟨#[112]⟩ : ByteArray)] from rfl) (Reps.one (show Kd.M Kd.string _ _ _ (⟨#[113]⟩ : ByteArray) [.string (⟨#[113]⟩ : ByteArray)] from rfl) (Reps.none _ _)))); intro v308 w8 ho9 hb hg_ hnew_; clear hg_ hnew_; (first | rw [← Ny307.out] at ho9 | (simp only [Int.reduceToNat] at ho9; rw [← Ny307.out] at ho9)); have n0_ := Aside0.mk (Kd.R_below (by (with_reducible repeat (first | apply Kd.R_alloc | apply Kd.R_drewN | apply Kd.R_drew)); exact HO306.out) hb); have n1_ := Aside0.mk (Kd.R_lower ho9 (keep_size (w := w) (g := g) (row := none) u11_0)); have n2_ := Aside0.mk (IsS95.below u11_3 hb); have n3_ := Aside0.mk (KeepBut.trans u11_0 (KeepBut.of_below hb g none) (.inl rfl)); have n4_ := Aside0.mk (below_step u11_2 hb); clear HO306; clear HI0; clear HK; clear HB; have HO306 := n0_; have HO309 := n1_; have HI0 := n2_; have HK := n3_; have HB := n4_; clear n0_ n1_ n2_ n3_ n4_; clear hb ho9) | ((with_reducible refine gate_callee (f := 84) rfl ?_); refine goesL_ (some 13) rfl rfl Try.func84 (by kernel_rfl) rfl #[.pointer (some ⟨g, 0, none⟩), .int .i64 2] rfl u11_1 ?_; (with_reducible refine (spec_l1Below.calls g s0_0 s0_1 s0_2 2 t310 t311 t312 w0 _ ?side1 ?side2 A2.out).mono ?_); (case side1 => exact s11_8); (case side2 => exact s11_7); rintro e w10 ⟨rfl, hi, hb, hk⟩; refine ⟨_, rfl, ?_⟩; have n0_ := Aside0.mk (Kd.R_mono (Kd.R_keep (IsS95.apart (show IsS95 w0 _ g s0_0 s0_1 s0_2 from by repeat (first | (with_reducible first | exact HI0.out | apply IsS95.alloc | apply IsS95.drewN | apply IsS95.drew | apply IsS95.set_1 | apply IsS95.set_2) | exact HI0.out)) (by (with_reducible repeat (first | apply Kd.R_alloc | apply Kd.R_drewN | apply Kd.R_drew)); exact HO306.out) u11_14) hk (fun _ h => h.2)) (fun _ h => h.1)); have n1_ := Aside0.mk (Kd.R_mono (Kd.R_keep (IsS95.apart (show IsS95 w0 _ g s0_0 s0_1 s0_2 from by repeat (first | (with_reducible first | exact HI0.out | apply IsS95.alloc | apply IsS95.drewN | apply IsS95.drew | apply IsS95.set_1 | apply IsS95.set_2) | exact HI0.out)) (by (with_reducible repeat (first | apply Kd.R_alloc | apply Kd.R_drewN | apply Kd.R_drew)); exact HO309.out) u11_14) hk (fun _ h => h.2)) (fun _ h => h.1)); have n2_ := Aside0.mk (KeepBut.trans u11_0 hk (.inl rfl)); have n3_ := Aside0.mk (hb); have n4_ := Aside0.mk (hi); clear HO306; clear HO309; clear HK; clear HB; clear HI0; have HO306 := n0_; have HO309 := n1_; have HK := n2_; have HB := n3_; have HI0 := n4_; clear n0_ n1_ n2_ n3_ n4_; (try clear hb); (try clear hb2); (try clear hk); (try clear hi); obtain ⟨Ao11, co11, eo11⟩ := Kd.R_slice HO309.out; subst eo11; have q12 : ((ji3) : Int) ≤ ((y307.length : Int) : Int) := of_decide_eq_true (by assumption); obtain ⟨i012, hi012, _, hsz12, _⟩ := info_parts info9; have hcut12 := cut_to (P := Try.prog) 49 9 .i64 Try.underlying49 hi012 Ao11 y307.length co11 (ji3) (of_decide_eq_true (by assumption)) q12 (Kd.R_reads' HO309.out).2.1; have hr12 := Kd.R_take (m := ((ji3) : Int).toNat) HO309.out (by omega); have hy12 : y313.length = ((ji3) : Int).toNat := (by rw [Ny313.out, List.length_take]; omega); rw [← Ny313.out] at hr12; rw [← hy12] at hr12 hcut12; clear hy12 hi012 hsz12 HO309; have HO315 := Aside0.mk hr12; clear hr12; replace q12 := eq_true q12))
   go_loopg [3, 18] k (fun kq v3 v18 w' => ∃ (x3_1 : List (S30)) (x18_1 : Int) (x1001_1 : Int) (x1002_1 : Int), v18 = .int .i64 x18_1 ∧ Aside0 (spec_l6Draw.l0 kq x3_1 y313 y313 (y313.length : Int) x18_1 s0_0 x1001_1 x1002_1 = some (r1, r2, r3)) ∧ Aside0 (kq ≤ k) ∧ Aside0 (Kd.R k30 30 w' w.heap.size (fun _ => True) v3 x3_1) ∧ Aside0 (Kd.R Kd.string 9 w' w.heap.size (fun _ => True) (.slice Ao11 y313.length co11) y313) ∧ Aside0 (Kd.R Kd.string 9 w' w.heap.size (fun _ => True) (.slice Ao11 y313.length co11) y313) ∧ Aside0 (IsS95 w0 w' g s0_0 x1001_1 x1002_1) ∧ Aside0 (KeepBut w w' g none) ∧ Aside0 (Below w0.heap.size w0 w'))
   case atStart => exact ⟨(y304), (0), (t311), (t312), u11_15, H', ⟨Nat.le_refl _⟩, ⟨by (with_reducible repeat (first | apply Kd.R_alloc | apply Kd.R_drewN | apply Kd.R_drew)); exact HO306.out⟩, ⟨by (with_reducible repeat (first | apply Kd.R_alloc | apply Kd.R_drewN | apply Kd.R_drew)); exact HO315.out⟩, ⟨by (with_reducible repeat (first | apply Kd.R_alloc | apply Kd.R_drewN | apply Kd.R_drew)); exact HO315.out⟩, ⟨s11_8⟩, ⟨s11_9⟩, ⟨s11_7⟩⟩
   case round =>
    clear H'
    try clear q1
    try clear p2
    try clear c4
    try clear c4b0
    try clear c4b1
    try clear c5
    try clear c5b0
    try clear c5b1
    try clear c6
    try clear p6
    try clear c8
    try clear q12
    try clear q12
    obtain ⟨x3_1, x18_1, x1001_1, x1002_1, rfl, HA, HK1, HO_3, HO_4, HO_16, HI0, HK, HB⟩ := hrel
    cases gk with
    | zero => exact absurd HA.out (by simp [spec_l6Draw.l0])
    | succ k1 =>
     have H := HA.out
     clear HA
     simp only [spec_l6Draw.l0] at H
     by_cases c13 : x18_1 < (y313.length : Int)
     ·rw [if_pos c13] at H
      have c13b0 : decide (x18_1 < (y313.length : Int)) = true := decide_eq_true c13
      clear c13
      by_cases c14 : 0 ≤ x18_1
      ·rw [if_pos c14] at H
       have c14b0 : decide (0 ≤ x18_1) = true := decide_eq_true c14
       clear c14
       by_cases c15 : x18_1 < (y313.length : Int)
       ·rw [if_pos c15] at H
        have c15b0 : decide (x18_1 < (y313.length : Int)) = true := decide_eq_true c15
        clear c15
        replace H := Option.bind_eq_some_iff.mp H
        obtain ⟨⟨t317, t318, t319⟩, A160, H⟩ := H
        replace H : ((spec_AddDevice.f k1 x3_1 (rdOf ByteArray.empty y313 x18_1) 1 (⟨#[]⟩ : ByteArray) 0 0 0 0 t317).bind fun bt320 => (spec_l6Draw.l0 k1 bt320.1 y313 y313 (y313.length : Int) (wrap64 (x18_1 + 1)) s0_0 t318 t319)) = some (r1, r2, r3) := H
        have A16 := Aside0.mk A160
        clear A160
        replace H := Option.bind_eq_some_iff.mp H
        obtain ⟨⟨t320, t323⟩, A170, H⟩ := H
        replace H : (spec_l6Draw.l0 k1 t320 y313 y313 (y313.length : Int) (wrap64 (x18_1 + 1)) s0_0 t318 t319) = some (r1, r2, r3) := H
        have A17 := Aside0.mk A170
        clear A170
        have H' := Aside0.mk H
        clear H
        have p316 : 0 ≤ (x18_1 : Int) := of_decide_eq_true (by assumption)
        have q316 : x18_1 < (y313.length : Int) := of_decide_eq_true (by assumption)
        obtain ⟨ad316, e316, hx316_0⟩ := Kd.at_string (Kd.R_reads' HO_16.out).2.2 x18_1 p316 q316
        cases e316
        replace p316 := eq_true p316
        replace q316 := eq_true q316
        go_wp2_with (first | ((with_reducible refine gate_callee (f := 84) rfl ?_); refine goesL_ (some 26) rfl rfl Try.func84 (by kernel_rfl) rfl #[.pointer (some ⟨g, 0, none⟩), .int .i64 80] rfl u11_1 ?_; (with_reducible refine (spec_l1Below.calls g s0_0 x1001_1 x1002_1 80 t317 t318 t319 w0 _ ?side1 ?side2 A16.out).mono ?_); (case side1 => exact s11_8); (case side2 => exact s11_7); rintro e w18 ⟨rfl, hi, hb, hk⟩; refine ⟨_, rfl, ?_⟩; have n0_ := Aside0.mk (Kd.R_mono (Kd.R_keep (IsS95.apart (show IsS95 w0 _ g s0_0 x1001_1 x1002_1 from by repeat (first | (with_reducible first | exact HI0.out | apply IsS95.alloc | apply IsS95.drewN | apply IsS95.drew | apply IsS95.set_1 | apply IsS95.set_2) | exact HI0.out)) u11_4 u11_14) hk (fun _ h => h.2)) (fun _ h => h.1)); have n1_ := Aside0.mk (Kd.R_mono (Kd.R_keep (IsS95.apart (show IsS95 w0 _ g s0_0 x1001_1 x1002_1 from by repeat (first | (with_reducible first | exact HI0.out | apply IsS95.alloc | apply IsS95.drewN | apply IsS95.drew | apply IsS95.set_1 | apply IsS95.set_2) | exact HI0.out)) u11_6 u11_14) hk (fun _ h => h.2)) (fun _ h => h.1)); have n2_ := Aside0.mk (Kd.R_mono (Kd.R_keep (IsS95.apart (show IsS95 w0 _ g s0_0 x1001_1 x1002_1 from by repeat (first | (with_reducible first | exact HI0.out | apply IsS95.alloc | apply IsS95.drewN | apply IsS95.drew | apply IsS95.set_1 | apply IsS95.set_2) | exact HI0.out)) u11_10 u11_14) hk (fun _ h => h.2)) (fun _ h => h.1)); have n3_ := Aside0.mk (KeepBut.trans u11_0 hk (.inl rfl)); have n4_ := Aside0.mk (hb); have n5_ := Aside0.mk (hi); clear HO_3; clear HO_4; clear HO_16; clear HK; clear HB; clear HI0; have HO_3 := n0_; have HO_4 := n1_; have HO_16 := n2_; have HK := n3_; have HB := n4_; have HI0 := n5_; clear n0_ n1_ n2_ n3_ n4_ n5_; (try clear hb); (try clear hb2); (try clear hk); (try clear hi); obtain ⟨Ao19, co19, eo19⟩ := Kd.R_slice HO_3.out; subst eo19) | ((with_reducible refine gate_callee (f := 47) rfl ?_); refine goesL_ (some 28) rfl rfl Try.func47 (by kernel_rfl) rfl #[.slice Ao19 x3_1.length co19, .agg #[.string (rdOf ByteArray.empty y313 x18_1), .int .i64 1, .string (⟨#[]⟩ : ByteArray), .int .i64 0, .int .i64 0, .int .i64 0, .int .i64 0, .int .i64 t317]] rfl u11_1 ?_; (with_reducible refine (spec_AddDevice.calls k1 _ _ x3_1 (rdOf ByteArray.empty y313 x18_1) 1 (⟨#[]⟩ : ByteArray) 0 0 0 0 t317 t320 t323 _ ?side1 ?side2 A17.out).mono ?_); (case side1 => exact y11_0); (case side2 => exact (Kd.R_reads' HO_3.out).2.1); rintro e w20 ⟨v321, rfl, ho0, hb⟩; refine ⟨_, rfl, ?_⟩; have n0_ := Aside0.mk (Kd.R_elder' u11_4 (Kd.R_base ho0) hb); have n1_ := Aside0.mk (Kd.R_below u11_6 hb); have n2_ := Aside0.mk (Kd.R_below u11_10 hb); have n3_ := Aside0.mk (Kd.R_lower (Kd.R_new' ho0 (Kd.R_lt u11_4)) (keep_size (w := w) (g := g) (row := none) u11_0)); have n4_ := Aside0.mk (IsS95.below u11_3 hb); have n5_ := Aside0.mk (KeepBut.trans u11_0 (KeepBut.of_below hb g none) (.inl rfl)); have n6_ := Aside0.mk (below_step u11_2 hb); clear HO_3; clear HO_4; clear HO_16; clear HI0; clear HK; clear HB; have HO_3 := n0_; have HO_4 := n1_; have HO_16 := n2_; have HO322 := n3_; have HI0 := n4_; have HK := n5_; have HB := n6_; clear n0_ n1_ n2_ n3_ n4_ n5_ n6_; (try clear hb); (try clear hb2); (try clear hk); (try clear hi); (try clear ho0)))
        go_roundg k1
        case measure => have := HK1.out; omega
        case rel => exact ⟨(t320), (wrap64 (x18_1 + 1)), (t318), (t319), u11_15, H', ⟨by have := HK1.out; omega⟩, ⟨by (with_reducible repeat (first | apply Kd.R_alloc | apply Kd.R_drewN | apply Kd.R_drew)); exact Kd.R_mono HO322.out (fun _ hk => trivial)⟩, ⟨by (with_reducible repeat (first | apply Kd.R_alloc | apply Kd.R_drewN | apply Kd.R_drew)); exact HO_4.out⟩, ⟨by (with_reducible repeat (first | apply Kd.R_alloc | apply Kd.R_drewN | apply Kd.R_drew)); exact HO_16.out⟩, ⟨s11_8⟩, ⟨s11_9⟩, ⟨s11_7⟩⟩
       ·rw [if_neg c15] at H
        exact absurd H (by simp)
      ·rw [if_neg c14] at H
       exact absurd H (by simp)
     ·rw [if_neg c13] at H
      have c13b0 : decide (x18_1 < (y313.length : Int)) = false := decide_eq_false c13
      clear c13
      obtain ⟨y324, hy324⟩ : ∃ y_ : List ByteArray, y_ = (([(⟨#[97]⟩ : ByteArray), (⟨#[98]⟩ : ByteArray), (⟨#[99]⟩ : ByteArray), (⟨#[114]⟩ : ByteArray)] : List ByteArray)) := ⟨_, rfl⟩
      replace H : ((spec_l1Below.f s0_0 x1001_1 x1002_1 5).bind fun bt327 => (if 0 ≤ bt327.1 then (if bt327.1 ≤ (y324.length : Int) then ((some (y324.take (bt327.1 : Int).toNat : List ByteArray)).bind fun y330 => (spec_l6Draw.l1 k1 x3_1 y313 y330 y330 (y330.length : Int) 0 s0_0 bt327.2.1 bt327.2.2)) else (none)) else (none))) = some (r1, r2, r3) := by first | (rw [hy324]; with_reducible exact H) | (have H2_ := (Option.bind_some _ _).symm.trans H; rw [hy324]; with_reducible exact H2_) | (have H2_ := (Option.bind_some _ _).symm.trans H; with_reducible exact H2_) | with_reducible exact H | (rw [hy324]; exact H) | exact H
      have Ny324 := Aside0.mk hy324
      clear hy324
      replace H := Option.bind_eq_some_iff.mp H
      obtain ⟨⟨t327, t328, t329⟩, A210, H⟩ := H
      replace H : (if 0 ≤ t327 then (if t327 ≤ (y324.length : Int) then ((some (y324.take (t327 : Int).toNat : List ByteArray)).bind fun y330 => (spec_l6Draw.l1 k1 x3_1 y313 y330 y330 (y330.length : Int) 0 s0_0 t328 t329)) else (none)) else (none)) = some (r1, r2, r3) := H
      have A21 := Aside0.mk A210
      clear A210
      by_cases c22 : 0 ≤ t327
      ·rw [if_pos c22] at H
       have c22b0 := eq_true c22
       have c22b1 : decide (0 ≤ t327) = true := decide_eq_true c22
       clear c22
       by_cases c23 : t327 ≤ (y324.length : Int)
       ·rw [if_pos c23] at H
        have c23b0 := eq_true c23
        have c23b1 : decide (t327 ≤ (y324.length : Int)) = true := decide_eq_true c23
        clear c23
        obtain ⟨y330, hy330⟩ : ∃ y_ : List ByteArray, y_ = (y324.take (t327 : Int).toNat) := ⟨_, rfl⟩
        replace H : (spec_l6Draw.l1 k1 x3_1 y313 y330 y330 (y330.length : Int) 0 s0_0 t328 t329) = some (r1, r2, r3) := by first | (rw [hy330]; with_reducible exact H) | (have H2_ := (Option.bind_some _ _).symm.trans H; rw [hy330]; with_reducible exact H2_) | (have H2_ := (Option.bind_some _ _).symm.trans H; with_reducible exact H2_) | with_reducible exact H | (rw [hy330]; exact H) | exact H
        have Ny330 := Aside0.mk hy330
        clear hy330
        have H' := Aside0.mk H
        clear H
        go_wp2_with (first | ((with_reducible refine gate_dst (N := 32) rfl ?_); refine Kd.R_lit Kd.string _ 9 ?hg (N := 32) ?hd (xs := ([(⟨#[97]⟩ : ByteArray), (⟨#[98]⟩ : ByteArray), (⟨#[99]⟩ : ByteArray), (⟨#[114]⟩ : ByteArray)] : List ByteArray)) (inner := [.string (⟨#[97]⟩ : ByteArray), .string (⟨#[98]⟩ : ByteArray), .string (⟨#[99]⟩ : ByteArray), .string (⟨#[114]⟩ : ByteArray)]) (ok := fun _ => True) (okp := fun _ => True) ?hr ?hp (fun _ hk => hk) trivial (Below.refl _ _) (Nat.le_refl _) (by simp) ?_; (case hd => rfl); (case hg => rfl); (case hr => exact gq); (case hp => exact (Reps.one (show Kd.M Kd.string _ _ _ (⟨#[97]⟩ : ByteArray) [.string (⟨#[97]⟩ : ByteArray)] from rfl) (Reps.one (show Kd.M Kd.string _ _ _ (⟨#[98]⟩ : ByteArray) [.string (⟨#[98]⟩ : ByteArray)] from rfl) (Reps.one (show Kd.M Kd.string _ _ _ (⟨#[99]⟩ : ByteArray) [.string (⟨#[99]⟩ : ByteArray)] from rfl) (Reps.one (show Kd.M Kd.string _ _ _ (⟨#[114]⟩ : ByteArray) [.string (⟨#[114]⟩ : ByteArray)] from rfl) (Reps.none _ _)))))); intro v325 w24 ho25 hb hg_ hnew_; clear hg_ hnew_; (first | rw [← Ny324.out] at ho25 | (simp only [Int.reduceToNat] at ho25; rw [← Ny324.out] at ho25)); have n0_ := Aside0.mk (Kd.R_below u11_4 hb); have n1_ := Aside0.mk (Kd.R_elder' u11_6 (Kd.R_base ho25) hb); have n2_ := Aside0.mk (Kd.R_elder' u11_10 (Kd.R_base ho25) hb); have n3_ := Aside0.mk (Kd.R_lower (Kd.R_new' (Kd.R_new' ho25 (Kd.R_lt u11_6)) (Kd.R_lt u11_10)) (keep_size (w := w) (g := g) (row := none) u11_0)); have n4_ := Aside0.mk (IsS95.below u11_3 hb); have n5_ := Aside0.mk (KeepBut.trans u11_0 (KeepBut.of_below hb g none) (.inl rfl)); have n6_ := Aside0.mk (below_step u11_2 hb); clear HO_3; clear HO_4; clear HO_16; clear HI0; clear HK; clear HB; have HO_3 := n0_; have HO_4 := n1_; have HO_16 := n2_; have HO326 := n3_; have HI0 := n4_; have HK := n5_; have HB := n6_; clear n0_ n1_ n2_ n3_ n4_ n5_ n6_; clear hb ho25) | ((with_reducible refine gate_callee (f := 84) rfl ?_); refine goesL_ (some 34) rfl rfl Try.func84 (by kernel_rfl) rfl #[.pointer (some ⟨g, 0, none⟩), .int .i64 5] rfl u11_1 ?_; (with_reducible refine (spec_l1Below.calls g s0_0 x1001_1 x1002_1 5 t327 t328 t329 w0 _ ?side1 ?side2 A21.out).mono ?_); (case side1 => exact s11_8); (case side2 => exact s11_7); rintro e w26 ⟨rfl, hi, hb, hk⟩; refine ⟨_, rfl, ?_⟩; have n0_ := Aside0.mk (Kd.R_mono (Kd.R_keep (IsS95.apart (show IsS95 w0 _ g s0_0 x1001_1 x1002_1 from by repeat (first | (with_reducible first | exact HI0.out | apply IsS95.alloc | apply IsS95.drewN | apply IsS95.drew | apply IsS95.set_1 | apply IsS95.set_2) | exact HI0.out)) u11_4 u11_14) hk (fun _ h => h.2)) (fun _ h => h.1)); have n1_ := Aside0.mk (Kd.R_mono (Kd.R_keep (IsS95.apart (show IsS95 w0 _ g s0_0 x1001_1 x1002_1 from by repeat (first | (with_reducible first | exact HI0.out | apply IsS95.alloc | apply IsS95.drewN | apply IsS95.drew | apply IsS95.set_1 | apply IsS95.set_2) | exact HI0.out)) u11_6 u11_14) hk (fun _ h => h.2)) (fun _ h => h.1)); have n2_ := Aside0.mk (Kd.R_mono (Kd.R_keep (IsS95.apart (show IsS95 w0 _ g s0_0 x1001_1 x1002_1 from by repeat (first | (with_reducible first | exact HI0.out | apply IsS95.alloc | apply IsS95.drewN | apply IsS95.drew | apply IsS95.set_1 | apply IsS95.set_2) | exact HI0.out)) u11_10 u11_14) hk (fun _ h => h.2)) (fun _ h => h.1)); have n3_ := Aside0.mk (Kd.R_mono (Kd.R_keep (IsS95.apart (show IsS95 w0 _ g s0_0 x1001_1 x1002_1 from by repeat (first | (with_reducible first | exact HI0.out | apply IsS95.alloc | apply IsS95.drewN | apply IsS95.drew | apply IsS95.set_1 | apply IsS95.set_2) | exact HI0.out)) (by (with_reducible repeat (first | apply Kd.R_alloc | apply Kd.R_drewN | apply Kd.R_drew)); exact HO326.out) u11_14) hk (fun _ h => h.2)) (fun _ h => h.1)); have n4_ := Aside0.mk (KeepBut.trans u11_0 hk (.inl rfl)); have n5_ := Aside0.mk (hb); have n6_ := Aside0.mk (hi); clear HO_3; clear HO_4; clear HO_16; clear HO326; clear HK; clear HB; clear HI0; have HO_3 := n0_; have HO_4 := n1_; have HO_16 := n2_; have HO326 := n3_; have HK := n4_; have HB := n5_; have HI0 := n6_; clear n0_ n1_ n2_ n3_ n4_ n5_ n6_; (try clear hb); (try clear hb2); (try clear hk); (try clear hi); obtain ⟨Ao27, co27, eo27⟩ := Kd.R_slice HO326.out; subst eo27; have q28 : (t327 : Int) ≤ ((y324.length : Int) : Int) := of_decide_eq_true (by assumption); obtain ⟨i028, hi028, _, hsz28, _⟩ := info_parts info9; have hcut28 := cut_to (P := Try.prog) 49 9 .i64 Try.underlying49 hi028 Ao27 y324.length co27 t327 (of_decide_eq_true (by assumption)) q28 (Kd.R_reads' HO326.out).2.1; have hr28 := Kd.R_take (m := (t327 : Int).toNat) HO326.out (by omega); have hy28 : y330.length = (t327 : Int).toNat := (by rw [Ny330.out, List.length_take]; omega); rw [← Ny330.out] at hr28; rw [← hy28] at hr28 hcut28; clear hy28 hi028 hsz28 HO326; have HO332 := Aside0.mk hr28; clear hr28; replace q28 := eq_true q28))
        go_loopg [3, 38] k1 (fun kq v3 v38 w' => ∃ (x3_2 : List (S30)) (x38_2 : Int) (x1001_2 : Int) (x1002_2 : Int), v38 = .int .i64 x38_2 ∧ Aside0 (spec_l6Draw.l1 kq x3_2 y313 y330 y330 (y330.length : Int) x38_2 s0_0 x1001_2 x1002_2 = some (r1, r2, r3)) ∧ Aside0 (kq ≤ k1) ∧ Aside0 (Kd.R k30 30 w' w.heap.size (fun _ => True) v3 x3_2) ∧ Aside0 (Kd.R Kd.string 9 w' w.heap.size (fun k_ => some k_ ≠ ((.slice Ao27 y330.length co27) : Value).ownBlock ∧ some k_ ≠ ((.slice Ao27 y330.length co27) : Value).ownBlock) (.slice Ao11 y313.length co11) y313) ∧ Aside0 (Kd.R Kd.string 9 w' w.heap.size (fun k_ => some k_ ≠ ((.slice Ao11 y313.length co11) : Value).ownBlock) (.slice Ao27 y330.length co27) y330) ∧ Aside0 (Kd.R Kd.string 9 w' w.heap.size (fun k_ => some k_ ≠ ((.slice Ao11 y313.length co11) : Value).ownBlock) (.slice Ao27 y330.length co27) y330) ∧ Aside0 (IsS95 w0 w' g s0_0 x1001_2 x1002_2) ∧ Aside0 (KeepBut w w' g none) ∧ Aside0 (Below w0.heap.size w0 w'))
        case atStart => exact ⟨(x3_1), (0), (t328), (t329), u11_15, H', ⟨Nat.le_refl _⟩, ⟨by (with_reducible repeat (first | apply Kd.R_alloc | apply Kd.R_drewN | apply Kd.R_drew)); exact HO_3.out⟩, ⟨by (with_reducible repeat (first | apply Kd.R_alloc | apply Kd.R_drewN | apply Kd.R_drew)); exact Kd.R_mono HO_4.out (fun _ hk => ⟨fun e_ => hk.2 (e_.trans obk), fun e_ => hk.2 (e_.trans obk)⟩)⟩, ⟨by (with_reducible repeat (first | apply Kd.R_alloc | apply Kd.R_drewN | apply Kd.R_drew)); exact Kd.R_mono HO332.out (fun _ hk => hk.1.2)⟩, ⟨by (with_reducible repeat (first | apply Kd.R_alloc | apply Kd.R_drewN | apply Kd.R_drew)); exact Kd.R_mono HO332.out (fun _ hk => hk.1.2)⟩, ⟨s11_8⟩, ⟨s11_9⟩, ⟨s11_7⟩⟩
        case round =>
         clear H'
         try clear c1
         try clear q1
         try clear c2
         try clear p2
         try clear q2
         try clear p3
         try clear q3
         try clear hx3
         try clear c4
         try clear c4b0
         try clear c4b1
         try clear c5
         try clear c5b0
         try clear c5b1
         try clear c6
         try clear p6
         try clear c8
         try clear q12
         try clear c13
         try clear c13b0
         try clear c14
         try clear c14b0
         try clear c15
         try clear c15b0
         try clear c22
         try clear c22b0
         try clear c22b1
         try clear c23
         try clear c23b0
         try clear c23b1
         try clear q28
         try clear hx316_0
         try clear p2
         try clear p316
         try clear p6
         try clear q1
         try clear q12
         try clear q28
         try clear q316
         obtain ⟨x3_2, x38_2, x1001_2, x1002_2, rfl, HA, HK2, HO_3, HO_4, HO_7, HO_36, HI0, HK, HB⟩ := hrel
         cases gk with
         | zero => exact absurd HA.out (by simp [spec_l6Draw.l1])
         | succ k2 =>
          have H := HA.out
          clear HA
          simp only [spec_l6Draw.l1] at H
          by_cases c29 : x38_2 < (y330.length : Int)
          ·rw [if_pos c29] at H
           have c29b0 : decide (x38_2 < (y330.length : Int)) = true := decide_eq_true c29
           clear c29
           by_cases c30 : 0 ≤ x38_2
           ·rw [if_pos c30] at H
            have c30b0 : decide (0 ≤ x38_2) = true := decide_eq_true c30
            clear c30
            by_cases c31 : x38_2 < (y330.length : Int)
            ·rw [if_pos c31] at H
             have c31b0 : decide (x38_2 < (y330.length : Int)) = true := decide_eq_true c31
             clear c31
             replace H := Option.bind_eq_some_iff.mp H
             obtain ⟨⟨t334, t335, t336⟩, A320, H⟩ := H
             replace H : ((spec_l6Nozzle.f s0_0 t335 t336 (rdOf ByteArray.empty y330 x38_2) t334).bind fun bt337 => ((spec_AddDevice.f k2 x3_2 bt337.1 bt337.2.1 bt337.2.2.1 bt337.2.2.2.1 bt337.2.2.2.2.1 bt337.2.2.2.2.2.1 bt337.2.2.2.2.2.2.1 bt337.2.2.2.2.2.2.2.1).bind fun bt347 => (spec_l6Draw.l1 k2 bt347.1 y313 y330 y330 (y330.length : Int) (wrap64 (x38_2 + 1)) s0_0 bt337.2.2.2.2.2.2.2.2.1 bt337.2.2.2.2.2.2.2.2.2))) = some (r1, r2, r3) := H
             have A32 := Aside0.mk A320
             clear A320
             replace H := Option.bind_eq_some_iff.mp H
             obtain ⟨⟨t337, t338, t339, t340, t341, t342, t343, t344, t345, t346⟩, A330, H⟩ := H
             replace H : ((spec_AddDevice.f k2 x3_2 t337 t338 t339 t340 t341 t342 t343 t344).bind fun bt347 => (spec_l6Draw.l1 k2 bt347.1 y313 y330 y330 (y330.length : Int) (wrap64 (x38_2 + 1)) s0_0 t345 t346)) = some (r1, r2, r3) := H
             have A33 := Aside0.mk A330
             clear A330
             replace H := Option.bind_eq_some_iff.mp H
             obtain ⟨⟨t347, t350⟩, A340, H⟩ := H
             replace H : (spec_l6Draw.l1 k2 t347 y313 y330 y330 (y330.length : Int) (wrap64 (x38_2 + 1)) s0_0 t345 t346) = some (r1, r2, r3) := H
             have A34 := Aside0.mk A340
             clear A340
             have H' := Aside0.mk H
             clear H
             have p333 : 0 ≤ (x38_2 : Int) := of_decide_eq_true (by assumption)
             have q333 : x38_2 < (y330.length : Int) := of_decide_eq_true (by assumption)
             obtain ⟨ad333, e333, hx333_0⟩ := Kd.at_string (Kd.R_reads' HO_36.out).2.2 x38_2 p333 q333
             cases e333
             replace p333 := eq_true p333
             replace q333 := eq_true q333
             go_wp2_with (first | ((with_reducible refine gate_callee (f := 86) rfl ?_); refine goesL_ (some 48) rfl rfl Try.func86 (by kernel_rfl) rfl #[.pointer (some ⟨g, 0, none⟩), .slice Ao11 y313.length co11] rfl u11_1 ?_; (with_reducible refine (spec_l1Str.calls g s0_0 x1001_2 x1002_2 _ _ y313 t334 t335 t336 w0 _ ?side1 ?side2 ?side3 ?side4 ?side5 A32.out).mono ?_); (case side1 => exact s11_8); (case side2 => exact s11_7); (case side3 => repeat (first | exact (Kd.R_reads' HO_4.out).2.2 | (with_reducible refine Kd.C_alloc ?_ _) | (with_reducible refine Kd.C_drewN ?_ _) | (with_reducible refine Kd.C_drew ?_))); (case side4 => exact (Kd.R_reads' HO_4.out).2.1); (case side5 => exact far_slice (IsS95.own_ne HI0.out HO_4.out u11_14)); rintro e w35 ⟨rfl, hi, hb, hk⟩; refine ⟨_, rfl, ?_⟩; have n0_ := Aside0.mk (Kd.R_mono (Kd.R_keep (IsS95.apart (show IsS95 w0 _ g s0_0 x1001_2 x1002_2 from by repeat (first | (with_reducible first | exact HI0.out | apply IsS95.alloc | apply IsS95.drewN | apply IsS95.drew | apply IsS95.set_1 | apply IsS95.set_2) | exact HI0.out)) u11_4 u11_14) hk (fun _ h => h.2)) (fun _ h => h.1)); have n1_ := Aside0.mk (Kd.R_mono (Kd.R_keep (IsS95.apart (show IsS95 w0 _ g s0_0 x1001_2 x1002_2 from by repeat (first | (with_reducible first | exact HI0.out | apply IsS95.alloc | apply IsS95.drewN | apply IsS95.drew | apply IsS95.set_1 | apply IsS95.set_2) | exact HI0.out)) u11_6 u11_14) hk (fun _ h => h.2)) (fun _ h => h.1)); have n2_ := Aside0.mk (Kd.R_mono (Kd.R_keep (IsS95.apart (show IsS95 w0 _ g s0_0 x1001_2 x1002_2 from by repeat (first | (with_reducible first | exact HI0.out | apply IsS95.alloc | apply IsS95.drewN | apply IsS95.drew | apply IsS95.set_1 | apply IsS95.set_2) | exact HI0.out)) u11_5 u11_14) hk (fun _ h => h.2)) (fun _ h => h.1)); have n3_ := Aside0.mk (Kd.R_mono (Kd.R_keep (IsS95.apart (show IsS95 w0 _ g s0_0 x1001_2 x1002_2 from by repeat (first | (with_reducible first | exact HI0.out | apply IsS95.alloc | apply IsS95.drewN | apply IsS95.drew | apply IsS95.set_1 | apply IsS95.set_2) | exact HI0.out)) u11_12 u11_14) hk (fun _ h => h.2)) (fun _ h => h.1)); have n4_ := Aside0.mk (KeepBut.trans u11_0 hk (.inl rfl)); have n5_ := Aside0.mk (hb); have n6_ := Aside0.mk (hi); clear HO_3; clear HO_4; clear HO_7; clear HO_36; clear HK; clear HB; clear HI0; have HO_3 := n0_; have HO_4 := n1_; have HO_7 := n2_; have HO_36 := n3_; have HK := n4_; have HB := n5_; have HI0 := n6_; clear n0_ n1_ n2_ n3_ n4_ n5_ n6_; (try clear hb); (try clear hb2); (try clear hk); (try clear hi)) | ((with_reducible refine gate_callee (f := 85) rfl ?_); refine goesL_ (some 49) rfl rfl Try.func85 (by kernel_rfl) rfl #[.pointer (some ⟨g, 0, none⟩), .string (rdOf ByteArray.empty y330 x38_2), .string t334] rfl u11_1 ?_; (with_reducible refine (spec_l6Nozzle.calls g s0_0 t335 t336 (rdOf ByteArray.empty y330 x38_2) t334 t337 t338 t339 t340 t341 t342 t343 t344 t345 t346 w0 _ ?side1 ?side2 A33.out).mono ?_); (case side1 => exact s11_8); (case side2 => exact s11_7); rintro e w36 ⟨rfl, hi, hb, hk⟩; refine ⟨_, rfl, ?_⟩; have n0_ := Aside0.mk (Kd.R_mono (Kd.R_keep (IsS95.apart (show IsS95 w0 _ g s0_0 t335 t336 from by repeat (first | (with_reducible first | exact HI0.out | apply IsS95.alloc | apply IsS95.drewN | apply IsS95.drew | apply IsS95.set_1 | apply IsS95.set_2) | exact HI0.out)) u11_4 u11_14) hk (fun _ h => h.2)) (fun _ h => h.1)); have n1_ := Aside0.mk (Kd.R_mono (Kd.R_keep (IsS95.apart (show IsS95 w0 _ g s0_0 t335 t336 from by repeat (first | (with_reducible first | exact HI0.out | apply IsS95.alloc | apply IsS95.drewN | apply IsS95.drew | apply IsS95.set_1 | apply IsS95.set_2) | exact HI0.out)) u11_6 u11_14) hk (fun _ h => h.2)) (fun _ h => h.1)); have n2_ := Aside0.mk (Kd.R_mono (Kd.R_keep (IsS95.apart (show IsS95 w0 _ g s0_0 t335 t336 from by repeat (first | (with_reducible first | exact HI0.out | apply IsS95.alloc | apply IsS95.drewN | apply IsS95.drew | apply IsS95.set_1 | apply IsS95.set_2) | exact HI0.out)) u11_5 u11_14) hk (fun _ h => h.2)) (fun _ h => h.1)); have n3_ := Aside0.mk (Kd.R_mono (Kd.R_keep (IsS95.apart (show IsS95 w0 _ g s0_0 t335 t336 from by repeat (first | (with_reducible first | exact HI0.out | apply IsS95.alloc | apply IsS95.drewN | apply IsS95.drew | apply IsS95.set_1 | apply IsS95.set_2) | exact HI0.out)) u11_12 u11_14) hk (fun _ h => h.2)) (fun _ h => h.1)); have n4_ := Aside0.mk (KeepBut.trans u11_0 hk (.inl rfl)); have n5_ := Aside0.mk (hb); have n6_ := Aside0.mk (hi); clear HO_3; clear HO_4; clear HO_7; clear HO_36; clear HK; clear HB; clear HI0; have HO_3 := n0_; have HO_4 := n1_; have HO_7 := n2_; have HO_36 := n3_; have HK := n4_; have HB := n5_; have HI0 := n6_; clear n0_ n1_ n2_ n3_ n4_ n5_ n6_; (try clear hb); (try clear hb2); (try clear hk); (try clear hi); obtain ⟨Ao37, co37, eo37⟩ := Kd.R_slice HO_3.out; subst eo37) | ((with_reducible refine gate_callee (f := 47) rfl ?_); refine goesL_ (some 50) rfl rfl Try.func47 (by kernel_rfl) rfl #[.slice Ao37 x3_2.length co37, .agg #[.string t337, .int .i64 t338, .string t339, .int .i64 t340, .int .i64 t341, .int .i64 t342, .int .i64 t343, .int .i64 t344]] rfl u11_1 ?_; (with_reducible refine (spec_AddDevice.calls k2 _ _ x3_2 t337 t338 t339 t340 t341 t342 t343 t344 t347 t350 _ ?side1 ?side2 A34.out).mono ?_); (case side1 => exact y11_0); (case side2 => exact (Kd.R_reads' HO_3.out).2.1); rintro e w38 ⟨v348, rfl, ho0, hb⟩; refine ⟨_, rfl, ?_⟩; have n0_ := Aside0.mk (Kd.R_elder' u11_4 (Kd.R_base ho0) hb); have n1_ := Aside0.mk (Kd.R_below u11_6 hb); have n2_ := Aside0.mk (Kd.R_below u11_5 hb); have n3_ := Aside0.mk (Kd.R_below u11_12 hb); have n4_ := Aside0.mk (Kd.R_lower (Kd.R_new' ho0 (Kd.R_lt u11_4)) (keep_size (w := w) (g := g) (row := none) u11_0)); have n5_ := Aside0.mk (IsS95.below u11_3 hb); have n6_ := Aside0.mk (KeepBut.trans u11_0 (KeepBut.of_below hb g none) (.inl rfl)); have n7_ := Aside0.mk (below_step u11_2 hb); clear HO_3; clear HO_4; clear HO_7; clear HO_36; clear HI0; clear HK; clear HB; have HO_3 := n0_; have HO_4 := n1_; have HO_7 := n2_; have HO_36 := n3_; have HO349 := n4_; have HI0 := n5_; have HK := n6_; have HB := n7_; clear n0_ n1_ n2_ n3_ n4_ n5_ n6_ n7_; (try clear hb); (try clear hb2); (try clear hk); (try clear hi); (try clear ho0)))
             go_roundg k2
             case measure => have := HK1.out; have := HK2.out; omega
             case rel => exact ⟨(t347), (wrap64 (x38_2 + 1)), (t345), (t346), u11_15, H', ⟨by have := HK1.out; have := HK2.out; omega⟩, ⟨by (with_reducible repeat (first | apply Kd.R_alloc | apply Kd.R_drewN | apply Kd.R_drew)); exact Kd.R_mono HO349.out (fun _ hk => trivial)⟩, ⟨by (with_reducible repeat (first | apply Kd.R_alloc | apply Kd.R_drewN | apply Kd.R_drew)); exact HO_4.out⟩, ⟨by (with_reducible repeat (first | apply Kd.R_alloc | apply Kd.R_drewN | apply Kd.R_drew)); exact HO_7.out⟩, ⟨by (with_reducible repeat (first | apply Kd.R_alloc | apply Kd.R_drewN | apply Kd.R_drew)); exact HO_36.out⟩, ⟨s11_8⟩, ⟨s11_9⟩, ⟨s11_7⟩⟩
            ·rw [if_neg c31] at H
             exact absurd H (by simp)
           ·rw [if_neg c30] at H
            exact absurd H (by simp)
          ·rw [if_neg c29] at H
           have c29b0 : decide (x38_2 < (y330.length : Int)) = false := decide_eq_false c29
           clear c29
           have HC39 := Aside0.mk H
           clear H
           go_upto_region 14 with (fail)
           go_cut [60] (fun v60 wc => ∃ (kq : Nat) (x60_38 : Bool) (x1001_38 : Int) (x1002_38 : Int), v60 = .bool x60_38 ∧ Aside0 (spec_l6Draw.j2 kq x3_2 y330 x60_38 s0_0 x1001_38 x1002_38 = some (r1, r2, r3)) ∧ Aside0 (kq ≤ k2) ∧ Aside0 (Kd.R k30 30 wc w.heap.size (fun _ => True) u3 x3_2) ∧ Aside0 (Kd.R Kd.string 9 wc w.heap.size (fun _ => True) (.slice Ao27 y330.length co27) y330) ∧ Aside0 (IsS95 w0 wc g s0_0 x1001_38 x1002_38) ∧ Aside0 (KeepBut w wc g none) ∧ Aside0 (Below w0.heap.size w0 wc))
           case first =>
            have H := HC39.out
            clear HC39
            by_cases c40 : (y330.length : Int) > 0
            ·rw [if_pos c40] at H
             have c40b0 : decide (0 < (y330.length : Int)) = true := decide_eq_true c40
             have c40b1 : decide (0 < y330.length) = true := decide_eq_true (by omega)
             clear c40
             (first | rw [c40b0] | (simp only [i64_w, i32_w]; rw [c40b0]) | skip)
             replace H := Option.bind_eq_some_iff.mp H
             obtain ⟨⟨t351, t352, t353⟩, A410, H⟩ := H
             replace H : (spec_l6Draw.j2 k2 x3_2 y330 t351 s0_0 t352 t353) = some (r1, r2, r3) := H
             have A41 := Aside0.mk A410
             clear A410
             have H' := Aside0.mk H
             clear H
             go_wp2_with (first | (go_at_call 87; (with_reducible refine (spec_l1Once.calls g s0_0 x1001_2 x1002_2 2 t351 t352 t353 w0 _ ?side1 ?side2 A41.out).mono ?_); (case side1 => exact s11_8); (case side2 => exact s11_7); rintro e w42 ⟨rfl, hi, hb, hk⟩; have n0_ := Aside0.mk (Kd.R_mono (Kd.R_keep (IsS95.apart (show IsS95 w0 _ g s0_0 x1001_2 x1002_2 from by repeat (first | (with_reducible first | exact HI0.out | apply IsS95.alloc | apply IsS95.drewN | apply IsS95.drew | apply IsS95.set_1 | apply IsS95.set_2) | exact HI0.out)) u11_4 u11_14) hk (fun _ h => h.2)) (fun _ h => h.1)); have n1_ := Aside0.mk (Kd.R_mono (Kd.R_keep (IsS95.apart (show IsS95 w0 _ g s0_0 x1001_2 x1002_2 from by repeat (first | (with_reducible first | exact HI0.out | apply IsS95.alloc | apply IsS95.drewN | apply IsS95.drew | apply IsS95.set_1 | apply IsS95.set_2) | exact HI0.out)) u11_6 u11_14) hk (fun _ h => h.2)) (fun _ h => h.1)); have n2_ := Aside0.mk (Kd.R_mono (Kd.R_keep (IsS95.apart (show IsS95 w0 _ g s0_0 x1001_2 x1002_2 from by repeat (first | (with_reducible first | exact HI0.out | apply IsS95.alloc | apply IsS95.drewN | apply IsS95.drew | apply IsS95.set_1 | apply IsS95.set_2) | exact HI0.out)) u11_5 u11_14) hk (fun _ h => h.2)) (fun _ h => h.1)); have n3_ := Aside0.mk (Kd.R_mono (Kd.R_keep (IsS95.apart (show IsS95 w0 _ g s0_0 x1001_2 x1002_2 from by repeat (first | (with_reducible first | exact HI0.out | apply IsS95.alloc | apply IsS95.drewN | apply IsS95.drew | apply IsS95.set_1 | apply IsS95.set_2) | exact HI0.out)) u11_12 u11_14) hk (fun _ h => h.2)) (fun _ h => h.1)); have n4_ := Aside0.mk (KeepBut.trans u11_0 hk (.inl rfl)); have n5_ := Aside0.mk (hb); have n6_ := Aside0.mk (hi); clear HO_3; clear HO_4; clear HO_7; clear HO_36; clear HK; clear HB; clear HI0; have HO_3 := n0_; have HO_4 := n1_; have HO_7 := n2_; have HO_36 := n3_; have HK := n4_; have HB := n5_; have HI0 := n6_; clear n0_ n1_ n2_ n3_ n4_ n5_ n6_; (try clear hb); (try clear hb2); (try clear hk); (try clear hi)))
             go_meet
             case rel => exact ⟨_, (t351), (t352), (t353), u11_15, H', ⟨by have := HK1.out; have := HK2.out; first | omega | exact Nat.le_refl _⟩, ⟨by (with_reducible repeat (first | apply Kd.R_alloc | apply Kd.R_drewN | apply Kd.R_drew)); exact HO_3.out⟩, ⟨by (with_reducible repeat (first | apply Kd.R_alloc | apply Kd.R_drewN | apply Kd.R_drew)); exact Kd.R_mono HO_7.out (fun _ hk => trivial)⟩, ⟨s11_8⟩, ⟨s11_9⟩, ⟨s11_7⟩⟩
            ·rw [if_neg c40] at H
             have c40b0 : decide (0 < (y330.length : Int)) = false := decide_eq_false c40
             have c40b1 : decide (0 < y330.length) = false := decide_eq_false (by omega)
             clear c40
             (first | rw [c40b0] | (simp only [i64_w, i32_w]; rw [c40b0]) | skip)
             have H' := Aside0.mk H
             clear H
             go_wp2
             go_meet
             case rel => exact ⟨_, (false), (x1001_2), (x1002_2), u11_15, H', ⟨by have := HK1.out; have := HK2.out; first | omega | exact Nat.le_refl _⟩, ⟨by (with_reducible repeat (first | apply Kd.R_alloc | apply Kd.R_drewN | apply Kd.R_drew)); exact HO_3.out⟩, ⟨by (with_reducible repeat (first | apply Kd.R_alloc | apply Kd.R_drewN | apply Kd.R_drew)); exact Kd.R_mono HO_7.out (fun _ hk => trivial)⟩, ⟨s11_8⟩, ⟨s11_9⟩, ⟨s11_7⟩⟩
           case rest =>
            clear HC39
            try clear c1
            try clear q1
            try clear c2
            try clear p2
            try clear q2
            try clear c3
            try clear p3
            try clear q3
            try clear hx3
            try clear c4
            try clear c4b0
            try clear c4b1
            try clear c5
            try clear c5b0
            try clear c5b1
            try clear c6
            try clear p6
            try clear c8
            try clear q12
            try clear c13
            try clear c13b0
            try clear c14
            try clear c14b0
            try clear c15
            try clear c15b0
            try clear c22
            try clear c22b0
            try clear c22b1
            try clear c23
            try clear c23b0
            try clear c23b1
            try clear q28
            try clear c29
            try clear c29b0
            try clear c30
            try clear c30b0
            try clear c31
            try clear c31b0
            try clear p31
            try clear q31
            try clear hx31
            try clear p33
            try clear q33
            try clear hx33
            try clear c40
            try clear c40b0
            try clear c40b1
            try clear hx316_0
            try clear hx333_0
            try clear p2
            try clear p3
            try clear p316
            try clear p333
            try clear p6
            try clear q1
            try clear q12
            try clear q2
            try clear q28
            try clear q3
            try clear q316
            try clear q333
            obtain ⟨kq, x60_38, x1001_38, x1002_38, rfl, HA, HJ38, HO_3, HO_7, HI0, HK, HB⟩ := hcut
            cases kq with
            | zero => exact absurd HA.out (by simp [spec_l6Draw.j2])
            | succ kj38 =>
             have H := HA.out
             clear HA
             simp only [spec_l6Draw.j2] at H
             by_cases c43 : x60_38 = true
             ·subst c43
              have H1 : ((spec_l1Str.f s0_0 x1001_38 x1002_38 (([(⟨#[108, 97, 109, 112]⟩ : ByteArray), (⟨#[122]⟩ : ByteArray)] : List ByteArray))).bind fun bt357 => ((spec_l1Str.f s0_0 bt357.2.1 bt357.2.2 y330).bind fun bt360 => ((spec_l2Draw.f s0_0 bt360.2.1 bt360.2.2).bind fun bt363 => ((spec_AddDevice.f kj38 x3_2 bt357.1 3 bt360.1 bt363.1 bt363.2.1 0 0 0).bind fun bt367 => (some (bt367.1, bt363.2.2.1, bt363.2.2.2)))))) = some (r1, r2, r3) := by rw [if_pos rfl] at H; exact H
              clear H
              have H := H1
              clear H1
              obtain ⟨y354, hy354⟩ : ∃ y_ : List ByteArray, y_ = (([(⟨#[108, 97, 109, 112]⟩ : ByteArray), (⟨#[122]⟩ : ByteArray)] : List ByteArray)) := ⟨_, rfl⟩
              replace H : ((spec_l1Str.f s0_0 x1001_38 x1002_38 y354).bind fun bt357 => ((spec_l1Str.f s0_0 bt357.2.1 bt357.2.2 y330).bind fun bt360 => ((spec_l2Draw.f s0_0 bt360.2.1 bt360.2.2).bind fun bt363 => ((spec_AddDevice.f kj38 x3_2 bt357.1 3 bt360.1 bt363.1 bt363.2.1 0 0 0).bind fun bt367 => (some (bt367.1, bt363.2.2.1, bt363.2.2.2)))))) = some (r1, r2, r3) := by first | (rw [hy354]; with_reducible exact H) | (have H2_ := (Option.bind_some _ _).symm.trans H; rw [hy354]; with_reducible exact H2_) | (have H2_ := (Option.bind_some _ _).symm.trans H; with_reducible exact H2_) | with_reducible exact H | (rw [hy354]; exact H) | exact H
              have Ny354 := Aside0.mk hy354
              clear hy354
              replace H := Option.bind_eq_some_iff.mp H
              obtain ⟨⟨t357, t358, t359⟩, A440, H⟩ := H
              replace H : ((spec_l1Str.f s0_0 t358 t359 y330).bind fun bt360 => ((spec_l2Draw.f s0_0 bt360.2.1 bt360.2.2).bind fun bt363 => ((spec_AddDevice.f kj38 x3_2 t357 3 bt360.1 bt363.1 bt363.2.1 0 0 0).bind fun bt367 => (some (bt367.1, bt363.2.2.1, bt363.2.2.2))))) = some (r1, r2, r3) := H
              have A44 := Aside0.mk A440
              clear A440
              replace H := Option.bind_eq_some_iff.mp H
              obtain ⟨⟨t360, t361, t362⟩, A450, H⟩ := H
              replace H : ((spec_l2Draw.f s0_0 t361 t362).bind fun bt363 => ((spec_AddDevice.f kj38 x3_2 t357 3 t360 bt363.1 bt363.2.1 0 0 0).bind fun bt367 => (some (bt367.1, bt363.2.2.1, bt363.2.2.2)))) = some (r1, r2, r3) := H
              have A45 := Aside0.mk A450
              clear A450
              replace H := Option.bind_eq_some_iff.mp H
              obtain ⟨⟨t363, t364, t365, t366⟩, A460, H⟩ := H
              replace H : ((spec_AddDevice.f kj38 x3_2 t357 3 t360 t363 t364 0 0 0).bind fun bt367 => (some (bt367.1, t365, t366))) = some (r1, r2, r3) := H
              have A46 := Aside0.mk A460
              clear A460
              replace H := Option.bind_eq_some_iff.mp H
              obtain ⟨⟨t367, t370⟩, A470, H⟩ := H
              replace H : (some (t367, t365, t366)) = some (r1, r2, r3) := H
              have A47 := Aside0.mk A470
              clear A470
              simp only [Option.some.injEq, Prod.mk.injEq] at H
              obtain ⟨rfl, rfl, rfl⟩ := H
              go_wp2_with (first | ((with_reducible refine gate_dst (N := 64) rfl ?_); refine Kd.R_lit Kd.string _ 9 ?hg (N := 64) ?hd (xs := ([(⟨#[108, 97, 109, 112]⟩ : ByteArray), (⟨#[122]⟩ : ByteArray)] : List ByteArray)) (inner := [.string (⟨#[108, 97, 109, 112]⟩ : ByteArray), .string (⟨#[122]⟩ : ByteArray)]) (ok := fun _ => True) (okp := fun _ => True) ?hr ?hp (fun _ hk => hk) trivial (Below.refl _ _) (Nat.le_refl _) (by simp) ?_; (case hd => rfl); (case hg => rfl); (case hr => exact gq); (case hp => exact (Reps.one (show Kd.M Kd.string _ _ _ (⟨#[108, 97, 109, 112]⟩ : ByteArray) [.string (⟨#[108, 97, 109, 112]⟩ : ByteArray)] from rfl) (Reps.one (show Kd.M Kd.string _ _ _ (⟨#[122]⟩ : ByteArray) [.string (⟨#[122]⟩ : ByteArray)] from rfl) (Reps.none _ _)))); intro v355 w48 ho49 hb hg_ hnew_; clear hg_ hnew_; (first | rw [← Ny354.out] at ho49 | (simp only [Int.reduceToNat] at ho49; rw [← Ny354.out] at ho49)); have n0_ := Aside0.mk (Kd.R_below u11_4 hb); have n1_ := Aside0.mk (Kd.R_elder' u11_5 (Kd.R_base ho49) hb); have n2_ := Aside0.mk (Kd.R_lower (Kd.R_new' ho49 (Kd.R_lt u11_5)) (keep_size (w := w) (g := g) (row := none) u11_0)); have n3_ := Aside0.mk (IsS95.below u11_3 hb); have n4_ := Aside0.mk (KeepBut.trans u11_0 (KeepBut.of_below hb g none) (.inl rfl)); have n5_ := Aside0.mk (below_step u11_2 hb); clear HO_3; clear HO_7; clear HI0; clear HK; clear HB; have HO_3 := n0_; have HO_7 := n1_; have HO356 := n2_; have HI0 := n3_; have HK := n4_; have HB := n5_; clear n0_ n1_ n2_ n3_ n4_ n5_; clear hb ho49; obtain ⟨Ao50, co50, eo50⟩ := Kd.R_slice HO356.out; subst eo50) | ((with_reducible refine gate_callee (f := 86) rfl ?_); refine goesL_ (some 65) rfl rfl Try.func86 (by kernel_rfl) rfl #[.pointer (some ⟨g, 0, none⟩), .slice Ao50 y354.length co50] rfl u11_1 ?_; (with_reducible refine (spec_l1Str.calls g s0_0 x1001_38 x1002_38 _ _ y354 t357 t358 t359 w0 _ ?side1 ?side2 ?side3 ?side4 ?side5 A44.out).mono ?_); (case side1 => exact s11_8); (case side2 => exact s11_7); (case side3 => repeat (first | exact (Kd.R_reads' HO356.out).2.2 | (with_reducible refine Kd.C_alloc ?_ _) | (with_reducible refine Kd.C_drewN ?_ _) | (with_reducible refine Kd.C_drew ?_))); (case side4 => exact (Kd.R_reads' HO356.out).2.1); (case side5 => exact far_slice (IsS95.own_ne HI0.out HO356.out u11_14)); rintro e w51 ⟨rfl, hi, hb, hk⟩; refine ⟨_, rfl, ?_⟩; have n0_ := Aside0.mk (Kd.R_mono (Kd.R_keep (IsS95.apart (show IsS95 w0 _ g s0_0 x1001_38 x1002_38 from by repeat (first | (with_reducible first | exact HI0.out | apply IsS95.alloc | apply IsS95.drewN | apply IsS95.drew | apply IsS95.set_1 | apply IsS95.set_2) | exact HI0.out)) u11_4 u11_14) hk (fun _ h => h.2)) (fun _ h => h.1)); have n1_ := Aside0.mk (Kd.R_mono (Kd.R_keep (IsS95.apart (show IsS95 w0 _ g s0_0 x1001_38 x1002_38 from by repeat (first | (with_reducible first | exact HI0.out | apply IsS95.alloc | apply IsS95.drewN | apply IsS95.drew | apply IsS95.set_1 | apply IsS95.set_2) | exact HI0.out)) u11_5 u11_14) hk (fun _ h => h.2)) (fun _ h => h.1)); have n2_ := Aside0.mk (Kd.R_mono (Kd.R_keep (IsS95.apart (show IsS95 w0 _ g s0_0 x1001_38 x1002_38 from by repeat (first | (with_reducible first | exact HI0.out | apply IsS95.alloc | apply IsS95.drewN | apply IsS95.drew | apply IsS95.set_1 | apply IsS95.set_2) | exact HI0.out)) u11_13 u11_14) hk (fun _ h => h.2)) (fun _ h => h.1)); have n3_ := Aside0.mk (KeepBut.trans u11_0 hk (.inl rfl)); have n4_ := Aside0.mk (hb); have n5_ := Aside0.mk (hi); clear HO_3; clear HO_7; clear HO356; clear HK; clear HB; clear HI0; have HO_3 := n0_; have HO_7 := n1_; have HO356 := n2_; have HK := n3_; have HB := n4_; have HI0 := n5_; clear n0_ n1_ n2_ n3_ n4_ n5_; (try clear hb); (try clear hb2); (try clear hk); (try clear hi)) | ((with_reducible refine gate_callee (f := 86) rfl ?_); refine goesL_ (some 68) rfl rfl Try.func86 (by kernel_rfl) rfl #[.pointer (some ⟨g, 0, none⟩), .slice Ao27 y330.length co27] rfl u11_1 ?_; (with_reducible refine (spec_l1Str.calls g s0_0 t358 t359 _ _ y330 t360 t361 t362 w0 _ ?side1 ?side2 ?side3 ?side4 ?side5 A45.out).mono ?_); (case side1 => exact s11_8); (case side2 => exact s11_7); (case side3 => repeat (first | exact (Kd.R_reads' HO_7.out).2.2 | (with_reducible refine Kd.C_alloc ?_ _) | (with_reducible refine Kd.C_drewN ?_ _) | (with_reducible refine Kd.C_drew ?_))); (case side4 => exact (Kd.R_reads' HO_7.out).2.1); (case side5 => exact far_slice (IsS95.own_ne HI0.out HO_7.out u11_14)); rintro e w52 ⟨rfl, hi, hb, hk⟩; refine ⟨_, rfl, ?_⟩; have n0_ := Aside0.mk (Kd.R_mono (Kd.R_keep (IsS95.apart (show IsS95 w0 _ g s0_0 t358 t359 from by repeat (first | (with_reducible first | exact HI0.out | apply IsS95.alloc | apply IsS95.drewN | apply IsS95.drew | apply IsS95.set_1 | apply IsS95.set_2) | exact HI0.out)) u11_4 u11_14) hk (fun _ h => h.2)) (fun _ h => h.1)); have n1_ := Aside0.mk (Kd.R_mono (Kd.R_keep (IsS95.apart (show IsS95 w0 _ g s0_0 t358 t359 from by repeat (first | (with_reducible first | exact HI0.out | apply IsS95.alloc | apply IsS95.drewN | apply IsS95.drew | apply IsS95.set_1 | apply IsS95.set_2) | exact HI0.out)) u11_5 u11_14) hk (fun _ h => h.2)) (fun _ h => h.1)); have n2_ := Aside0.mk (Kd.R_mono (Kd.R_keep (IsS95.apart (show IsS95 w0 _ g s0_0 t358 t359 from by repeat (first | (with_reducible first | exact HI0.out | apply IsS95.alloc | apply IsS95.drewN | apply IsS95.drew | apply IsS95.set_1 | apply IsS95.set_2) | exact HI0.out)) u11_13 u11_14) hk (fun _ h => h.2)) (fun _ h => h.1)); have n3_ := Aside0.mk (KeepBut.trans u11_0 hk (.inl rfl)); have n4_ := Aside0.mk (hb); have n5_ := Aside0.mk (hi); clear HO_3; clear HO_7; clear HO356; clear HK; clear HB; clear HI0; have HO_3 := n0_; have HO_7 := n1_; have HO356 := n2_; have HK := n3_; have HB := n4_; have HI0 := n5_; clear n0_ n1_ n2_ n3_ n4_ n5_; (try clear hb); (try clear hb2); (try clear hk); (try clear hi)) | ((with_reducible refine gate_callee (f := 88) rfl ?_); refine goesL_ (some 70) rfl rfl Try.func88 (by kernel_rfl) rfl #[.pointer (some ⟨g, 0, none⟩)] rfl u11_1 ?_; (with_reducible refine (spec_l2Draw.calls g s0_0 t361 t362 t363 t364 t365 t366 w0 _ ?side1 ?side2 A46.out).mono ?_); (case side1 => exact s11_8); (case side2 => exact s11_7); rintro e w53 ⟨rfl, hi, hb, hk⟩; refine ⟨_, rfl, ?_⟩; have n0_ := Aside0.mk (Kd.R_mono (Kd.R_keep (IsS95.apart (show IsS95 w0 _ g s0_0 t361 t362 from by repeat (first | (with_reducible first | exact HI0.out | apply IsS95.alloc | apply IsS95.drewN | apply IsS95.drew | apply IsS95.set_1 | apply IsS95.set_2) | exact HI0.out)) u11_4 u11_14) hk (fun _ h => h.2)) (fun _ h => h.1)); have n1_ := Aside0.mk (Kd.R_mono (Kd.R_keep (IsS95.apart (show IsS95 w0 _ g s0_0 t361 t362 from by repeat (first | (with_reducible first | exact HI0.out | apply IsS95.alloc | apply IsS95.drewN | apply IsS95.drew | apply IsS95.set_1 | apply IsS95.set_2) | exact HI0.out)) u11_5 u11_14) hk (fun _ h => h.2)) (fun _ h => h.1)); have n2_ := Aside0.mk (Kd.R_mono (Kd.R_keep (IsS95.apart (show IsS95 w0 _ g s0_0 t361 t362 from by repeat (first | (with_reducible first | exact HI0.out | apply IsS95.alloc | apply IsS95.drewN | apply IsS95.drew | apply IsS95.set_1 | apply IsS95.set_2) | exact HI0.out)) u11_13 u11_14) hk (fun _ h => h.2)) (fun _ h => h.1)); have n3_ := Aside0.mk (KeepBut.trans u11_0 hk (.inl rfl)); have n4_ := Aside0.mk (hb); have n5_ := Aside0.mk (hi); clear HO_3; clear HO_7; clear HO356; clear HK; clear HB; clear HI0; have HO_3 := n0_; have HO_7 := n1_; have HO356 := n2_; have HK := n3_; have HB := n4_; have HI0 := n5_; clear n0_ n1_ n2_ n3_ n4_ n5_; (try clear hb); (try clear hb2); (try clear hk); (try clear hi); obtain ⟨Ao54, co54, eo54⟩ := Kd.R_slice HO_3.out; subst eo54) | ((with_reducible refine gate_callee (f := 47) rfl ?_); refine goesL_ (some 72) rfl rfl Try.func47 (by kernel_rfl) rfl #[.slice Ao54 x3_2.length co54, .agg #[.string t357, .int .i64 3, .string t360, .int .i64 t363, .int .i64 t364, .int .i64 0, .int .i64 0, .int .i64 0]] rfl u11_1 ?_; (with_reducible refine (spec_AddDevice.calls kj38 _ _ x3_2 t357 3 t360 t363 t364 0 0 0 t367 t370 _ ?side1 ?side2 A47.out).mono ?_); (case side1 => exact y11_0); (case side2 => exact (Kd.R_reads' HO_3.out).2.1); rintro e w55 ⟨v368, rfl, ho0, hb⟩; refine ⟨_, rfl, ?_⟩; have n0_ := Aside0.mk (Kd.R_elder' u11_4 (Kd.R_base ho0) hb); have n1_ := Aside0.mk (Kd.R_below u11_5 hb); have n2_ := Aside0.mk (Kd.R_below u11_13 hb); have n3_ := Aside0.mk (Kd.R_lower (Kd.R_new' ho0 (Kd.R_lt u11_4)) (keep_size (w := w) (g := g) (row := none) u11_0)); have n4_ := Aside0.mk (IsS95.below u11_3 hb); have n5_ := Aside0.mk (KeepBut.trans u11_0 (KeepBut.of_below hb g none) (.inl rfl)); have n6_ := Aside0.mk (below_step u11_2 hb); clear HO_3; clear HO_7; clear HO356; clear HI0; clear HK; clear HB; have HO_3 := n0_; have HO_7 := n1_; have HO356 := n2_; have HO369 := n3_; have HI0 := n4_; have HK := n5_; have HB := n6_; clear n0_ n1_ n2_ n3_ n4_ n5_ n6_; (try clear hb); (try clear hb2); (try clear hk); (try clear hi); (try clear ho0)))
              go_ret
              exact ⟨_, by first | rfl | (simp [errW_none, errW_some] <;> rfl) | (simp only [← hji3]; first | rfl | (simp [errW_none, errW_some] <;> rfl)) | (simp [*, errW_none, errW_some] <;> rfl), by (with_reducible repeat (first | apply Kd.R_alloc | apply Kd.R_drewN | apply Kd.R_drew)); exact Kd.R_mono HO369.out (fun _ hk => trivial), s11_8, s11_7, s11_9⟩
             ·replace c43 := Bool.eq_false_iff.mpr c43
              subst c43
              have H1 : (some (x3_2, x1001_38, x1002_38)) = some (r1, r2, r3) := by rw [if_neg (show ¬ (false = true) by decide)] at H; exact H
              clear H
              have H := H1
              clear H1
              simp only [Option.some.injEq, Prod.mk.injEq] at H
              obtain ⟨rfl, rfl, rfl⟩ := H
              go_wp2
              go_ret
              exact ⟨_, by first | rfl | (simp [errW_none, errW_some] <;> rfl) | (simp only [← hji3]; first | rfl | (simp [errW_none, errW_some] <;> rfl)) | (simp [*, errW_none, errW_some] <;> rfl), by (with_reducible repeat (first | apply Kd.R_alloc | apply Kd.R_drewN | apply Kd.R_drew)); exact HO_3.out, s11_8, s11_7, s11_9⟩
       ·rw [if_neg c23] at H
        exact absurd H (by simp)
      ·rw [if_neg c22] at H
       exact absurd H (by simp)
  ·rw [if_neg c5] at H
   exact absurd H (by simp)
 ·rw [if_neg c4] at H
  exact absurd H (by simp)

def spec_l6Name.f (s0_0 : List Int) (s0_1 : Int) (s0_2 : Int) : Option (ByteArray × Int × Int) := (spec_l1Str.f s0_0 s0_1 s0_2 (([(⟨#[97]⟩ : ByteArray), (⟨#[98]⟩ : ByteArray), (⟨#[99]⟩ : ByteArray), (⟨#[114]⟩ : ByteArray), (⟨#[112]⟩ : ByteArray), (⟨#[113]⟩ : ByteArray), (⟨#[108, 97, 109, 112]⟩ : ByteArray), (⟨#[122]⟩ : ByteArray), (⟨#[110, 111]⟩ : ByteArray)] : List ByteArray))).bind fun bt374 => (some (bt374.1, bt374.2.1, bt374.2.2))
set_option maxHeartbeats 8000000 in
set_option maxRecDepth 100000 in
theorem spec_l6Name.calls (g : Nat) (s0_0 : List Int) (s0_1 : Int) (s0_2 : Int) (r1 : ByteArray) (r2 : Int) (r3 : Int) (w0 w : World) (hI : IsS95 w0 w g s0_0 s0_1 s0_2) (hB : Below w0.heap.size w0 w) (h : spec_l6Name.f s0_0 s0_1 s0_2 = some (r1, r2, r3)) :
  Calls Try.prog 96 #[.pointer (some ⟨g, 0, none⟩)] w fun e w' => e = .returned (.string r1) ∧ IsS95 w0 w' g s0_0 r2 r3 ∧ Below w0.heap.size w0 w' ∧ KeepBut w w' g none := by
 have HI0 := Aside0.mk hI
 have HK := Aside0.mk (KeepBut.refl w g none)
 have HL := Aside0.mk hB.size
 clear hI
 have HW0 := Aside0.mk hB.size
 have HB := Aside0.mk hB
 clear hB
 have H : ((spec_l1Str.f s0_0 s0_1 s0_2 (([(⟨#[97]⟩ : ByteArray), (⟨#[98]⟩ : ByteArray), (⟨#[99]⟩ : ByteArray), (⟨#[114]⟩ : ByteArray), (⟨#[112]⟩ : ByteArray), (⟨#[113]⟩ : ByteArray), (⟨#[108, 97, 109, 112]⟩ : ByteArray), (⟨#[122]⟩ : ByteArray), (⟨#[110, 111]⟩ : ByteArray)] : List ByteArray))).bind fun bt374 => (some (bt374.1, bt374.2.1, bt374.2.2))) = some (r1, r2, r3) := h
 clear h
 obtain ⟨y371, hy371⟩ : ∃ y_ : List ByteArray, y_ = (([(⟨#[97]⟩ : ByteArray), (⟨#[98]⟩ : ByteArray), (⟨#[99]⟩ : ByteArray), (⟨#[114]⟩ : ByteArray), (⟨#[112]⟩ : ByteArray), (⟨#[113]⟩ : ByteArray), (⟨#[108, 97, 109, 112]⟩ : ByteArray), (⟨#[122]⟩ : ByteArray), (⟨#[110, 111]⟩ : ByteArray)] : List ByteArray)) := ⟨_, rfl⟩
 replace H : ((spec_l1Str.f s0_0 s0_1 s0_2 y371).bind fun bt374 => (some (bt374.1, bt374.2.1, bt374.2.2))) = some (r1, r2, r3) := by first | (rw [hy371]; with_reducible exact H) | (have H2_ := (Option.bind_some _ _).symm.trans H; rw [hy371]; with_reducible exact H2_) | (have H2_ := (Option.bind_some _ _).symm.trans H; with_reducible exact H2_) | with_reducible exact H | (rw [hy371]; exact H) | exact H
 have Ny371 := Aside0.mk hy371
 clear hy371
 replace H := Option.bind_eq_some_iff.mp H
 obtain ⟨⟨t374, t375, t376⟩, A20, H⟩ := H
 replace H : (some (t374, t375, t376)) = some (r1, r2, r3) := H
 have A2 := Aside0.mk A20
 clear A20
 simp only [Option.some.injEq, Prod.mk.injEq] at H
 obtain ⟨rfl, rfl, rfl⟩ := H
 go_enter Try.func96, Try.ntmps96
 go_wp2_with (first | ((with_reducible refine gate_dst (N := 4) rfl ?_); refine Kd.R_lit Kd.string _ 9 ?hg (N := 4) ?hd (xs := ([(⟨#[97]⟩ : ByteArray), (⟨#[98]⟩ : ByteArray), (⟨#[99]⟩ : ByteArray), (⟨#[114]⟩ : ByteArray), (⟨#[112]⟩ : ByteArray), (⟨#[113]⟩ : ByteArray), (⟨#[108, 97, 109, 112]⟩ : ByteArray), (⟨#[122]⟩ : ByteArray), (⟨#[110, 111]⟩ : ByteArray)] : List ByteArray)) (inner := [.string (⟨#[97]⟩ : ByteArray), .string (⟨#[98]⟩ : ByteArray), .string (⟨#[99]⟩ : ByteArray), .string (⟨#[114]⟩ : ByteArray), .string (⟨#[112]⟩ : ByteArray), .string (⟨#[113]⟩ : ByteArray), .string (⟨#[108, 97, 109, 112]⟩ : ByteArray), .string (⟨#[122]⟩ : ByteArray), .string (⟨#[110, 111]⟩ : ByteArray)]) (ok := fun _ => True) (okp := fun _ => True) ?hr ?hp (fun _ hk => hk) trivial (Below.refl _ _) (Nat.le_refl _) (by simp) ?_; (case hd => rfl); (case hg => rfl); (case hr => exact gq); (case hp => exact (Reps.one (show Kd.M Kd.string _ _ _ (⟨#[97]⟩ : ByteArray) [.string (⟨#[97]⟩ : ByteArray)] from rfl) (Reps.one (show Kd.M Kd.string _ _ _ (⟨#[98]⟩ : ByteArray) [.string (⟨#[98]⟩ : ByteArray)] from rfl) (Reps.one (show Kd.M Kd.string _ _ _ (⟨#[99]⟩ : ByteArray) [.string (⟨#[99]⟩ : ByteArray)] from rfl) (Reps.one (show Kd.M Kd.string _ _ _ (⟨#[114]⟩ : ByteArray) [.string (⟨#[114]⟩ : ByteArray)] from rfl) (Reps.one (show Kd.M Kd.string _ _ _ (⟨#[112]⟩ : ByteArray) [.string (⟨#[112]⟩ : ByteArray)] from rfl) (Reps.one (show Kd.M Kd.string _ _ _ (⟨#[113]⟩ : ByteArray) [.string (⟨#[113]⟩ : ByteArray)] from rfl) (Reps.one (show Kd.M Kd.string _ _ _ (⟨#[108, 97, 109, 112]⟩ : ByteArray) [.string (⟨#[108, 97, 109, 112]⟩ : ByteArray)] from rfl) (Reps.one (show Kd.M Kd.string _ _ _ (⟨#[122]⟩ : ByteArray) [.string (⟨#[122]⟩ : ByteArray)] from rfl) (Reps.one (show Kd.M Kd.string _ _ _ (⟨#[110, 111]⟩ : ByteArray) [.string (⟨#[110, 111]⟩ : ByteArray)] from rfl) (Reps.none _ _))))))))))); intro v372 w3 ho4 hb hg_ hnew_; clear hg_ hnew_; (first | rw [← Ny371.out] at ho4 | (simp only [Int.reduceToNat] at ho4; rw [← Ny371.out] at ho4)); have n0_ := Aside0.mk (Kd.R_lower ho4 (keep_size (w := w) (g := g) (row := none) u11_0)); have n1_ := Aside0.mk (IsS95.below u11_3 hb); have n2_ := Aside0.mk (KeepBut.trans u11_0 (KeepBut.of_below hb g none) (.inl rfl)); have n3_ := Aside0.mk (below_step u11_2 hb); clear HI0; clear HK; clear HB; have HO373 := n0_; have HI0 := n1_; have HK := n2_; have HB := n3_; clear n0_ n1_ n2_ n3_; clear hb ho4; obtain ⟨Ao5, co5, eo5⟩ := Kd.R_slice HO373.out; subst eo5) | ((with_reducible refine gate_callee (f := 86) rfl ?_); refine goesL_ (some 5) rfl rfl Try.func86 (by kernel_rfl) rfl #[.pointer (some ⟨g, 0, none⟩), .slice Ao5 y371.length co5] rfl u11_1 ?_; (with_reducible refine (spec_l1Str.calls g s0_0 s0_1 s0_2 _ _ y371 t374 t375 t376 w0 _ ?side1 ?side2 ?side3 ?side4 ?side5 A2.out).mono ?_); (case side1 => exact s11_8); (case side2 => exact s11_7); (case side3 => repeat (first | exact (Kd.R_reads' HO373.out).2.2 | (with_reducible refine Kd.C_alloc ?_ _) | (with_reducible refine Kd.C_drewN ?_ _) | (with_reducible refine Kd.C_drew ?_))); (case side4 => exact (Kd.R_reads' HO373.out).2.1); (case side5 => exact far_slice (IsS95.own_ne HI0.out HO373.out u11_14)); rintro e w6 ⟨rfl, hi, hb, hk⟩; refine ⟨_, rfl, ?_⟩; have n0_ := Aside0.mk (Kd.R_mono (Kd.R_keep (IsS95.apart (show IsS95 w0 _ g s0_0 s0_1 s0_2 from by repeat (first | (with_reducible first | exact HI0.out | apply IsS95.alloc | apply IsS95.drewN | apply IsS95.drew | apply IsS95.set_1 | apply IsS95.set_2) | exact HI0.out)) (by (with_reducible repeat (first | apply Kd.R_alloc | apply Kd.R_drewN | apply Kd.R_drew)); exact HO373.out) u11_14) hk (fun _ h => h.2)) (fun _ h => h.1)); have n1_ := Aside0.mk (KeepBut.trans u11_0 hk (.inl rfl)); have n2_ := Aside0.mk (hb); have n3_ := Aside0.mk (hi); clear HO373; clear HK; clear HB; clear HI0; have HO373 := n0_; have HK := n1_; have HB := n2_; have HI0 := n3_; clear n0_ n1_ n2_ n3_; (try clear hb); (try clear hb2); (try clear hk); (try clear hi)))
 go_ret
 exact ⟨by first | rfl | (simp [*] <;> rfl), s11_8, s11_7, s11_9⟩

end Go.Proofs.Ytkedcokhcgklpaa.MFnRig
