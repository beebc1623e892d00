-- Written by a program for this claim.
import Derived.Test.YthofcclbkihemaaDoorMFnDeviceTextx0
import Derived.Test.YthofcclbkihemaaDoorMFnDeviceTextx2
namespace Go.Proofs.YthofcclbkihemaaDoor.MFnDeviceText
open Go.RowKit Go.Proofs.YthofcclbkihemaaDoorW.PrintWords Go.Proofs.YthofcclbkihemaaDoorW.PrintLast Go.Proofs.YthofcclbkihemaaDoorW.PrintMore
attribute [local go_sem] max2_int min2_int max_two min_two max_three min_three max_four min_four
set_option linter.unusedVariables false
set_option linter.unusedSimpArgs false
set_option maxHeartbeats 8000000
set_option maxRecDepth 100000

theorem s3_0 {p : Prop} (h : p := by repeat (first | (with_reducible first | exact HI0.out | apply IsS88.alloc | apply IsS88.drewN | apply IsS88.drew | apply IsS88.set_1 | apply IsS88.set_2 | refine IsS88.far ?_ NB0_182.out _ | refine IsS88.far ?_ NB0_187.out _) | exact HI0.out)) : p := h
theorem s3_1 {p : Prop} (h : p := by repeat (first | (with_reducible first | exact HI0.out | apply IsS88.alloc | apply IsS88.drewN | apply IsS88.drew | apply IsS88.set_1 | apply IsS88.set_2 | refine IsS88.far ?_ NB0_203.out _ | refine IsS88.far ?_ NB0_211.out _) | exact HI0.out)) : p := h
theorem s3_2 {p : Prop} (h : p := by repeat (first | (with_reducible first | exact HI0.out | apply IsS88.alloc | apply IsS88.drewN | apply IsS88.drew | apply IsS88.set_1 | apply IsS88.set_2 | refine IsS88.far ?_ NB0_246.out _ | refine IsS88.far ?_ NB0_263.out _) | exact HI0.out)) : p := h
theorem s3_3 {p : Prop} (h : p := by repeat (first | (with_reducible first | exact HB.out | apply below_alloc | apply pw_below_drewN | apply below_drew1 | refine below_set ?_ (IsS88.ge HI0.out) | refine below_set ?_ GE182.out | refine below_set ?_ GE187.out) | exact HB.out)) : p := h
theorem s3_4 {p : Prop} (h : p := by repeat (first | (with_reducible first | exact HB.out | apply below_alloc | apply pw_below_drewN | apply below_drew1 | refine below_set ?_ (IsS88.ge HI0.out) | refine below_set ?_ GE203.out | refine below_set ?_ GE211.out) | exact HB.out)) : p := h
theorem s3_5 {p : Prop} (h : p := by repeat (first | (with_reducible first | exact HB.out | apply below_alloc | apply pw_below_drewN | apply below_drew1 | refine below_set ?_ (IsS88.ge HI0.out) | refine below_set ?_ GE246.out | refine below_set ?_ GE263.out) | exact HB.out)) : p := h
theorem s3_6 {p : Prop} (h : p := by repeat (first | (with_reducible first | exact HK.out | apply KeepBut.set_ | apply keep_drewN | apply keep_drew | apply keep_alloc | refine keep_far ?_ GW182.out _ | refine keep_far ?_ GW187.out _) | exact HK.out)) : p := h
theorem s3_7 {p : Prop} (h : p := by repeat (first | (with_reducible first | exact HK.out | apply KeepBut.set_ | apply keep_drewN | apply keep_drew | apply keep_alloc | refine keep_far ?_ GW203.out _ | refine keep_far ?_ GW211.out _) | exact HK.out)) : p := h
theorem s3_8 {p : Prop} (h : p := by repeat (first | (with_reducible first | exact HK.out | apply KeepBut.set_ | apply keep_drewN | apply keep_drew | apply keep_alloc | refine keep_far ?_ GW246.out _ | refine keep_far ?_ GW263.out _) | exact HK.out)) : p := h
theorem s3_9 {p : Prop} (h : p := by repeat (first | (with_reducible first | exact HI0.out | apply IsS88.alloc | apply IsS88.drewN | apply IsS88.drew | apply IsS88.set_1 | apply IsS88.set_2 | refine IsS88.far ?_ NB0_203.out _) | exact HI0.out)) : p := h
theorem s3_10 {p : Prop} (h : p := by repeat (first | (with_reducible first | exact HI0.out | apply IsS88.alloc | apply IsS88.drewN | apply IsS88.drew | apply IsS88.set_1 | apply IsS88.set_2 | refine IsS88.far ?_ NB0_246.out _) | exact HI0.out)) : p := h
theorem s3_11 {p : Prop} (h : p := by repeat (first | (with_reducible first | exact HB.out | apply below_alloc | apply pw_below_drewN | apply below_drew1 | refine below_set ?_ (IsS88.ge HI0.out) | refine below_set ?_ GE203.out) | exact HB.out)) : p := h
theorem s3_12 {p : Prop} (h : p := by repeat (first | (with_reducible first | exact HB.out | apply below_alloc | apply pw_below_drewN | apply below_drew1 | refine below_set ?_ (IsS88.ge HI0.out) | refine below_set ?_ GE246.out) | exact HB.out)) : p := h
theorem u3_0 {p : Prop} (h : p := by repeat (first | (with_reducible first | exact HK.out | apply KeepBut.set_ | apply keep_drewN | apply keep_drew | apply keep_alloc | refine keep_far ?_ GW203.out _) | exact HK.out)) : p := h
theorem u3_1 {p : Prop} (h : p := by repeat (first | (with_reducible first | exact HK.out | apply KeepBut.set_ | apply keep_drewN | apply keep_drew | apply keep_alloc | refine keep_far ?_ GW203.out _ | refine keep_far ?_ GW211.out _) | exact HK.out)) : p := h
theorem u3_2 {p : Prop} (h : p := by (with_reducible repeat (first | refine bN ?_ _ | refine bD ?_ | refine bA ?_ _)); refine blk_far ?_ NB203_211.out _; (with_reducible repeat (first | refine bN ?_ _ | refine bD ?_ | refine bA ?_ _)); refine blk_far ?_ NB203_211.out _; (with_reducible repeat (first | refine bN ?_ _ | refine bD ?_ | refine bA ?_ _)); refine blk_far ?_ NB203_211.out _; (with_reducible repeat (first | refine bN ?_ _ | refine bD ?_ | refine bA ?_ _)); refine blk_far ?_ NB203_211.out _; (with_reducible repeat (first | refine bN ?_ _ | refine bD ?_ | refine bA ?_ _)); refine blk_far ?_ NB203_211.out _; exact bd BK203.out) : p := h
theorem u3_3 {p : Prop} (h : p := by exact bd BK203.out) : p := h
theorem u3_4 {p : Prop} (h : p := by (with_reducible repeat (first | refine bN ?_ _ | refine bD ?_ | refine bA ?_ _)); refine blk_put (cs := zr5 t204 t205 t206 t207 0) ?_ 4 _ rfl; refine blk_put (cs := zr5 t204 t205 t206 0 0) ?_ 3 _ rfl; refine blk_put (cs := zr5 t204 t205 0 0 0) ?_ 2 _ rfl; refine blk_put (cs := zr5 t204 0 0 0 0) ?_ 1 _ rfl; refine blk_put (cs := zr5 0 0 0 0 0) ?_ 0 _ rfl; exact bd BK211.out) : p := h
theorem u3_5 {p : Prop} (h : p := by (try simp only [List.map_toArray, List.map_cons, List.map_nil]); first | done | rfl) : p := h
theorem u3_6 {p : Prop} (h : p := by repeat (first | (with_reducible first | exact HK.out | apply KeepBut.set_ | apply keep_drewN | apply keep_drew | apply keep_alloc) | exact HK.out)) : p := h
theorem u3_7 {p : Prop} (h : p := by repeat (first | (with_reducible first | exact HK.out | apply KeepBut.set_ | apply keep_drewN | apply keep_drew | apply keep_alloc | refine keep_far ?_ GW246.out _ | refine keep_far ?_ GW263.out _) | exact HK.out)) : p := h
theorem u3_8 {p : Prop} (h : p := by exact bd BK246.out) : p := h
theorem u3_9 {p : Prop} (h : p := by exact bd BK263.out) : p := h
theorem u3_10 {p : Prop} (h : p := by repeat (first | (with_reducible first | exact HK.out | apply KeepBut.set_ | apply keep_drewN | apply keep_drew | apply keep_alloc | refine keep_far ?_ GW182.out _ | refine keep_far ?_ GW187.out _) | exact HK.out)) : p := h
theorem u3_11 {p : Prop} (h : p := by repeat (first | (with_reducible first | exact HB.out | apply below_alloc | apply pw_below_drewN | apply below_drew1 | refine below_set ?_ (IsS88.ge HI0.out)) | exact HB.out)) : p := h
theorem u3_12 {p : Prop} (h : p := by repeat (first | (with_reducible first | exact HI0.out | apply IsS88.alloc | apply IsS88.drewN | apply IsS88.drew | apply IsS88.set_1 | apply IsS88.set_2) | exact HI0.out)) : p := h
theorem u3_13 {p : Prop} (h : p := by exact bd BK211.out) : p := h
theorem u3_14 {p : Prop} (h : p := by repeat (first | (with_reducible first | exact HI0.out | apply IsS88.alloc | apply IsS88.drewN | apply IsS88.drew | apply IsS88.set_1 | apply IsS88.set_2 | refine IsS88.far ?_ NB0_203.out _) | exact HI0.out)) : p := h
theorem u3_15 {p : Prop} (h : p := by repeat (first | (with_reducible first | exact HB.out | apply below_alloc | apply pw_below_drewN | apply below_drew1 | refine below_set ?_ (IsS88.ge HI0.out) | refine below_set ?_ GE203.out) | exact HB.out)) : p := h
theorem u3_16 {p : Prop} (h : p := by exact bd BK182.out) : p := h
theorem u3_17 {p : Prop} (h : p := by repeat (first | (with_reducible first | exact HK.out | apply KeepBut.set_ | apply keep_drewN | apply keep_drew | apply keep_alloc | refine keep_far ?_ GW246.out _) | exact HK.out)) : p := h
theorem u3_18 {p : Prop} (h : p := by repeat (first | (with_reducible first | exact HI0.out | apply IsS88.alloc | apply IsS88.drewN | apply IsS88.drew | apply IsS88.set_1 | apply IsS88.set_2 | refine IsS88.far ?_ NB0_203.out _ | refine IsS88.far ?_ NB0_211.out _) | exact HI0.out)) : p := h
theorem u3_19 {p : Prop} (h : p := by repeat (first | (with_reducible first | exact HB.out | apply below_alloc | apply pw_below_drewN | apply below_drew1 | refine below_set ?_ (IsS88.ge HI0.out) | refine below_set ?_ GE203.out | refine below_set ?_ GE211.out) | exact HB.out)) : p := h
theorem u3_20 {p : Prop} (h : p := by repeat (first | (with_reducible first | exact HK.out | apply KeepBut.set_ | apply keep_drewN | apply keep_drew | apply keep_alloc | refine keep_far ?_ GW182.out _) | exact HK.out)) : p := h
theorem u3_21 {p : Prop} (h : p := by exact bd BK187.out) : p := h
theorem u3_22 {p : Prop} (h : p := by simp) : p := h
theorem u3_23 {p : Prop} (h : p := by (with_reducible repeat (first | apply Kd.R_alloc | apply Kd.R_drewN | apply Kd.R_drew)); exact HO236.out) : p := h
def spec_l2Any.j0 : Nat → List Int → Int → Int → Int → Int → Option (Int × Int × Int × Int)
 | 0, _, _, _, _, _ => none
 | k + 1, x1000, x1001, x1002, x188000, x188001 => (spec_l1Once.f x1000 x1001 x1002 9).bind fun bt194 => (if bt194.1 = true then ((spec_l1Int.f x1000 bt194.2.1 bt194.2.2 (([4096, (-4096), 4097, (-4097), 4090] : List Int))).bind fun bt200 => (some (x188000, bt200.1, bt200.2.1, bt200.2.2))) else (some (x188000, x188001, bt194.2.1, bt194.2.2)))
def spec_l2Any.f (k : Nat) (s0_0 : List Int) (s0_1 : Int) (s0_2 : Int) : Option (Int × Int × Int × Int) := (spec_l2Draw.f s0_0 s0_1 s0_2).bind fun bt183 => ((spec_l1Once.f s0_0 bt183.2.2.1 bt183.2.2.2 9).bind fun bt188 => (if bt188.1 = true then ((spec_l1Odd.f s0_0 bt188.2.1 bt188.2.2).bind fun bt191 => (spec_l2Any.j0 k s0_0 bt191.2.1 bt191.2.2 bt191.1 bt183.2.1)) else (spec_l2Any.j0 k s0_0 bt188.2.1 bt188.2.2 bt183.1 bt183.2.1)))
theorem spec_l2Any.mono_l : ∀ k, (∀ y0 y1 y2 y3 y4, LeO (spec_l2Any.j0 k y0 y1 y2 y3 y4) (spec_l2Any.j0 (k + 1) y0 y1 y2 y3 y4))
 | 0 => fun _ _ _ _ _ r h => by simp [spec_l2Any.j0] at h
 | k + 1 => by
  have ih0 := spec_l2Any.mono_l k
  ·intro y0 y1 y2 y3 y4
   unfold spec_l2Any.j0
   repeat' first
   | (with_reducible exact ih0 _ _ _ _ _)
   | (with_reducible exact LeO.refl _)
   | (with_reducible exact LeO.none _)
   | (with_reducible refine LeO.ite ?_ ?_)
   | (with_reducible refine LeO.bind ?_ (fun _ => ?_))
theorem spec_l2Any.mono : ∀ a0 a1 a2 k, LeO (spec_l2Any.f k a0 a1 a2) (spec_l2Any.f (k + 1) a0 a1 a2) := by
 intro a0 a1 a2 k
 have ih0 := spec_l2Any.mono_l k
 unfold spec_l2Any.f
 repeat' first
   | (with_reducible exact ih0 _ _ _ _ _)
   | (with_reducible exact LeO.refl _)
   | (with_reducible exact LeO.none _)
   | (with_reducible refine LeO.ite ?_ ?_)
   | (with_reducible refine LeO.bind ?_ (fun _ => ?_))
theorem spec_l2Any.calls (k : Nat) (g : Nat) (s0_0 : List Int) (s0_1 : Int) (s0_2 : Int) (r1 : Int) (r2 : Int) (r3 : Int) (r4 : Int) (w0 w : World) (hI : IsS88 w0 w g s0_0 s0_1 s0_2) (hB : Below w0.heap.size w0 w) (h : spec_l2Any.f k s0_0 s0_1 s0_2 = some (r1, r2, r3, r4)) :
  Calls Tryd.prog 85 #[.pointer (some ⟨g, 0, none⟩)] w fun e w' => e = .returned (.agg #[.int .i64 r1, .int .i64 r2]) ∧ IsS88 w0 w' g s0_0 r3 r4 ∧ Below w0.heap.size w0 w' ∧ KeepBut w w' g none := by
 have hu36 := Tryd.underlying36
 have HI0 := am hI
 have HK := am (KeepBut.refl w g none)
 have HL := am hB.size
 clear hI
 have HW0 := am hB.size
 have HB := am hB
 clear hB
 have H : ((spec_l2Draw.f s0_0 s0_1 s0_2).bind fun bt183 => ((spec_l1Once.f s0_0 bt183.2.2.1 bt183.2.2.2 9).bind fun bt188 => (if bt188.1 = true then ((spec_l1Odd.f s0_0 bt188.2.1 bt188.2.2).bind fun bt191 => (spec_l2Any.j0 k s0_0 bt191.2.1 bt191.2.2 bt191.1 bt183.2.1)) else (spec_l2Any.j0 k s0_0 bt188.2.1 bt188.2.2 bt183.1 bt183.2.1)))) = some (r1, r2, r3, r4) := h
 clear h
 replace H := ob H
 obtain ⟨⟨t183, t184, t185, t186⟩, A20, H⟩ := H
 replace H : ((spec_l1Once.f s0_0 t185 t186 9).bind fun bt188 => (if bt188.1 = true then ((spec_l1Odd.f s0_0 bt188.2.1 bt188.2.2).bind fun bt191 => (spec_l2Any.j0 k s0_0 bt191.2.1 bt191.2.2 bt191.1 t184)) else (spec_l2Any.j0 k s0_0 bt188.2.1 bt188.2.2 t183 t184))) = some (r1, r2, r3, r4) := H
 have A2 := am A20
 clear A20
 replace H := ob H
 obtain ⟨⟨t188, t189, t190⟩, A30, H⟩ := H
 replace H : (if t188 = true then ((spec_l1Odd.f s0_0 t189 t190).bind fun bt191 => (spec_l2Any.j0 k s0_0 bt191.2.1 bt191.2.2 bt191.1 t184)) else (spec_l2Any.j0 k s0_0 t189 t190 t183 t184)) = some (r1, r2, r3, r4) := H
 have A3 := am A30
 clear A30
 have HC4 := am H
 clear H
 go_enter Tryd.func85, Tryd.ntmps85
 go_upto_if 7 with (first | ((with_reducible refine gate_dst (N := 2) rfl ?_); refine box_event ?hg (N := 2) ?hd (cs := #[.int .i64 0, .int .i64 0]) (t := 36) ?hr ?_; (case hd => rfl); (case hg => rfl); (case hr => exact gq); intro gb182 hg w5 hbox hb; have n0_ := am (IsS88.below u3_12 hb); have n1_ := am (KeepBut.trans u3_6 (KeepBut.of_below hb g none) (.inl rfl)); have n2_ := am (below_step u3_11 hb); have n3_ := am (hbox); have n4_ := am ((by rw [hg]; exact (keep_size (w := w) (g := g) (row := none) u3_6) : w.heap.size ≤ gb182)); have n5_ := am ((Nat.le_trans HW0.out (by rw [hg]; exact (keep_size (w := w) (g := g) (row := none) u3_6) : w.heap.size ≤ gb182) : w0.heap.size ≤ gb182)); have n6_ := am ((by rw [hg]; exact Nat.ne_of_lt (IsS88.lt (show IsS88 w0 _ g s0_0 s0_1 s0_2 from by repeat (first | (with_reducible first | exact HI0.out | apply IsS88.alloc | apply IsS88.drewN | apply IsS88.drew | apply IsS88.set_1 | apply IsS88.set_2) | exact HI0.out))) : g ≠ gb182)); have n7_ := am ((by rw [hg]; exact Nat.ne_of_gt (IsS88.lt (show IsS88 w0 _ g s0_0 s0_1 s0_2 from by repeat (first | (with_reducible first | exact HI0.out | apply IsS88.alloc | apply IsS88.drewN | apply IsS88.drew | apply IsS88.set_1 | apply IsS88.set_2) | exact HI0.out))) : gb182 ≠ g)); clear HI0 HK HB; have HI0 := n0_; have HK := n1_; have HB := n2_; have BK182 := n3_; have GW182 := n4_; have GE182 := n5_; have NB0_182 := n6_; have NB182_0 := n7_; clear n0_ n1_ n2_ n3_ n4_ n5_ n6_ n7_ hb hbox hg) | ((with_reducible refine gate_callee (f := 101) rfl ?_); refine goesL_ (some 5) rfl rfl Tryd.func101 (by kernel_rfl) rfl #[.pointer (some ⟨g, 0, none⟩)] rfl u3_5 ?_; (with_reducible refine (spec_l2Draw.calls g s0_0 s0_1 s0_2 t183 t184 t185 t186 w0 _ ?side1 ?side2 A2.out).mono ?_); (case side1 => repeat (first | (with_reducible first | exact HI0.out | apply IsS88.alloc | apply IsS88.drewN | apply IsS88.drew | apply IsS88.set_1 | apply IsS88.set_2 | refine IsS88.far ?_ NB0_182.out _) | exact HI0.out)); (case side2 => repeat (first | (with_reducible first | exact HB.out | apply below_alloc | apply pw_below_drewN | apply below_drew1 | refine below_set ?_ (IsS88.ge HI0.out) | refine below_set ?_ GE182.out) | exact HB.out)); rintro e w6 ⟨rfl, hi, hb, hk⟩; refine ⟨_, rfl, ?_⟩; have n0_ := am (KeepBut.blk hk (g' := gb182) (o := zo1 0 0) u3_16 NB182_0.out u3_22); have n1_ := am (KeepBut.trans u3_20 hk (.inl rfl)); have n2_ := am (hb); have n3_ := am (hi); clear BK182 HK HB HI0; have BK182 := n0_; have HK := n1_; have HB := n2_; have HI0 := n3_; clear n0_ n1_ n2_ n3_; (try clear hb); (try clear hb2); (try clear hk); (try clear hi)) | ((with_reducible refine gate_dst (N := 3) rfl ?_); refine box_event ?hg (N := 3) ?hd (cs := #[.int .i64 0, .int .i64 0]) (t := 36) ?hr ?_; (case hd => rfl); (case hg => rfl); (case hr => exact gq); intro gb187 hg w7 hbox hb; have n0_ := am (IsS88.below (by repeat (first | (with_reducible first | exact HI0.out | apply IsS88.alloc | apply IsS88.drewN | apply IsS88.drew | apply IsS88.set_1 | apply IsS88.set_2 | refine IsS88.far ?_ NB0_182.out _) | exact HI0.out)) hb); have n1_ := am (blk_below (g := gb182) (o := zo1 0 0) u3_16 hb); have n2_ := am (KeepBut.trans u3_20 (KeepBut.of_below hb g none) (.inl rfl)); have n3_ := am (below_step (by repeat (first | (with_reducible first | exact HB.out | apply below_alloc | apply pw_below_drewN | apply below_drew1 | refine below_set ?_ (IsS88.ge HI0.out) | refine below_set ?_ GE182.out) | exact HB.out)) hb); have n4_ := am (hbox); have n5_ := am ((by rw [hg]; exact (keep_size (w := w) (g := g) (row := none) u3_20) : w.heap.size ≤ gb187)); have n6_ := am ((Nat.le_trans HW0.out (by rw [hg]; exact (keep_size (w := w) (g := g) (row := none) u3_20) : w.heap.size ≤ gb187) : w0.heap.size ≤ gb187)); have n7_ := am ((by rw [hg]; exact Nat.ne_of_lt (blk_lt (g := gb182) (o := zo1 0 0) u3_16) : gb182 ≠ gb187)); have n8_ := am ((by rw [hg]; exact Nat.ne_of_gt (blk_lt (g := gb182) (o := zo1 0 0) u3_16) : gb187 ≠ gb182)); have n9_ := am ((by rw [hg]; exact Nat.ne_of_lt (IsS88.lt (show IsS88 w0 _ g s0_0 t185 t186 from by repeat (first | (with_reducible first | exact HI0.out | apply IsS88.alloc | apply IsS88.drewN | apply IsS88.drew | apply IsS88.set_1 | apply IsS88.set_2 | refine IsS88.far ?_ NB0_182.out _) | exact HI0.out))) : g ≠ gb187)); have n10_ := am ((by rw [hg]; exact Nat.ne_of_gt (IsS88.lt (show IsS88 w0 _ g s0_0 t185 t186 from by repeat (first | (with_reducible first | exact HI0.out | apply IsS88.alloc | apply IsS88.drewN | apply IsS88.drew | apply IsS88.set_1 | apply IsS88.set_2 | refine IsS88.far ?_ NB0_182.out _) | exact HI0.out))) : gb187 ≠ g)); clear HI0 BK182 HK HB; have HI0 := n0_; have BK182 := n1_; have HK := n2_; have HB := n3_; have BK187 := n4_; have GW187 := n5_; have GE187 := n6_; have NB182_187 := n7_; have NB187_182 := n8_; have NB0_187 := n9_; have NB187_0 := n10_; clear n0_ n1_ n2_ n3_ n4_ n5_ n6_ n7_ n8_ n9_ n10_ hb hbox hg; have hnb8 := NB187_182.out; have hnc8 := NB182_187.out; have hnb9 := NB187_0.out; have hnc9 := NB0_187.out; obtain ⟨hcz10_0, hcz10_1, hfz10_0, hfz10_1⟩ := cf2 BK187.out) | ((with_reducible refine gate_callee (f := 48) rfl ?_); refine goesL_ (some 7) rfl rfl Tryd.func48 (by kernel_rfl) rfl #[.pointer (some ⟨g, 0, none⟩), .int .i64 9] rfl u3_5 ?_; (with_reducible refine (spec_l1Once.calls g s0_0 t185 t186 9 t188 t189 t190 w0 _ ?side1 ?side2 A3.out).mono ?_); (case side1 => exact s3_0); (case side2 => exact s3_3); rintro e w11 ⟨rfl, hi, hb, hk⟩; refine ⟨_, rfl, ?_⟩; have n0_ := am (KeepBut.blk hk (g' := gb182) (o := zo1 0 0) (by (with_reducible repeat (first | refine bN ?_ _ | refine bD ?_ | refine bA ?_ _)); refine blk_far ?_ NB182_187.out _; (with_reducible repeat (first | refine bN ?_ _ | refine bD ?_ | refine bA ?_ _)); refine blk_far ?_ NB182_187.out _; exact bd BK182.out) NB182_0.out u3_22); have n1_ := am (KeepBut.blk hk (g' := gb187) (o := zo1 t183 t184) (by (with_reducible repeat (first | refine bN ?_ _ | refine bD ?_ | refine bA ?_ _)); refine blk_put (cs := zr4 t183 0) ?_ 1 _ rfl; refine blk_put (cs := zr4 0 0) ?_ 0 _ rfl; exact bd BK187.out) NB187_0.out u3_22); have n2_ := am (KeepBut.trans u3_10 hk (.inl rfl)); have n3_ := am (hb); have n4_ := am (hi); clear BK182 BK187 HK HB HI0; have BK182 := n0_; have BK187 := n1_; have HK := n2_; have HB := n3_; have HI0 := n4_; clear n0_ n1_ n2_ n3_ n4_; (try clear hb); (try clear hb2); (try clear hk); (try clear hi)))
 (try simp only [Act.put, List.setIfInBounds_toArray, List.set_cons_zero, List.set_cons_succ])
 go_cut [] (fun wc => ∃ (kq : Nat) (x1001_3 : Int) (x1002_3 : Int) (x188000_3 : Int), Aside0 (spec_l2Any.j0 kq s0_0 x1001_3 x1002_3 x188000_3 t184 = some (r1, r2, r3, r4)) ∧ Aside0 (kq ≤ k) ∧ Aside0 (wc.heap[gb182]? = some (.cells #[.int .i64 0, .int .i64 0] 36 (0, 0))) ∧ Aside0 (wc.heap[gb187]? = some (.cells #[.int .i64 x188000_3, .int .i64 t184] 36 (0, 0))) ∧ Aside0 (IsS88 w0 wc g s0_0 x1001_3 x1002_3) ∧ Aside0 (KeepBut w wc g none) ∧ Aside0 (Below w0.heap.size w0 wc))
 case first =>
  have H := HC4.out
  clear HC4
  by_cases c12 : t188 = true
  ·subst c12
   have H1 : ((spec_l1Odd.f s0_0 t189 t190).bind fun bt191 => (spec_l2Any.j0 k s0_0 bt191.2.1 bt191.2.2 bt191.1 t184)) = some (r1, r2, r3, r4) := by rw [if_pos rfl] at H; exact H
   clear H
   have H := H1
   clear H1
   replace H := ob H
   obtain ⟨⟨t191, t192, t193⟩, A130, H⟩ := H
   replace H : (spec_l2Any.j0 k s0_0 t192 t193 t191 t184) = some (r1, r2, r3, r4) := H
   have A13 := am A130
   clear A130
   have H' := am H
   clear H
   go_wp2_with (first | ((with_reducible refine gate_callee (f := 70) rfl ?_); refine goesL_ (some 9) rfl rfl Tryd.func70 (by kernel_rfl) rfl #[.pointer (some ⟨g, 0, none⟩)] rfl u3_5 ?_; (with_reducible refine (spec_l1Odd.calls g s0_0 t189 t190 t191 t192 t193 w0 _ ?side1 ?side2 A13.out).mono ?_); (case side1 => exact s3_0); (case side2 => exact s3_3); rintro e w14 ⟨rfl, hi, hb, hk⟩; refine ⟨_, rfl, ?_⟩; have n0_ := am (KeepBut.blk hk (g' := gb182) (o := zo1 0 0) u3_16 NB182_0.out u3_22); have n1_ := am (KeepBut.blk hk (g' := gb187) (o := zo1 t183 t184) u3_21 NB187_0.out u3_22); have n2_ := am (KeepBut.trans u3_10 hk (.inl rfl)); have n3_ := am (hb); have n4_ := am (hi); clear BK182 BK187 HK HB HI0; have BK182 := n0_; have BK187 := n1_; have HK := n2_; have HB := n3_; have HI0 := n4_; clear n0_ n1_ n2_ n3_ n4_; (try clear hb); (try clear hb2); (try clear hk); (try clear hi); have hnb15 := NB187_182.out; have hnc15 := NB182_187.out; have hnb16 := NB187_0.out; have hnc16 := NB0_187.out; obtain ⟨hcz17_0, hcz17_1, hfz17_0, hfz17_1⟩ := cf2 BK187.out))
   go_meet
   case rel => exact ⟨_, (t192), (t193), (t191), H', ⟨by first | omega | exact Nat.le_refl _⟩, ⟨by (with_reducible repeat (first | refine bN ?_ _ | refine bD ?_ | refine bA ?_ _)); refine blk_far ?_ NB182_187.out _; exact bd BK182.out⟩, ⟨by (with_reducible repeat (first | refine bN ?_ _ | refine bD ?_ | refine bA ?_ _)); refine blk_put (cs := zr4 t183 t184) ?_ 0 _ rfl; exact bd BK187.out⟩, ⟨s3_0⟩, ⟨s3_6⟩, ⟨s3_3⟩⟩
  ·replace c12 := Bool.eq_false_iff.mpr c12
   subst c12
   have H1 : (spec_l2Any.j0 k s0_0 t189 t190 t183 t184) = some (r1, r2, r3, r4) := by rw [if_neg (show ¬ (false = true) by decide)] at H; exact H
   clear H
   have H := H1
   clear H1
   have H' := am H
   clear H
   go_wp2
   go_meet
   case rel => exact ⟨_, (t189), (t190), (t183), H', ⟨by first | omega | exact Nat.le_refl _⟩, ⟨bd BK182.out⟩, ⟨bd BK187.out⟩, ⟨s3_0⟩, ⟨s3_6⟩, ⟨s3_3⟩⟩
 case rest =>
  clear HC4
  try clear c1
  try clear p2
  try clear c4
  try clear c7
  try clear c8
  try clear c9
  try clear c10
  try clear c12
  try clear c15
  try clear c16
  try clear hcz10_0
  try clear hcz10_1
  try clear hcz17_0
  try clear hcz17_1
  try clear hfz10_0
  try clear hfz10_1
  try clear hfz17_0
  try clear hfz17_1
  obtain ⟨kq, x1001_3, x1002_3, x188000_3, HA, HJ3, BK182, BK187, HI0, HK, HB⟩ := hcut
  cases kq with
  | zero => exact absurd HA.out (by simp [spec_l2Any.j0])
  | succ kj3 =>
   have H := HA.out
   clear HA
   simp only [spec_l2Any.j0] at H
   replace H := ob H
   obtain ⟨⟨t194, t195, t196⟩, A180, H⟩ := H
   replace H : (if t194 = true then ((spec_l1Int.f s0_0 t195 t196 (([4096, (-4096), 4097, (-4097), 4090] : List Int))).bind fun bt200 => (some (x188000_3, bt200.1, bt200.2.1, bt200.2.2))) else (some (x188000_3, t184, t195, t196))) = some (r1, r2, r3, r4) := H
   have A18 := am A180
   clear A180
   by_cases c19 : t194 = true
   ·subst c19
    have H1 : ((spec_l1Int.f s0_0 t195 t196 (([4096, (-4096), 4097, (-4097), 4090] : List Int))).bind fun bt200 => (some (x188000_3, bt200.1, bt200.2.1, bt200.2.2))) = some (r1, r2, r3, r4) := by rw [if_pos rfl] at H; exact H
    clear H
    have H := H1
    clear H1
    obtain ⟨y197, hy197⟩ : ∃ y_ : List Int, y_ = (([4096, (-4096), 4097, (-4097), 4090] : List Int)) := ⟨_, rfl⟩
    replace H : ((spec_l1Int.f s0_0 t195 t196 y197).bind fun bt200 => (some (x188000_3, bt200.1, bt200.2.1, bt200.2.2))) = some (r1, r2, r3, r4) := by first | (rw [hy197]; with_reducible exact H) | (have H2_ := (Option.bind_some _ _).symm.trans H; rw [hy197]; with_reducible exact H2_) | (have H2_ := (Option.bind_some _ _).symm.trans H; with_reducible exact H2_) | with_reducible exact H | (rw [hy197]; exact H) | exact H
    have Ny197 := am hy197
    clear hy197
    replace H := ob H
    obtain ⟨⟨t200, t201, t202⟩, A200, H⟩ := H
    replace H : (some (x188000_3, t200, t201, t202)) = some (r1, r2, r3, r4) := H
    have A20 := am A200
    clear A200
    simp only [Option.some.injEq, Prod.mk.injEq] at H
    obtain ⟨rfl, rfl, rfl, rfl⟩ := H
    go_wp2_with (first | ((with_reducible refine gate_callee (f := 48) rfl ?_); refine goesL_ (some 12) rfl rfl Tryd.func48 (by kernel_rfl) rfl #[.pointer (some ⟨g, 0, none⟩), .int .i64 9] rfl u3_5 ?_; (with_reducible refine (spec_l1Once.calls g s0_0 x1001_3 x1002_3 9 true t195 t196 w0 _ ?side1 ?side2 A18.out).mono ?_); (case side1 => exact s3_0); (case side2 => exact s3_3); rintro e w21 ⟨rfl, hi, hb, hk⟩; refine ⟨_, rfl, ?_⟩; have n0_ := am (KeepBut.blk hk (g' := gb182) (o := zo1 0 0) u3_16 NB182_0.out u3_22); have n1_ := am (KeepBut.blk hk (g' := gb187) (o := zo1 x188000_3 t184) u3_21 NB187_0.out u3_22); have n2_ := am (KeepBut.trans u3_10 hk (.inl rfl)); have n3_ := am (hb); have n4_ := am (hi); clear BK182 BK187 HK HB HI0; have BK182 := n0_; have BK187 := n1_; have HK := n2_; have HB := n3_; have HI0 := n4_; clear n0_ n1_ n2_ n3_ n4_; (try clear hb); (try clear hb2); (try clear hk); (try clear hi)) | ((with_reducible refine gate_dst (N := 14) rfl ?_); refine Kd.R_lit (Kd.int .i64) _ 3 ?hg (N := 14) ?hd (xs := ([4096, (-4096), 4097, (-4097), 4090] : List Int)) (inner := [.int .i64 4096, .int .i64 (-4096), .int .i64 4097, .int .i64 (-4097), .int .i64 4090]) (ok := fun _ => True) (okp := fun _ => True) ?hr ?hp (fun _ hk => hk) trivial (Below.refl _ _) (Nat.le_refl _) u3_22 ?_; (case hd => rfl); (case hg => rfl); (case hr => exact gq); (case hp => exact (Reps.one (show Kd.M (Kd.int .i64) _ _ _ 4096 [.int .i64 4096] from rfl) (Reps.one (show Kd.M (Kd.int .i64) _ _ _ (-4096) [.int .i64 (-4096)] from rfl) (Reps.one (show Kd.M (Kd.int .i64) _ _ _ 4097 [.int .i64 4097] from rfl) (Reps.one (show Kd.M (Kd.int .i64) _ _ _ (-4097) [.int .i64 (-4097)] from rfl) (Reps.one (show Kd.M (Kd.int .i64) _ _ _ 4090 [.int .i64 4090] from rfl) (Reps.none _ _))))))); intro v198 w22 ho23 hb hg_ hnew_; clear hg_ hnew_; (first | rw [← Ny197.out] at ho23 | (simp only [Int.reduceToNat] at ho23; rw [← Ny197.out] at ho23)); have n0_ := am (Kd.R_lower ho23 (keep_size (w := w) (g := g) (row := none) u3_10)); have n1_ := am (blk_below (g := gb182) (o := zo1 0 0) u3_16 hb); have n2_ := am (blk_below (g := gb187) (o := zo1 x188000_3 t184) u3_21 hb); have n3_ := am (IsS88.below (by repeat (first | (with_reducible first | exact HI0.out | apply IsS88.alloc | apply IsS88.drewN | apply IsS88.drew | apply IsS88.set_1 | apply IsS88.set_2 | refine IsS88.far ?_ NB0_182.out _ | refine IsS88.far ?_ NB0_187.out _) | exact HI0.out)) hb); have n4_ := am (KeepBut.trans u3_10 (KeepBut.of_below hb g none) (.inl rfl)); have n5_ := am (below_step (by repeat (first | (with_reducible first | exact HB.out | apply below_alloc | apply pw_below_drewN | apply below_drew1 | refine below_set ?_ (IsS88.ge HI0.out) | refine below_set ?_ GE182.out | refine below_set ?_ GE187.out) | exact HB.out)) hb); clear BK182 BK187 HI0 HK HB; have HO199 := n0_; have BK182 := n1_; have BK187 := n2_; have HI0 := n3_; have HK := n4_; have HB := n5_; clear n0_ n1_ n2_ n3_ n4_ n5_ hb ho23; obtain ⟨Ao24, co24, eo24⟩ := Kd.R_slice HO199.out; subst eo24) | ((with_reducible refine gate_callee (f := 72) rfl ?_); refine goesL_ (some 15) rfl rfl Tryd.func72 (by kernel_rfl) rfl #[.pointer (some ⟨g, 0, none⟩), .slice Ao24 y197.length co24] rfl u3_5 ?_; (with_reducible refine (spec_l1Int.calls g s0_0 t195 t196 _ _ y197 t200 t201 t202 w0 _ ?side1 ?side2 ?side3 ?side4 ?side5 A20.out).mono ?_); (case side1 => exact s3_0); (case side2 => exact s3_3); (case side3 => repeat (first | exact (Kd.R_reads' HO199.out).2.2 | (with_reducible refine Kd.C_alloc ?_ _) | (with_reducible refine Kd.C_drewN ?_ _) | (with_reducible refine Kd.C_drew ?_))); (case side4 => exact (Kd.R_reads' HO199.out).2.1); (case side5 => exact far_slice (IsS88.own_ne HI0.out HO199.out (by decide))); rintro e w25 ⟨rfl, hi, hb, hk⟩; refine ⟨_, rfl, ?_⟩; have n0_ := am (KeepBut.blk hk (g' := gb182) (o := zo1 0 0) u3_16 NB182_0.out u3_22); have n1_ := am (KeepBut.blk hk (g' := gb187) (o := zo1 x188000_3 t184) u3_21 NB187_0.out u3_22); have n2_ := am (Kd.R_mono (Kd.R_keep (IsS88.apart (show IsS88 w0 _ g s0_0 t195 t196 from by repeat (first | (with_reducible first | exact HI0.out | apply IsS88.alloc | apply IsS88.drewN | apply IsS88.drew | apply IsS88.set_1 | apply IsS88.set_2 | refine IsS88.far ?_ NB0_182.out _ | refine IsS88.far ?_ NB0_187.out _) | exact HI0.out)) (by (with_reducible repeat (first | apply Kd.R_alloc | apply Kd.R_drewN | apply Kd.R_drew)); exact HO199.out) (by decide)) hk (fun _ h => h.2)) (fun _ h => h.1)); have n3_ := am (KeepBut.trans u3_10 hk (.inl rfl)); have n4_ := am (hb); have n5_ := am (hi); clear BK182 BK187 HO199 HK HB HI0; have BK182 := n0_; have BK187 := n1_; have HO199 := n2_; have HK := n3_; have HB := n4_; have HI0 := n5_; clear n0_ n1_ n2_ n3_ n4_ n5_; (try clear hb); (try clear hb2); (try clear hk); (try clear hi); have hnb26 := NB187_182.out; have hnc26 := NB182_187.out; have hnb27 := NB187_0.out; have hnc27 := NB0_187.out; obtain ⟨hcz28_0, hcz28_1, hfz28_0, hfz28_1⟩ := cf2 BK187.out; have hnb29 := NB182_0.out; have hnc29 := NB0_182.out; obtain ⟨hcz30_0, hcz30_1, hfz30_0, hfz30_1⟩ := cf2 BK182.out))
    refine bodyPost_ret (results_cell_row rfl _ _ gb182 36 #[.int .i64 x188000_3, .int .i64 t200] (0, 0) _ rfl (by (with_reducible repeat (first | refine bN ?_ _ | refine bD ?_ | refine bA ?_ _)); refine blk_put (cs := zr4 x188000_3 0) ?_ 1 _ rfl; refine blk_put (cs := zr4 0 0) ?_ 0 _ rfl; (with_reducible repeat (first | refine bN ?_ _ | refine bD ?_ | refine bA ?_ _)); refine blk_far ?_ NB182_187.out _; exact bd BK182.out) Tryd.underlying36 rfl (by kernel_rfl)) rfl ?_
    exact ⟨by first | rfl | (simp [*] <;> rfl), s3_0, s3_3, s3_6⟩
   ·replace c19 := Bool.eq_false_iff.mpr c19
    subst c19
    have H1 : (some (x188000_3, t184, t195, t196)) = some (r1, r2, r3, r4) := by rw [if_neg (show ¬ (false = true) by decide)] at H; exact H
    clear H
    have H := H1
    clear H1
    simp only [Option.some.injEq, Prod.mk.injEq] at H
    obtain ⟨rfl, rfl, rfl, rfl⟩ := H
    go_wp2_with (first | ((with_reducible refine gate_callee (f := 48) rfl ?_); refine goesL_ (some 12) rfl rfl Tryd.func48 (by kernel_rfl) rfl #[.pointer (some ⟨g, 0, none⟩), .int .i64 9] rfl u3_5 ?_; (with_reducible refine (spec_l1Once.calls g s0_0 x1001_3 x1002_3 9 false t195 t196 w0 _ ?side1 ?side2 A18.out).mono ?_); (case side1 => exact s3_0); (case side2 => exact s3_3); rintro e w31 ⟨rfl, hi, hb, hk⟩; refine ⟨_, rfl, ?_⟩; have n0_ := am (KeepBut.blk hk (g' := gb182) (o := zo1 0 0) u3_16 NB182_0.out u3_22); have n1_ := am (KeepBut.blk hk (g' := gb187) (o := zo1 x188000_3 t184) u3_21 NB187_0.out u3_22); have n2_ := am (KeepBut.trans u3_10 hk (.inl rfl)); have n3_ := am (hb); have n4_ := am (hi); clear BK182 BK187 HK HB HI0; have BK182 := n0_; have BK187 := n1_; have HK := n2_; have HB := n3_; have HI0 := n4_; clear n0_ n1_ n2_ n3_ n4_; (try clear hb); (try clear hb2); (try clear hk); (try clear hi); have hnb32 := NB187_182.out; have hnc32 := NB182_187.out; have hnb33 := NB187_0.out; have hnc33 := NB0_187.out; obtain ⟨hcz34_0, hcz34_1, hfz34_0, hfz34_1⟩ := cf2 BK187.out; have hnb35 := NB182_0.out; have hnc35 := NB0_182.out; obtain ⟨hcz36_0, hcz36_1, hfz36_0, hfz36_1⟩ := cf2 BK182.out))
    refine bodyPost_ret (results_cell_row rfl _ _ gb182 36 #[.int .i64 x188000_3, .int .i64 t184] (0, 0) _ rfl (by (with_reducible repeat (first | refine bN ?_ _ | refine bD ?_ | refine bA ?_ _)); refine blk_put (cs := zr4 x188000_3 0) ?_ 1 _ rfl; refine blk_put (cs := zr4 0 0) ?_ 0 _ rfl; exact bd BK182.out) Tryd.underlying36 rfl (by kernel_rfl)) rfl ?_
    exact ⟨by first | rfl | (simp [*] <;> rfl), s3_0, s3_3, s3_6⟩

def spec_l3Any.f (k : Nat) (s0_0 : List Int) (s0_1 : Int) (s0_2 : Int) : Option (Int × Int × Int × Int × Int × Int × Int) := (spec_l3Draw.f s0_0 s0_1 s0_2).bind fun bt204 => ((spec_l1Below.f s0_0 bt204.2.2.2.2.2.1 bt204.2.2.2.2.2.2 12).bind fun bt212 => (if bt212.1 = 0 then ((spec_l2Any.f k s0_0 bt212.2.1 bt212.2.2).bind fun bt215 => (some (bt215.1, bt215.2.1, bt204.2.2.1, bt204.2.2.2.1, bt204.2.2.2.2.1, bt215.2.2.1, bt215.2.2.2))) else (if bt212.1 = 1 then ((spec_l1Odd.f s0_0 bt212.2.1 bt212.2.2).bind fun bt219 => (some (bt204.1, bt204.2.1, bt219.1, bt204.2.2.2.1, bt204.2.2.2.2.1, bt219.2.1, bt219.2.2))) else (if bt212.1 = 2 then ((spec_l1Int.f s0_0 bt212.2.1 bt212.2.2 (([(-1), 17, 16, 1000, 9223372036854775807] : List Int))).bind fun bt225 => (some (bt204.1, bt204.2.1, bt204.2.2.1, bt225.1, bt204.2.2.2.2.1, bt225.2.1, bt225.2.2))) else (if bt212.1 = 3 then ((spec_l1Int.f s0_0 bt212.2.1 bt212.2.2 (([0, (-1), 33, 32, 9223372036854775807, (-9223372036854775808)] : List Int))).bind fun bt231 => (some (bt204.1, bt204.2.1, bt204.2.2.1, bt204.2.2.2.1, bt231.1, bt231.2.1, bt231.2.2))) else (if bt212.1 = 4 then ((spec_l1Int.f s0_0 bt212.2.1 bt212.2.2 (([1024, 1025, (-1024), (-1025)] : List Int))).bind fun bt237 => ((spec_l1Int.f s0_0 bt237.2.1 bt237.2.2 (([0, 1024, (-1025)] : List Int))).bind fun bt243 => (some (bt237.1, bt243.1, bt204.2.2.1, bt204.2.2.2.1, bt204.2.2.2.2.1, bt243.2.1, bt243.2.2)))) else (some (bt204.1, bt204.2.1, bt204.2.2.1, bt204.2.2.2.1, bt204.2.2.2.2.1, bt212.2.1, bt212.2.2))))))))
theorem spec_l3Any.mono : ∀ a0 a1 a2 k, LeO (spec_l3Any.f k a0 a1 a2) (spec_l3Any.f (k + 1) a0 a1 a2) := by
 intro a0 a1 a2 k
 unfold spec_l3Any.f
 repeat' first
   | (with_reducible exact spec_l2Any.mono _ _ _ _)
   | (with_reducible exact LeO.refl _)
   | (with_reducible exact LeO.none _)
   | (with_reducible refine LeO.ite ?_ ?_)
   | (with_reducible refine LeO.bind ?_ (fun _ => ?_))
theorem spec_l3Any.calls (k : Nat) (g : Nat) (s0_0 : List Int) (s0_1 : Int) (s0_2 : Int) (r1 : Int) (r2 : Int) (r3 : Int) (r4 : Int) (r5 : Int) (r6 : Int) (r7 : Int) (w0 w : World) (hI : IsS88 w0 w g s0_0 s0_1 s0_2) (hB : Below w0.heap.size w0 w) (h : spec_l3Any.f k s0_0 s0_1 s0_2 = some (r1, r2, r3, r4, r5, r6, r7)) :
  Calls Tryd.prog 86 #[.pointer (some ⟨g, 0, none⟩)] w fun e w' => e = .returned (.agg #[.int .i64 r1, .int .i64 r2, .int .i64 r3, .int .i64 r4, .int .i64 r5]) ∧ IsS88 w0 w' g s0_0 r6 r7 ∧ Below w0.heap.size w0 w' ∧ KeepBut w w' g none := by
 have hu79 := Tryd.underlying79
 have hu36 := Tryd.underlying36
 have HI0 := am hI
 have HK := am (KeepBut.refl w g none)
 have HL := am hB.size
 clear hI
 have HW0 := am hB.size
 have HB := am hB
 clear hB
 have H : ((spec_l3Draw.f s0_0 s0_1 s0_2).bind fun bt204 => ((spec_l1Below.f s0_0 bt204.2.2.2.2.2.1 bt204.2.2.2.2.2.2 12).bind fun bt212 => (if bt212.1 = 0 then ((spec_l2Any.f k s0_0 bt212.2.1 bt212.2.2).bind fun bt215 => (some (bt215.1, bt215.2.1, bt204.2.2.1, bt204.2.2.2.1, bt204.2.2.2.2.1, bt215.2.2.1, bt215.2.2.2))) else (if bt212.1 = 1 then ((spec_l1Odd.f s0_0 bt212.2.1 bt212.2.2).bind fun bt219 => (some (bt204.1, bt204.2.1, bt219.1, bt204.2.2.2.1, bt204.2.2.2.2.1, bt219.2.1, bt219.2.2))) else (if bt212.1 = 2 then ((spec_l1Int.f s0_0 bt212.2.1 bt212.2.2 (([(-1), 17, 16, 1000, 9223372036854775807] : List Int))).bind fun bt225 => (some (bt204.1, bt204.2.1, bt204.2.2.1, bt225.1, bt204.2.2.2.2.1, bt225.2.1, bt225.2.2))) else (if bt212.1 = 3 then ((spec_l1Int.f s0_0 bt212.2.1 bt212.2.2 (([0, (-1), 33, 32, 9223372036854775807, (-9223372036854775808)] : List Int))).bind fun bt231 => (some (bt204.1, bt204.2.1, bt204.2.2.1, bt204.2.2.2.1, bt231.1, bt231.2.1, bt231.2.2))) else (if bt212.1 = 4 then ((spec_l1Int.f s0_0 bt212.2.1 bt212.2.2 (([1024, 1025, (-1024), (-1025)] : List Int))).bind fun bt237 => ((spec_l1Int.f s0_0 bt237.2.1 bt237.2.2 (([0, 1024, (-1025)] : List Int))).bind fun bt243 => (some (bt237.1, bt243.1, bt204.2.2.1, bt204.2.2.2.1, bt204.2.2.2.2.1, bt243.2.1, bt243.2.2)))) else (some (bt204.1, bt204.2.1, bt204.2.2.1, bt204.2.2.2.1, bt204.2.2.2.2.1, bt212.2.1, bt212.2.2))))))))) = some (r1, r2, r3, r4, r5, r6, r7) := h
 clear h
 replace H := ob H
 obtain ⟨⟨t204, t205, t206, t207, t208, t209, t210⟩, A20, H⟩ := H
 replace H : ((spec_l1Below.f s0_0 t209 t210 12).bind fun bt212 => (if bt212.1 = 0 then ((spec_l2Any.f k s0_0 bt212.2.1 bt212.2.2).bind fun bt215 => (some (bt215.1, bt215.2.1, t206, t207, t208, bt215.2.2.1, bt215.2.2.2))) else (if bt212.1 = 1 then ((spec_l1Odd.f s0_0 bt212.2.1 bt212.2.2).bind fun bt219 => (some (t204, t205, bt219.1, t207, t208, bt219.2.1, bt219.2.2))) else (if bt212.1 = 2 then ((spec_l1Int.f s0_0 bt212.2.1 bt212.2.2 (([(-1), 17, 16, 1000, 9223372036854775807] : List Int))).bind fun bt225 => (some (t204, t205, t206, bt225.1, t208, bt225.2.1, bt225.2.2))) else (if bt212.1 = 3 then ((spec_l1Int.f s0_0 bt212.2.1 bt212.2.2 (([0, (-1), 33, 32, 9223372036854775807, (-9223372036854775808)] : List Int))).bind fun bt231 => (some (t204, t205, t206, t207, bt231.1, bt231.2.1, bt231.2.2))) else (if bt212.1 = 4 then ((spec_l1Int.f s0_0 bt212.2.1 bt212.2.2 (([1024, 1025, (-1024), (-1025)] : List Int))).bind fun bt237 => ((spec_l1Int.f s0_0 bt237.2.1 bt237.2.2 (([0, 1024, (-1025)] : List Int))).bind fun bt243 => (some (bt237.1, bt243.1, t206, t207, t208, bt243.2.1, bt243.2.2)))) else (some (t204, t205, t206, t207, t208, bt212.2.1, bt212.2.2)))))))) = some (r1, r2, r3, r4, r5, r6, r7) := H
 have A2 := am A20
 clear A20
 replace H := ob H
 obtain ⟨⟨t212, t213, t214⟩, A30, H⟩ := H
 replace H : (if t212 = 0 then ((spec_l2Any.f k s0_0 t213 t214).bind fun bt215 => (some (bt215.1, bt215.2.1, t206, t207, t208, bt215.2.2.1, bt215.2.2.2))) else (if t212 = 1 then ((spec_l1Odd.f s0_0 t213 t214).bind fun bt219 => (some (t204, t205, bt219.1, t207, t208, bt219.2.1, bt219.2.2))) else (if t212 = 2 then ((spec_l1Int.f s0_0 t213 t214 (([(-1), 17, 16, 1000, 9223372036854775807] : List Int))).bind fun bt225 => (some (t204, t205, t206, bt225.1, t208, bt225.2.1, bt225.2.2))) else (if t212 = 3 then ((spec_l1Int.f s0_0 t213 t214 (([0, (-1), 33, 32, 9223372036854775807, (-9223372036854775808)] : List Int))).bind fun bt231 => (some (t204, t205, t206, t207, bt231.1, bt231.2.1, bt231.2.2))) else (if t212 = 4 then ((spec_l1Int.f s0_0 t213 t214 (([1024, 1025, (-1024), (-1025)] : List Int))).bind fun bt237 => ((spec_l1Int.f s0_0 bt237.2.1 bt237.2.2 (([0, 1024, (-1025)] : List Int))).bind fun bt243 => (some (bt237.1, bt243.1, t206, t207, t208, bt243.2.1, bt243.2.2)))) else (some (t204, t205, t206, t207, t208, t213, t214))))))) = some (r1, r2, r3, r4, r5, r6, r7) := H
 have A3 := am A30
 clear A30
 by_cases c4 : t212 = 0
 ·rw [if_pos c4] at H
  have c4b0 : (t212 == 0) = true := beq_iff_eq.mpr c4
  have c4b1 : (t212 != 0) = false := bne_eq_false_iff_eq.mpr c4
  clear c4
  replace H := ob H
  obtain ⟨⟨t215, t216, t217, t218⟩, A50, H⟩ := H
  replace H : (some (t215, t216, t206, t207, t208, t217, t218)) = some (r1, r2, r3, r4, r5, r6, r7) := H
  have A5 := am A50
  clear A50
  simp only [Option.some.injEq, Prod.mk.injEq] at H
  obtain ⟨rfl, rfl, rfl, rfl, rfl, rfl, rfl⟩ := H
  go_enter Tryd.func86, Tryd.ntmps86
  go_wp2_with (first | ((with_reducible refine gate_dst (N := 2) rfl ?_); refine box_event ?hg (N := 2) ?hd (cs := #[.int .i64 0, .int .i64 0, .int .i64 0, .int .i64 0, .int .i64 0]) (t := 79) ?hr ?_; (case hd => rfl); (case hg => rfl); (case hr => exact gq); intro gb203 hg w6 hbox hb; have n0_ := am (IsS88.below u3_12 hb); have n1_ := am (KeepBut.trans u3_6 (KeepBut.of_below hb g none) (.inl rfl)); have n2_ := am (below_step u3_11 hb); have n3_ := am (hbox); have n4_ := am ((by rw [hg]; exact (keep_size (w := w) (g := g) (row := none) u3_6) : w.heap.size ≤ gb203)); have n5_ := am ((Nat.le_trans HW0.out (by rw [hg]; exact (keep_size (w := w) (g := g) (row := none) u3_6) : w.heap.size ≤ gb203) : w0.heap.size ≤ gb203)); have n6_ := am ((by rw [hg]; exact Nat.ne_of_lt (IsS88.lt (show IsS88 w0 _ g s0_0 s0_1 s0_2 from by repeat (first | (with_reducible first | exact HI0.out | apply IsS88.alloc | apply IsS88.drewN | apply IsS88.drew | apply IsS88.set_1 | apply IsS88.set_2) | exact HI0.out))) : g ≠ gb203)); have n7_ := am ((by rw [hg]; exact Nat.ne_of_gt (IsS88.lt (show IsS88 w0 _ g s0_0 s0_1 s0_2 from by repeat (first | (with_reducible first | exact HI0.out | apply IsS88.alloc | apply IsS88.drewN | apply IsS88.drew | apply IsS88.set_1 | apply IsS88.set_2) | exact HI0.out))) : gb203 ≠ g)); clear HI0 HK HB; have HI0 := n0_; have HK := n1_; have HB := n2_; have BK203 := n3_; have GW203 := n4_; have GE203 := n5_; have NB0_203 := n6_; have NB203_0 := n7_; clear n0_ n1_ n2_ n3_ n4_ n5_ n6_ n7_ hb hbox hg) | ((with_reducible refine gate_callee (f := 99) rfl ?_); refine goesL_ (some 5) rfl rfl Tryd.func99 (by kernel_rfl) rfl #[.pointer (some ⟨g, 0, none⟩)] rfl u3_5 ?_; (with_reducible refine (spec_l3Draw.calls g s0_0 s0_1 s0_2 t204 t205 t206 t207 t208 t209 t210 w0 _ ?side1 ?side2 A2.out).mono ?_); (case side1 => exact s3_9); (case side2 => exact s3_11); rintro e w7 ⟨rfl, hi, hb, hk⟩; refine ⟨_, rfl, ?_⟩; have n0_ := am (KeepBut.blk hk (g' := gb203) (o := zo2 0 0 0 0 0) u3_3 NB203_0.out u3_22); have n1_ := am (KeepBut.trans u3_0 hk (.inl rfl)); have n2_ := am (hb); have n3_ := am (hi); clear BK203 HK HB HI0; have BK203 := n0_; have HK := n1_; have HB := n2_; have HI0 := n3_; clear n0_ n1_ n2_ n3_; (try clear hb); (try clear hb2); (try clear hk); (try clear hi)) | ((with_reducible refine gate_dst (N := 3) rfl ?_); refine box_event ?hg (N := 3) ?hd (cs := #[.int .i64 0, .int .i64 0, .int .i64 0, .int .i64 0, .int .i64 0]) (t := 79) ?hr ?_; (case hd => rfl); (case hg => rfl); (case hr => exact gq); intro gb211 hg w8 hbox hb; have n0_ := am (IsS88.below u3_14 hb); have n1_ := am (blk_below (g := gb203) (o := zo2 0 0 0 0 0) u3_3 hb); have n2_ := am (KeepBut.trans u3_0 (KeepBut.of_below hb g none) (.inl rfl)); have n3_ := am (below_step u3_15 hb); have n4_ := am (hbox); have n5_ := am ((by rw [hg]; exact (keep_size (w := w) (g := g) (row := none) u3_0) : w.heap.size ≤ gb211)); have n6_ := am ((Nat.le_trans HW0.out (by rw [hg]; exact (keep_size (w := w) (g := g) (row := none) u3_0) : w.heap.size ≤ gb211) : w0.heap.size ≤ gb211)); have n7_ := am ((by rw [hg]; exact Nat.ne_of_lt (blk_lt (g := gb203) (o := zo2 0 0 0 0 0) u3_3) : gb203 ≠ gb211)); have n8_ := am ((by rw [hg]; exact Nat.ne_of_gt (blk_lt (g := gb203) (o := zo2 0 0 0 0 0) u3_3) : gb211 ≠ gb203)); have n9_ := am ((by rw [hg]; exact Nat.ne_of_lt (IsS88.lt (show IsS88 w0 _ g s0_0 t209 t210 from by repeat (first | (with_reducible first | exact HI0.out | apply IsS88.alloc | apply IsS88.drewN | apply IsS88.drew | apply IsS88.set_1 | apply IsS88.set_2 | refine IsS88.far ?_ NB0_203.out _) | exact HI0.out))) : g ≠ gb211)); have n10_ := am ((by rw [hg]; exact Nat.ne_of_gt (IsS88.lt (show IsS88 w0 _ g s0_0 t209 t210 from by repeat (first | (with_reducible first | exact HI0.out | apply IsS88.alloc | apply IsS88.drewN | apply IsS88.drew | apply IsS88.set_1 | apply IsS88.set_2 | refine IsS88.far ?_ NB0_203.out _) | exact HI0.out))) : gb211 ≠ g)); clear HI0 BK203 HK HB; have HI0 := n0_; have BK203 := n1_; have HK := n2_; have HB := n3_; have BK211 := n4_; have GW211 := n5_; have GE211 := n6_; have NB203_211 := n7_; have NB211_203 := n8_; have NB0_211 := n9_; have NB211_0 := n10_; clear n0_ n1_ n2_ n3_ n4_ n5_ n6_ n7_ n8_ n9_ n10_ hb hbox hg; have hnb9 := NB211_203.out; have hnc9 := NB203_211.out; have hnb10 := NB211_0.out; have hnc10 := NB0_211.out; obtain ⟨hcz11_0, hcz11_1, hcz11_2, hcz11_3, hcz11_4, hfz11_0, hfz11_1, hfz11_2, hfz11_3, hfz11_4⟩ := cf5 BK211.out) | ((with_reducible refine gate_callee (f := 46) rfl ?_); refine goesL_ (some 7) rfl rfl Tryd.func46 (by kernel_rfl) rfl #[.pointer (some ⟨g, 0, none⟩), .int .i64 12] rfl u3_5 ?_; (with_reducible refine (spec_l1Below.calls g s0_0 t209 t210 12 t212 t213 t214 w0 _ ?side1 ?side2 A3.out).mono ?_); (case side1 => exact s3_1); (case side2 => exact s3_4); rintro e w12 ⟨rfl, hi, hb, hk⟩; refine ⟨_, rfl, ?_⟩; have n0_ := am (KeepBut.blk hk (g' := gb203) (o := zo2 0 0 0 0 0) u3_2 NB203_0.out u3_22); have n1_ := am (KeepBut.blk hk (g' := gb211) (o := zo2 t204 t205 t206 t207 t208) u3_4 NB211_0.out u3_22); have n2_ := am (KeepBut.trans u3_1 hk (.inl rfl)); have n3_ := am (hb); have n4_ := am (hi); clear BK203 BK211 HK HB HI0; have BK203 := n0_; have BK211 := n1_; have HK := n2_; have HB := n3_; have HI0 := n4_; clear n0_ n1_ n2_ n3_ n4_; (try clear hb); (try clear hb2); (try clear hk); (try clear hi)) | ((with_reducible refine gate_callee (f := 85) rfl ?_); refine goesL_ (some 11) rfl rfl Tryd.func85 (by kernel_rfl) rfl #[.pointer (some ⟨g, 0, none⟩)] rfl u3_5 ?_; (with_reducible refine (spec_l2Any.calls k g s0_0 t213 t214 t215 t216 t217 t218 w0 _ ?side1 ?side2 A5.out).mono ?_); (case side1 => exact s3_1); (case side2 => exact s3_4); rintro e w13 ⟨rfl, hi, hb, hk⟩; refine ⟨_, rfl, ?_⟩; have n0_ := am (KeepBut.blk hk (g' := gb203) (o := zo2 0 0 0 0 0) u3_3 NB203_0.out u3_22); have n1_ := am (KeepBut.blk hk (g' := gb211) (o := zo2 t204 t205 t206 t207 t208) u3_13 NB211_0.out u3_22); have n2_ := am (KeepBut.trans u3_1 hk (.inl rfl)); have n3_ := am (hb); have n4_ := am (hi); clear BK203 BK211 HK HB HI0; have BK203 := n0_; have BK211 := n1_; have HK := n2_; have HB := n3_; have HI0 := n4_; clear n0_ n1_ n2_ n3_ n4_; (try clear hb); (try clear hb2); (try clear hk); (try clear hi); obtain ⟨hcz14_0, hcz14_1, hcz14_2, hcz14_3, hcz14_4, hfz14_0, hfz14_1, hfz14_2, hfz14_3, hfz14_4⟩ := cf5 BK211.out; have hnb15 := NB203_0.out; have hnc15 := NB0_203.out; obtain ⟨hcz16_0, hcz16_1, hcz16_2, hcz16_3, hcz16_4, hfz16_0, hfz16_1, hfz16_2, hfz16_3, hfz16_4⟩ := cf5 BK203.out))
  refine bodyPost_ret (results_cell_row rfl _ _ gb203 79 #[.int .i64 t215, .int .i64 t216, .int .i64 t206, .int .i64 t207, .int .i64 t208] (0, 0) _ rfl (by (with_reducible repeat (first | refine bN ?_ _ | refine bD ?_ | refine bA ?_ _)); refine blk_put (cs := zr5 t215 t216 t206 t207 0) ?_ 4 _ rfl; refine blk_put (cs := zr5 t215 t216 t206 0 0) ?_ 3 _ rfl; refine blk_put (cs := zr5 t215 t216 0 0 0) ?_ 2 _ rfl; refine blk_put (cs := zr5 t215 0 0 0 0) ?_ 1 _ rfl; refine blk_put (cs := zr5 0 0 0 0 0) ?_ 0 _ rfl; (with_reducible repeat (first | refine bN ?_ _ | refine bD ?_ | refine bA ?_ _)); refine blk_far ?_ NB203_211.out _; (with_reducible repeat (first | refine bN ?_ _ | refine bD ?_ | refine bA ?_ _)); refine blk_far ?_ NB203_211.out _; exact bd BK203.out) Tryd.underlying79 rfl (by kernel_rfl)) rfl ?_
  exact ⟨by first | rfl | (simp [*] <;> rfl), s3_1, s3_4, s3_7⟩
 ·rw [if_neg c4] at H
  have c4b0 : (t212 == 0) = false := beq_eq_false_iff_ne.mpr c4
  have c4b1 : (t212 != 0) = true := bne_iff_ne.mpr c4
  by_cases c17 : t212 = 1
  ·rw [if_pos c17] at H
   have c17b0 : (t212 == 1) = true := beq_iff_eq.mpr c17
   have c17b1 : (t212 != 1) = false := bne_eq_false_iff_eq.mpr c17
   clear c17
   replace H := ob H
   obtain ⟨⟨t219, t220, t221⟩, A180, H⟩ := H
   replace H : (some (t204, t205, t219, t207, t208, t220, t221)) = some (r1, r2, r3, r4, r5, r6, r7) := H
   have A18 := am A180
   clear A180
   simp only [Option.some.injEq, Prod.mk.injEq] at H
   obtain ⟨rfl, rfl, rfl, rfl, rfl, rfl, rfl⟩ := H
   go_enter Tryd.func86, Tryd.ntmps86
   go_wp2_with (first | ((with_reducible refine gate_dst (N := 2) rfl ?_); refine box_event ?hg (N := 2) ?hd (cs := #[.int .i64 0, .int .i64 0, .int .i64 0, .int .i64 0, .int .i64 0]) (t := 79) ?hr ?_; (case hd => rfl); (case hg => rfl); (case hr => exact gq); intro gb203 hg w19 hbox hb; have n0_ := am (IsS88.below u3_12 hb); have n1_ := am (KeepBut.trans u3_6 (KeepBut.of_below hb g none) (.inl rfl)); have n2_ := am (below_step u3_11 hb); have n3_ := am (hbox); have n4_ := am ((by rw [hg]; exact (keep_size (w := w) (g := g) (row := none) u3_6) : w.heap.size ≤ gb203)); have n5_ := am ((Nat.le_trans HW0.out (by rw [hg]; exact (keep_size (w := w) (g := g) (row := none) u3_6) : w.heap.size ≤ gb203) : w0.heap.size ≤ gb203)); have n6_ := am ((by rw [hg]; exact Nat.ne_of_lt (IsS88.lt (show IsS88 w0 _ g s0_0 s0_1 s0_2 from by repeat (first | (with_reducible first | exact HI0.out | apply IsS88.alloc | apply IsS88.drewN | apply IsS88.drew | apply IsS88.set_1 | apply IsS88.set_2) | exact HI0.out))) : g ≠ gb203)); have n7_ := am ((by rw [hg]; exact Nat.ne_of_gt (IsS88.lt (show IsS88 w0 _ g s0_0 s0_1 s0_2 from by repeat (first | (with_reducible first | exact HI0.out | apply IsS88.alloc | apply IsS88.drewN | apply IsS88.drew | apply IsS88.set_1 | apply IsS88.set_2) | exact HI0.out))) : gb203 ≠ g)); clear HI0 HK HB; have HI0 := n0_; have HK := n1_; have HB := n2_; have BK203 := n3_; have GW203 := n4_; have GE203 := n5_; have NB0_203 := n6_; have NB203_0 := n7_; clear n0_ n1_ n2_ n3_ n4_ n5_ n6_ n7_ hb hbox hg) | ((with_reducible refine gate_callee (f := 99) rfl ?_); refine goesL_ (some 5) rfl rfl Tryd.func99 (by kernel_rfl) rfl #[.pointer (some ⟨g, 0, none⟩)] rfl u3_5 ?_; (with_reducible refine (spec_l3Draw.calls g s0_0 s0_1 s0_2 t204 t205 t206 t207 t208 t209 t210 w0 _ ?side1 ?side2 A2.out).mono ?_); (case side1 => exact s3_9); (case side2 => exact s3_11); rintro e w20 ⟨rfl, hi, hb, hk⟩; refine ⟨_, rfl, ?_⟩; have n0_ := am (KeepBut.blk hk (g' := gb203) (o := zo2 0 0 0 0 0) u3_3 NB203_0.out u3_22); have n1_ := am (KeepBut.trans u3_0 hk (.inl rfl)); have n2_ := am (hb); have n3_ := am (hi); clear BK203 HK HB HI0; have BK203 := n0_; have HK := n1_; have HB := n2_; have HI0 := n3_; clear n0_ n1_ n2_ n3_; (try clear hb); (try clear hb2); (try clear hk); (try clear hi)) | ((with_reducible refine gate_dst (N := 3) rfl ?_); refine box_event ?hg (N := 3) ?hd (cs := #[.int .i64 0, .int .i64 0, .int .i64 0, .int .i64 0, .int .i64 0]) (t := 79) ?hr ?_; (case hd => rfl); (case hg => rfl); (case hr => exact gq); intro gb211 hg w21 hbox hb; have n0_ := am (IsS88.below u3_14 hb); have n1_ := am (blk_below (g := gb203) (o := zo2 0 0 0 0 0) u3_3 hb); have n2_ := am (KeepBut.trans u3_0 (KeepBut.of_below hb g none) (.inl rfl)); have n3_ := am (below_step u3_15 hb); have n4_ := am (hbox); have n5_ := am ((by rw [hg]; exact (keep_size (w := w) (g := g) (row := none) u3_0) : w.heap.size ≤ gb211)); have n6_ := am ((Nat.le_trans HW0.out (by rw [hg]; exact (keep_size (w := w) (g := g) (row := none) u3_0) : w.heap.size ≤ gb211) : w0.heap.size ≤ gb211)); have n7_ := am ((by rw [hg]; exact Nat.ne_of_lt (blk_lt (g := gb203) (o := zo2 0 0 0 0 0) u3_3) : gb203 ≠ gb211)); have n8_ := am ((by rw [hg]; exact Nat.ne_of_gt (blk_lt (g := gb203) (o := zo2 0 0 0 0 0) u3_3) : gb211 ≠ gb203)); have n9_ := am ((by rw [hg]; exact Nat.ne_of_lt (IsS88.lt (show IsS88 w0 _ g s0_0 t209 t210 from by repeat (first | (with_reducible first | exact HI0.out | apply IsS88.alloc | apply IsS88.drewN | apply IsS88.drew | apply IsS88.set_1 | apply IsS88.set_2 | refine IsS88.far ?_ NB0_203.out _) | exact HI0.out))) : g ≠ gb211)); have n10_ := am ((by rw [hg]; exact Nat.ne_of_gt (IsS88.lt (show IsS88 w0 _ g s0_0 t209 t210 from by repeat (first | (with_reducible first | exact HI0.out | apply IsS88.alloc | apply IsS88.drewN | apply IsS88.drew | apply IsS88.set_1 | apply IsS88.set_2 | refine IsS88.far ?_ NB0_203.out _) | exact HI0.out))) : gb211 ≠ g)); clear HI0 BK203 HK HB; have HI0 := n0_; have BK203 := n1_; have HK := n2_; have HB := n3_; have BK211 := n4_; have GW211 := n5_; have GE211 := n6_; have NB203_211 := n7_; have NB211_203 := n8_; have NB0_211 := n9_; have NB211_0 := n10_; clear n0_ n1_ n2_ n3_ n4_ n5_ n6_ n7_ n8_ n9_ n10_ hb hbox hg; have hnb22 := NB211_203.out; have hnc22 := NB203_211.out; have hnb23 := NB211_0.out; have hnc23 := NB0_211.out; obtain ⟨hcz24_0, hcz24_1, hcz24_2, hcz24_3, hcz24_4, hfz24_0, hfz24_1, hfz24_2, hfz24_3, hfz24_4⟩ := cf5 BK211.out) | ((with_reducible refine gate_callee (f := 46) rfl ?_); refine goesL_ (some 7) rfl rfl Tryd.func46 (by kernel_rfl) rfl #[.pointer (some ⟨g, 0, none⟩), .int .i64 12] rfl u3_5 ?_; (with_reducible refine (spec_l1Below.calls g s0_0 t209 t210 12 t212 t213 t214 w0 _ ?side1 ?side2 A3.out).mono ?_); (case side1 => exact s3_1); (case side2 => exact s3_4); rintro e w25 ⟨rfl, hi, hb, hk⟩; refine ⟨_, rfl, ?_⟩; have n0_ := am (KeepBut.blk hk (g' := gb203) (o := zo2 0 0 0 0 0) u3_2 NB203_0.out u3_22); have n1_ := am (KeepBut.blk hk (g' := gb211) (o := zo2 t204 t205 t206 t207 t208) u3_4 NB211_0.out u3_22); have n2_ := am (KeepBut.trans u3_1 hk (.inl rfl)); have n3_ := am (hb); have n4_ := am (hi); clear BK203 BK211 HK HB HI0; have BK203 := n0_; have BK211 := n1_; have HK := n2_; have HB := n3_; have HI0 := n4_; clear n0_ n1_ n2_ n3_ n4_; (try clear hb); (try clear hb2); (try clear hk); (try clear hi)) | ((with_reducible refine gate_callee (f := 70) rfl ?_); refine goesL_ (some 16) rfl rfl Tryd.func70 (by kernel_rfl) rfl #[.pointer (some ⟨g, 0, none⟩)] rfl u3_5 ?_; (with_reducible refine (spec_l1Odd.calls g s0_0 t213 t214 t219 t220 t221 w0 _ ?side1 ?side2 A18.out).mono ?_); (case side1 => exact s3_1); (case side2 => exact s3_4); rintro e w26 ⟨rfl, hi, hb, hk⟩; refine ⟨_, rfl, ?_⟩; have n0_ := am (KeepBut.blk hk (g' := gb203) (o := zo2 0 0 0 0 0) u3_3 NB203_0.out u3_22); have n1_ := am (KeepBut.blk hk (g' := gb211) (o := zo2 t204 t205 t206 t207 t208) u3_13 NB211_0.out u3_22); have n2_ := am (KeepBut.trans u3_1 hk (.inl rfl)); have n3_ := am (hb); have n4_ := am (hi); clear BK203 BK211 HK HB HI0; have BK203 := n0_; have BK211 := n1_; have HK := n2_; have HB := n3_; have HI0 := n4_; clear n0_ n1_ n2_ n3_ n4_; (try clear hb); (try clear hb2); (try clear hk); (try clear hi); obtain ⟨hcz27_0, hcz27_1, hcz27_2, hcz27_3, hcz27_4, hfz27_0, hfz27_1, hfz27_2, hfz27_3, hfz27_4⟩ := cf5 BK211.out; have hnb28 := NB203_0.out; have hnc28 := NB0_203.out; obtain ⟨hcz29_0, hcz29_1, hcz29_2, hcz29_3, hcz29_4, hfz29_0, hfz29_1, hfz29_2, hfz29_3, hfz29_4⟩ := cf5 BK203.out))
   refine bodyPost_ret (results_cell_row rfl _ _ gb203 79 #[.int .i64 t204, .int .i64 t205, .int .i64 t219, .int .i64 t207, .int .i64 t208] (0, 0) _ rfl (by (with_reducible repeat (first | refine bN ?_ _ | refine bD ?_ | refine bA ?_ _)); refine blk_put (cs := zr5 t204 t205 t219 t207 0) ?_ 4 _ rfl; refine blk_put (cs := zr5 t204 t205 t219 0 0) ?_ 3 _ rfl; refine blk_put (cs := zr5 t204 t205 0 0 0) ?_ 2 _ rfl; refine blk_put (cs := zr5 t204 0 0 0 0) ?_ 1 _ rfl; refine blk_put (cs := zr5 0 0 0 0 0) ?_ 0 _ rfl; (with_reducible repeat (first | refine bN ?_ _ | refine bD ?_ | refine bA ?_ _)); refine blk_far ?_ NB203_211.out _; exact bd BK203.out) Tryd.underlying79 rfl (by kernel_rfl)) rfl ?_
   exact ⟨by first | rfl | (simp [*] <;> rfl), s3_1, s3_4, s3_7⟩
  ·rw [if_neg c17] at H
   have c17b0 : (t212 == 1) = false := beq_eq_false_iff_ne.mpr c17
   have c17b1 : (t212 != 1) = true := bne_iff_ne.mpr c17
   by_cases c30 : t212 = 2
   ·rw [if_pos c30] at H
    have c30b0 : (t212 == 2) = true := beq_iff_eq.mpr c30
    have c30b1 : (t212 != 2) = false := bne_eq_false_iff_eq.mpr c30
    clear c30
    obtain ⟨y222, hy222⟩ : ∃ y_ : List Int, y_ = (([(-1), 17, 16, 1000, 9223372036854775807] : List Int)) := ⟨_, rfl⟩
    replace H : ((spec_l1Int.f s0_0 t213 t214 y222).bind fun bt225 => (some (t204, t205, t206, bt225.1, t208, bt225.2.1, bt225.2.2))) = some (r1, r2, r3, r4, r5, r6, r7) := by first | (rw [hy222]; with_reducible exact H) | (have H2_ := (Option.bind_some _ _).symm.trans H; rw [hy222]; with_reducible exact H2_) | (have H2_ := (Option.bind_some _ _).symm.trans H; with_reducible exact H2_) | with_reducible exact H | (rw [hy222]; exact H) | exact H
    have Ny222 := am hy222
    clear hy222
    replace H := ob H
    obtain ⟨⟨t225, t226, t227⟩, A310, H⟩ := H
    replace H : (some (t204, t205, t206, t225, t208, t226, t227)) = some (r1, r2, r3, r4, r5, r6, r7) := H
    have A31 := am A310
    clear A310
    simp only [Option.some.injEq, Prod.mk.injEq] at H
    obtain ⟨rfl, rfl, rfl, rfl, rfl, rfl, rfl⟩ := H
    go_enter Tryd.func86, Tryd.ntmps86
    go_wp2_with (first | ((with_reducible refine gate_dst (N := 2) rfl ?_); refine box_event ?hg (N := 2) ?hd (cs := #[.int .i64 0, .int .i64 0, .int .i64 0, .int .i64 0, .int .i64 0]) (t := 79) ?hr ?_; (case hd => rfl); (case hg => rfl); (case hr => exact gq); intro gb203 hg w32 hbox hb; have n0_ := am (IsS88.below u3_12 hb); have n1_ := am (KeepBut.trans u3_6 (KeepBut.of_below hb g none) (.inl rfl)); have n2_ := am (below_step u3_11 hb); have n3_ := am (hbox); have n4_ := am ((by rw [hg]; exact (keep_size (w := w) (g := g) (row := none) u3_6) : w.heap.size ≤ gb203)); have n5_ := am ((Nat.le_trans HW0.out (by rw [hg]; exact (keep_size (w := w) (g := g) (row := none) u3_6) : w.heap.size ≤ gb203) : w0.heap.size ≤ gb203)); have n6_ := am ((by rw [hg]; exact Nat.ne_of_lt (IsS88.lt (show IsS88 w0 _ g s0_0 s0_1 s0_2 from by repeat (first | (with_reducible first | exact HI0.out | apply IsS88.alloc | apply IsS88.drewN | apply IsS88.drew | apply IsS88.set_1 | apply IsS88.set_2) | exact HI0.out))) : g ≠ gb203)); have n7_ := am ((by rw [hg]; exact Nat.ne_of_gt (IsS88.lt (show IsS88 w0 _ g s0_0 s0_1 s0_2 from by repeat (first | (with_reducible first | exact HI0.out | apply IsS88.alloc | apply IsS88.drewN | apply IsS88.drew | apply IsS88.set_1 | apply IsS88.set_2) | exact HI0.out))) : gb203 ≠ g)); clear HI0 HK HB; have HI0 := n0_; have HK := n1_; have HB := n2_; have BK203 := n3_; have GW203 := n4_; have GE203 := n5_; have NB0_203 := n6_; have NB203_0 := n7_; clear n0_ n1_ n2_ n3_ n4_ n5_ n6_ n7_ hb hbox hg) | ((with_reducible refine gate_callee (f := 99) rfl ?_); refine goesL_ (some 5) rfl rfl Tryd.func99 (by kernel_rfl) rfl #[.pointer (some ⟨g, 0, none⟩)] rfl u3_5 ?_; (with_reducible refine (spec_l3Draw.calls g s0_0 s0_1 s0_2 t204 t205 t206 t207 t208 t209 t210 w0 _ ?side1 ?side2 A2.out).mono ?_); (case side1 => exact s3_9); (case side2 => exact s3_11); rintro e w33 ⟨rfl, hi, hb, hk⟩; refine ⟨_, rfl, ?_⟩; have n0_ := am (KeepBut.blk hk (g' := gb203) (o := zo2 0 0 0 0 0) u3_3 NB203_0.out u3_22); have n1_ := am (KeepBut.trans u3_0 hk (.inl rfl)); have n2_ := am (hb); have n3_ := am (hi); clear BK203 HK HB HI0; have BK203 := n0_; have HK := n1_; have HB := n2_; have HI0 := n3_; clear n0_ n1_ n2_ n3_; (try clear hb); (try clear hb2); (try clear hk); (try clear hi)) | ((with_reducible refine gate_dst (N := 3) rfl ?_); refine box_event ?hg (N := 3) ?hd (cs := #[.int .i64 0, .int .i64 0, .int .i64 0, .int .i64 0, .int .i64 0]) (t := 79) ?hr ?_; (case hd => rfl); (case hg => rfl); (case hr => exact gq); intro gb211 hg w34 hbox hb; have n0_ := am (IsS88.below u3_14 hb); have n1_ := am (blk_below (g := gb203) (o := zo2 0 0 0 0 0) u3_3 hb); have n2_ := am (KeepBut.trans u3_0 (KeepBut.of_below hb g none) (.inl rfl)); have n3_ := am (below_step u3_15 hb); have n4_ := am (hbox); have n5_ := am ((by rw [hg]; exact (keep_size (w := w) (g := g) (row := none) u3_0) : w.heap.size ≤ gb211)); have n6_ := am ((Nat.le_trans HW0.out (by rw [hg]; exact (keep_size (w := w) (g := g) (row := none) u3_0) : w.heap.size ≤ gb211) : w0.heap.size ≤ gb211)); have n7_ := am ((by rw [hg]; exact Nat.ne_of_lt (blk_lt (g := gb203) (o := zo2 0 0 0 0 0) u3_3) : gb203 ≠ gb211)); have n8_ := am ((by rw [hg]; exact Nat.ne_of_gt (blk_lt (g := gb203) (o := zo2 0 0 0 0 0) u3_3) : gb211 ≠ gb203)); have n9_ := am ((by rw [hg]; exact Nat.ne_of_lt (IsS88.lt (show IsS88 w0 _ g s0_0 t209 t210 from by repeat (first | (with_reducible first | exact HI0.out | apply IsS88.alloc | apply IsS88.drewN | apply IsS88.drew | apply IsS88.set_1 | apply IsS88.set_2 | refine IsS88.far ?_ NB0_203.out _) | exact HI0.out))) : g ≠ gb211)); have n10_ := am ((by rw [hg]; exact Nat.ne_of_gt (IsS88.lt (show IsS88 w0 _ g s0_0 t209 t210 from by repeat (first | (with_reducible first | exact HI0.out | apply IsS88.alloc | apply IsS88.drewN | apply IsS88.drew | apply IsS88.set_1 | apply IsS88.set_2 | refine IsS88.far ?_ NB0_203.out _) | exact HI0.out))) : gb211 ≠ g)); clear HI0 BK203 HK HB; have HI0 := n0_; have BK203 := n1_; have HK := n2_; have HB := n3_; have BK211 := n4_; have GW211 := n5_; have GE211 := n6_; have NB203_211 := n7_; have NB211_203 := n8_; have NB0_211 := n9_; have NB211_0 := n10_; clear n0_ n1_ n2_ n3_ n4_ n5_ n6_ n7_ n8_ n9_ n10_ hb hbox hg; have hnb35 := NB211_203.out; have hnc35 := NB203_211.out; have hnb36 := NB211_0.out; have hnc36 := NB0_211.out; obtain ⟨hcz37_0, hcz37_1, hcz37_2, hcz37_3, hcz37_4, hfz37_0, hfz37_1, hfz37_2, hfz37_3, hfz37_4⟩ := cf5 BK211.out) | ((with_reducible refine gate_callee (f := 46) rfl ?_); refine goesL_ (some 7) rfl rfl Tryd.func46 (by kernel_rfl) rfl #[.pointer (some ⟨g, 0, none⟩), .int .i64 12] rfl u3_5 ?_; (with_reducible refine (spec_l1Below.calls g s0_0 t209 t210 12 t212 t213 t214 w0 _ ?side1 ?side2 A3.out).mono ?_); (case side1 => exact s3_1); (case side2 => exact s3_4); rintro e w38 ⟨rfl, hi, hb, hk⟩; refine ⟨_, rfl, ?_⟩; have n0_ := am (KeepBut.blk hk (g' := gb203) (o := zo2 0 0 0 0 0) u3_2 NB203_0.out u3_22); have n1_ := am (KeepBut.blk hk (g' := gb211) (o := zo2 t204 t205 t206 t207 t208) u3_4 NB211_0.out u3_22); have n2_ := am (KeepBut.trans u3_1 hk (.inl rfl)); have n3_ := am (hb); have n4_ := am (hi); clear BK203 BK211 HK HB HI0; have BK203 := n0_; have BK211 := n1_; have HK := n2_; have HB := n3_; have HI0 := n4_; clear n0_ n1_ n2_ n3_ n4_; (try clear hb); (try clear hb2); (try clear hk); (try clear hi)) | ((with_reducible refine gate_dst (N := 21) rfl ?_); refine Kd.R_lit (Kd.int .i64) _ 3 ?hg (N := 21) ?hd (xs := ([(-1), 17, 16, 1000, 9223372036854775807] : List Int)) (inner := [.int .i64 (-1), .int .i64 17, .int .i64 16, .int .i64 1000, .int .i64 9223372036854775807]) (ok := fun _ => True) (okp := fun _ => True) ?hr ?hp (fun _ hk => hk) trivial (Below.refl _ _) (Nat.le_refl _) u3_22 ?_; (case hd => rfl); (case hg => rfl); (case hr => exact gq); (case hp => exact (Reps.one (show Kd.M (Kd.int .i64) _ _ _ (-1) [.int .i64 (-1)] from rfl) (Reps.one (show Kd.M (Kd.int .i64) _ _ _ 17 [.int .i64 17] from rfl) (Reps.one (show Kd.M (Kd.int .i64) _ _ _ 16 [.int .i64 16] from rfl) (Reps.one (show Kd.M (Kd.int .i64) _ _ _ 1000 [.int .i64 1000] from rfl) (Reps.one (show Kd.M (Kd.int .i64) _ _ _ 9223372036854775807 [.int .i64 9223372036854775807] from rfl) (Reps.none _ _))))))); intro v223 w39 ho40 hb hg_ hnew_; clear hg_ hnew_; (first | rw [← Ny222.out] at ho40 | (simp only [Int.reduceToNat] at ho40; rw [← Ny222.out] at ho40)); have n0_ := am (Kd.R_lower ho40 (keep_size (w := w) (g := g) (row := none) u3_1)); have n1_ := am (IsS88.below u3_18 hb); have n2_ := am (blk_below (g := gb203) (o := zo2 0 0 0 0 0) u3_3 hb); have n3_ := am (blk_below (g := gb211) (o := zo2 t204 t205 t206 t207 t208) u3_13 hb); have n4_ := am (KeepBut.trans u3_1 (KeepBut.of_below hb g none) (.inl rfl)); have n5_ := am (below_step u3_19 hb); clear HI0 BK203 BK211 HK HB; have HO224 := n0_; have HI0 := n1_; have BK203 := n2_; have BK211 := n3_; have HK := n4_; have HB := n5_; clear n0_ n1_ n2_ n3_ n4_ n5_ hb ho40; obtain ⟨Ao41, co41, eo41⟩ := Kd.R_slice HO224.out; subst eo41) | ((with_reducible refine gate_callee (f := 72) rfl ?_); refine goesL_ (some 22) rfl rfl Tryd.func72 (by kernel_rfl) rfl #[.pointer (some ⟨g, 0, none⟩), .slice Ao41 y222.length co41] rfl u3_5 ?_; (with_reducible refine (spec_l1Int.calls g s0_0 t213 t214 _ _ y222 t225 t226 t227 w0 _ ?side1 ?side2 ?side3 ?side4 ?side5 A31.out).mono ?_); (case side1 => exact s3_1); (case side2 => exact s3_4); (case side3 => repeat (first | exact (Kd.R_reads' HO224.out).2.2 | (with_reducible refine Kd.C_alloc ?_ _) | (with_reducible refine Kd.C_drewN ?_ _) | (with_reducible refine Kd.C_drew ?_))); (case side4 => exact (Kd.R_reads' HO224.out).2.1); (case side5 => exact far_slice (IsS88.own_ne HI0.out HO224.out (by decide))); rintro e w42 ⟨rfl, hi, hb, hk⟩; refine ⟨_, rfl, ?_⟩; have n0_ := am (KeepBut.blk hk (g' := gb203) (o := zo2 0 0 0 0 0) u3_3 NB203_0.out u3_22); have n1_ := am (KeepBut.blk hk (g' := gb211) (o := zo2 t204 t205 t206 t207 t208) u3_13 NB211_0.out u3_22); have n2_ := am (Kd.R_mono (Kd.R_keep (IsS88.apart (show IsS88 w0 _ g s0_0 t213 t214 from by repeat (first | (with_reducible first | exact HI0.out | apply IsS88.alloc | apply IsS88.drewN | apply IsS88.drew | apply IsS88.set_1 | apply IsS88.set_2 | refine IsS88.far ?_ NB0_203.out _ | refine IsS88.far ?_ NB0_211.out _) | exact HI0.out)) (by (with_reducible repeat (first | apply Kd.R_alloc | apply Kd.R_drewN | apply Kd.R_drew)); exact HO224.out) (by decide)) hk (fun _ h => h.2)) (fun _ h => h.1)); have n3_ := am (KeepBut.trans u3_1 hk (.inl rfl)); have n4_ := am (hb); have n5_ := am (hi); clear BK203 BK211 HO224 HK HB HI0; have BK203 := n0_; have BK211 := n1_; have HO224 := n2_; have HK := n3_; have HB := n4_; have HI0 := n5_; clear n0_ n1_ n2_ n3_ n4_ n5_; (try clear hb); (try clear hb2); (try clear hk); (try clear hi); obtain ⟨hcz43_0, hcz43_1, hcz43_2, hcz43_3, hcz43_4, hfz43_0, hfz43_1, hfz43_2, hfz43_3, hfz43_4⟩ := cf5 BK211.out; have hnb44 := NB203_0.out; have hnc44 := NB0_203.out; obtain ⟨hcz45_0, hcz45_1, hcz45_2, hcz45_3, hcz45_4, hfz45_0, hfz45_1, hfz45_2, hfz45_3, hfz45_4⟩ := cf5 BK203.out))
    refine bodyPost_ret (results_cell_row rfl _ _ gb203 79 #[.int .i64 t204, .int .i64 t205, .int .i64 t206, .int .i64 t225, .int .i64 t208] (0, 0) _ rfl (by (with_reducible repeat (first | refine bN ?_ _ | refine bD ?_ | refine bA ?_ _)); refine blk_put (cs := zr5 t204 t205 t206 t225 0) ?_ 4 _ rfl; refine blk_put (cs := zr5 t204 t205 t206 0 0) ?_ 3 _ rfl; refine blk_put (cs := zr5 t204 t205 0 0 0) ?_ 2 _ rfl; refine blk_put (cs := zr5 t204 0 0 0 0) ?_ 1 _ rfl; refine blk_put (cs := zr5 0 0 0 0 0) ?_ 0 _ rfl; (with_reducible repeat (first | refine bN ?_ _ | refine bD ?_ | refine bA ?_ _)); refine blk_far ?_ NB203_211.out _; exact bd BK203.out) Tryd.underlying79 rfl (by kernel_rfl)) rfl ?_
    exact ⟨by first | rfl | (simp [*] <;> rfl), s3_1, s3_4, s3_7⟩
   ·rw [if_neg c30] at H
    have c30b0 : (t212 == 2) = false := beq_eq_false_iff_ne.mpr c30
    have c30b1 : (t212 != 2) = true := bne_iff_ne.mpr c30
    by_cases c46 : t212 = 3
    ·rw [if_pos c46] at H
     have c46b0 : (t212 == 3) = true := beq_iff_eq.mpr c46
     have c46b1 : (t212 != 3) = false := bne_eq_false_iff_eq.mpr c46
     clear c46
     obtain ⟨y228, hy228⟩ : ∃ y_ : List Int, y_ = (([0, (-1), 33, 32, 9223372036854775807, (-9223372036854775808)] : List Int)) := ⟨_, rfl⟩
     replace H : ((spec_l1Int.f s0_0 t213 t214 y228).bind fun bt231 => (some (t204, t205, t206, t207, bt231.1, bt231.2.1, bt231.2.2))) = some (r1, r2, r3, r4, r5, r6, r7) := by first | (rw [hy228]; with_reducible exact H) | (have H2_ := (Option.bind_some _ _).symm.trans H; rw [hy228]; with_reducible exact H2_) | (have H2_ := (Option.bind_some _ _).symm.trans H; with_reducible exact H2_) | with_reducible exact H | (rw [hy228]; exact H) | exact H
     have Ny228 := am hy228
     clear hy228
     replace H := ob H
     obtain ⟨⟨t231, t232, t233⟩, A470, H⟩ := H
     replace H : (some (t204, t205, t206, t207, t231, t232, t233)) = some (r1, r2, r3, r4, r5, r6, r7) := H
     have A47 := am A470
     clear A470
     simp only [Option.some.injEq, Prod.mk.injEq] at H
     obtain ⟨rfl, rfl, rfl, rfl, rfl, rfl, rfl⟩ := H
     go_enter Tryd.func86, Tryd.ntmps86
     go_wp2_with (first | ((with_reducible refine gate_dst (N := 2) rfl ?_); refine box_event ?hg (N := 2) ?hd (cs := #[.int .i64 0, .int .i64 0, .int .i64 0, .int .i64 0, .int .i64 0]) (t := 79) ?hr ?_; (case hd => rfl); (case hg => rfl); (case hr => exact gq); intro gb203 hg w48 hbox hb; have n0_ := am (IsS88.below u3_12 hb); have n1_ := am (KeepBut.trans u3_6 (KeepBut.of_below hb g none) (.inl rfl)); have n2_ := am (below_step u3_11 hb); have n3_ := am (hbox); have n4_ := am ((by rw [hg]; exact (keep_size (w := w) (g := g) (row := none) u3_6) : w.heap.size ≤ gb203)); have n5_ := am ((Nat.le_trans HW0.out (by rw [hg]; exact (keep_size (w := w) (g := g) (row := none) u3_6) : w.heap.size ≤ gb203) : w0.heap.size ≤ gb203)); have n6_ := am ((by rw [hg]; exact Nat.ne_of_lt (IsS88.lt (show IsS88 w0 _ g s0_0 s0_1 s0_2 from by repeat (first | (with_reducible first | exact HI0.out | apply IsS88.alloc | apply IsS88.drewN | apply IsS88.drew | apply IsS88.set_1 | apply IsS88.set_2) | exact HI0.out))) : g ≠ gb203)); have n7_ := am ((by rw [hg]; exact Nat.ne_of_gt (IsS88.lt (show IsS88 w0 _ g s0_0 s0_1 s0_2 from by repeat (first | (with_reducible first | exact HI0.out | apply IsS88.alloc | apply IsS88.drewN | apply IsS88.drew | apply IsS88.set_1 | apply IsS88.set_2) | exact HI0.out))) : gb203 ≠ g)); clear HI0 HK HB; have HI0 := n0_; have HK := n1_; have HB := n2_; have BK203 := n3_; have GW203 := n4_; have GE203 := n5_; have NB0_203 := n6_; have NB203_0 := n7_; clear n0_ n1_ n2_ n3_ n4_ n5_ n6_ n7_ hb hbox hg) | ((with_reducible refine gate_callee (f := 99) rfl ?_); refine goesL_ (some 5) rfl rfl Tryd.func99 (by kernel_rfl) rfl #[.pointer (some ⟨g, 0, none⟩)] rfl u3_5 ?_; (with_reducible refine (spec_l3Draw.calls g s0_0 s0_1 s0_2 t204 t205 t206 t207 t208 t209 t210 w0 _ ?side1 ?side2 A2.out).mono ?_); (case side1 => exact s3_9); (case side2 => exact s3_11); rintro e w49 ⟨rfl, hi, hb, hk⟩; refine ⟨_, rfl, ?_⟩; have n0_ := am (KeepBut.blk hk (g' := gb203) (o := zo2 0 0 0 0 0) u3_3 NB203_0.out u3_22); have n1_ := am (KeepBut.trans u3_0 hk (.inl rfl)); have n2_ := am (hb); have n3_ := am (hi); clear BK203 HK HB HI0; have BK203 := n0_; have HK := n1_; have HB := n2_; have HI0 := n3_; clear n0_ n1_ n2_ n3_; (try clear hb); (try clear hb2); (try clear hk); (try clear hi)) | ((with_reducible refine gate_dst (N := 3) rfl ?_); refine box_event ?hg (N := 3) ?hd (cs := #[.int .i64 0, .int .i64 0, .int .i64 0, .int .i64 0, .int .i64 0]) (t := 79) ?hr ?_; (case hd => rfl); (case hg => rfl); (case hr => exact gq); intro gb211 hg w50 hbox hb; have n0_ := am (IsS88.below u3_14 hb); have n1_ := am (blk_below (g := gb203) (o := zo2 0 0 0 0 0) u3_3 hb); have n2_ := am (KeepBut.trans u3_0 (KeepBut.of_below hb g none) (.inl rfl)); have n3_ := am (below_step u3_15 hb); have n4_ := am (hbox); have n5_ := am ((by rw [hg]; exact (keep_size (w := w) (g := g) (row := none) u3_0) : w.heap.size ≤ gb211)); have n6_ := am ((Nat.le_trans HW0.out (by rw [hg]; exact (keep_size (w := w) (g := g) (row := none) u3_0) : w.heap.size ≤ gb211) : w0.heap.size ≤ gb211)); have n7_ := am ((by rw [hg]; exact Nat.ne_of_lt (blk_lt (g := gb203) (o := zo2 0 0 0 0 0) u3_3) : gb203 ≠ gb211)); have n8_ := am ((by rw [hg]; exact Nat.ne_of_gt (blk_lt (g := gb203) (o := zo2 0 0 0 0 0) u3_3) : gb211 ≠ gb203)); have n9_ := am ((by rw [hg]; exact Nat.ne_of_lt (IsS88.lt (show IsS88 w0 _ g s0_0 t209 t210 from by repeat (first | (with_reducible first | exact HI0.out | apply IsS88.alloc | apply IsS88.drewN | apply IsS88.drew | apply IsS88.set_1 | apply IsS88.set_2 | refine IsS88.far ?_ NB0_203.out _) | exact HI0.out))) : g ≠ gb211)); have n10_ := am ((by rw [hg]; exact Nat.ne_of_gt (IsS88.lt (show IsS88 w0 _ g s0_0 t209 t210 from by repeat (first | (with_reducible first | exact HI0.out | apply IsS88.alloc | apply IsS88.drewN | apply IsS88.drew | apply IsS88.set_1 | apply IsS88.set_2 | refine IsS88.far ?_ NB0_203.out _) | exact HI0.out))) : gb211 ≠ g)); clear HI0 BK203 HK HB; have HI0 := n0_; have BK203 := n1_; have HK := n2_; have HB := n3_; have BK211 := n4_; have GW211 := n5_; have GE211 := n6_; have NB203_211 := n7_; have NB211_203 := n8_; have NB0_211 := n9_; have NB211_0 := n10_; clear n0_ n1_ n2_ n3_ n4_ n5_ n6_ n7_ n8_ n9_ n10_ hb hbox hg; have hnb51 := NB211_203.out; have hnc51 := NB203_211.out; have hnb52 := NB211_0.out; have hnc52 := NB0_211.out; obtain ⟨hcz53_0, hcz53_1, hcz53_2, hcz53_3, hcz53_4, hfz53_0, hfz53_1, hfz53_2, hfz53_3, hfz53_4⟩ := cf5 BK211.out) | ((with_reducible refine gate_callee (f := 46) rfl ?_); refine goesL_ (some 7) rfl rfl Tryd.func46 (by kernel_rfl) rfl #[.pointer (some ⟨g, 0, none⟩), .int .i64 12] rfl u3_5 ?_; (with_reducible refine (spec_l1Below.calls g s0_0 t209 t210 12 t212 t213 t214 w0 _ ?side1 ?side2 A3.out).mono ?_); (case side1 => exact s3_1); (case side2 => exact s3_4); rintro e w54 ⟨rfl, hi, hb, hk⟩; refine ⟨_, rfl, ?_⟩; have n0_ := am (KeepBut.blk hk (g' := gb203) (o := zo2 0 0 0 0 0) u3_2 NB203_0.out u3_22); have n1_ := am (KeepBut.blk hk (g' := gb211) (o := zo2 t204 t205 t206 t207 t208) u3_4 NB211_0.out u3_22); have n2_ := am (KeepBut.trans u3_1 hk (.inl rfl)); have n3_ := am (hb); have n4_ := am (hi); clear BK203 BK211 HK HB HI0; have BK203 := n0_; have BK211 := n1_; have HK := n2_; have HB := n3_; have HI0 := n4_; clear n0_ n1_ n2_ n3_ n4_; (try clear hb); (try clear hb2); (try clear hk); (try clear hi)) | ((with_reducible refine gate_dst (N := 27) rfl ?_); refine Kd.R_lit (Kd.int .i64) _ 3 ?hg (N := 27) ?hd (xs := ([0, (-1), 33, 32, 9223372036854775807, (-9223372036854775808)] : List Int)) (inner := [.int .i64 0, .int .i64 (-1), .int .i64 33, .int .i64 32, .int .i64 9223372036854775807, .int .i64 (-9223372036854775808)]) (ok := fun _ => True) (okp := fun _ => True) ?hr ?hp (fun _ hk => hk) trivial (Below.refl _ _) (Nat.le_refl _) u3_22 ?_; (case hd => rfl); (case hg => rfl); (case hr => exact gq); (case hp => exact (Reps.one (show Kd.M (Kd.int .i64) _ _ _ 0 [.int .i64 0] from rfl) (Reps.one (show Kd.M (Kd.int .i64) _ _ _ (-1) [.int .i64 (-1)] from rfl) (Reps.one (show Kd.M (Kd.int .i64) _ _ _ 33 [.int .i64 33] from rfl) (Reps.one (show Kd.M (Kd.int .i64) _ _ _ 32 [.int .i64 32] from rfl) (Reps.one (show Kd.M (Kd.int .i64) _ _ _ 9223372036854775807 [.int .i64 9223372036854775807] from rfl) (Reps.one (show Kd.M (Kd.int .i64) _ _ _ (-9223372036854775808) [.int .i64 (-9223372036854775808)] from rfl) (Reps.none _ _)))))))); intro v229 w55 ho56 hb hg_ hnew_; clear hg_ hnew_; (first | rw [← Ny228.out] at ho56 | (simp only [Int.reduceToNat] at ho56; rw [← Ny228.out] at ho56)); have n0_ := am (Kd.R_lower ho56 (keep_size (w := w) (g := g) (row := none) u3_1)); have n1_ := am (IsS88.below u3_18 hb); have n2_ := am (blk_below (g := gb203) (o := zo2 0 0 0 0 0) u3_3 hb); have n3_ := am (blk_below (g := gb211) (o := zo2 t204 t205 t206 t207 t208) u3_13 hb); have n4_ := am (KeepBut.trans u3_1 (KeepBut.of_below hb g none) (.inl rfl)); have n5_ := am (below_step u3_19 hb); clear HI0 BK203 BK211 HK HB; have HO230 := n0_; have HI0 := n1_; have BK203 := n2_; have BK211 := n3_; have HK := n4_; have HB := n5_; clear n0_ n1_ n2_ n3_ n4_ n5_ hb ho56; obtain ⟨Ao57, co57, eo57⟩ := Kd.R_slice HO230.out; subst eo57) | ((with_reducible refine gate_callee (f := 72) rfl ?_); refine goesL_ (some 28) rfl rfl Tryd.func72 (by kernel_rfl) rfl #[.pointer (some ⟨g, 0, none⟩), .slice Ao57 y228.length co57] rfl u3_5 ?_; (with_reducible refine (spec_l1Int.calls g s0_0 t213 t214 _ _ y228 t231 t232 t233 w0 _ ?side1 ?side2 ?side3 ?side4 ?side5 A47.out).mono ?_); (case side1 => exact s3_1); (case side2 => exact s3_4); (case side3 => repeat (first | exact (Kd.R_reads' HO230.out).2.2 | (with_reducible refine Kd.C_alloc ?_ _) | (with_reducible refine Kd.C_drewN ?_ _) | (with_reducible refine Kd.C_drew ?_))); (case side4 => exact (Kd.R_reads' HO230.out).2.1); (case side5 => exact far_slice (IsS88.own_ne HI0.out HO230.out (by decide))); rintro e w58 ⟨rfl, hi, hb, hk⟩; refine ⟨_, rfl, ?_⟩; have n0_ := am (KeepBut.blk hk (g' := gb203) (o := zo2 0 0 0 0 0) u3_3 NB203_0.out u3_22); have n1_ := am (KeepBut.blk hk (g' := gb211) (o := zo2 t204 t205 t206 t207 t208) u3_13 NB211_0.out u3_22); have n2_ := am (Kd.R_mono (Kd.R_keep (IsS88.apart (show IsS88 w0 _ g s0_0 t213 t214 from by repeat (first | (with_reducible first | exact HI0.out | apply IsS88.alloc | apply IsS88.drewN | apply IsS88.drew | apply IsS88.set_1 | apply IsS88.set_2 | refine IsS88.far ?_ NB0_203.out _ | refine IsS88.far ?_ NB0_211.out _) | exact HI0.out)) (by (with_reducible repeat (first | apply Kd.R_alloc | apply Kd.R_drewN | apply Kd.R_drew)); exact HO230.out) (by decide)) hk (fun _ h => h.2)) (fun _ h => h.1)); have n3_ := am (KeepBut.trans u3_1 hk (.inl rfl)); have n4_ := am (hb); have n5_ := am (hi); clear BK203 BK211 HO230 HK HB HI0; have BK203 := n0_; have BK211 := n1_; have HO230 := n2_; have HK := n3_; have HB := n4_; have HI0 := n5_; clear n0_ n1_ n2_ n3_ n4_ n5_; (try clear hb); (try clear hb2); (try clear hk); (try clear hi); obtain ⟨hcz59_0, hcz59_1, hcz59_2, hcz59_3, hcz59_4, hfz59_0, hfz59_1, hfz59_2, hfz59_3, hfz59_4⟩ := cf5 BK211.out; have hnb60 := NB203_0.out; have hnc60 := NB0_203.out; obtain ⟨hcz61_0, hcz61_1, hcz61_2, hcz61_3, hcz61_4, hfz61_0, hfz61_1, hfz61_2, hfz61_3, hfz61_4⟩ := cf5 BK203.out))
     refine bodyPost_ret (results_cell_row rfl _ _ gb203 79 #[.int .i64 t204, .int .i64 t205, .int .i64 t206, .int .i64 t207, .int .i64 t231] (0, 0) _ rfl (by (with_reducible repeat (first | refine bN ?_ _ | refine bD ?_ | refine bA ?_ _)); refine blk_put (cs := zr5 t204 t205 t206 t207 0) ?_ 4 _ rfl; refine blk_put (cs := zr5 t204 t205 t206 0 0) ?_ 3 _ rfl; refine blk_put (cs := zr5 t204 t205 0 0 0) ?_ 2 _ rfl; refine blk_put (cs := zr5 t204 0 0 0 0) ?_ 1 _ rfl; refine blk_put (cs := zr5 0 0 0 0 0) ?_ 0 _ rfl; (with_reducible repeat (first | refine bN ?_ _ | refine bD ?_ | refine bA ?_ _)); refine blk_far ?_ NB203_211.out _; exact bd BK203.out) Tryd.underlying79 rfl (by kernel_rfl)) rfl ?_
     exact ⟨by first | rfl | (simp [*] <;> rfl), s3_1, s3_4, s3_7⟩
    ·rw [if_neg c46] at H
     have c46b0 : (t212 == 3) = false := beq_eq_false_iff_ne.mpr c46
     have c46b1 : (t212 != 3) = true := bne_iff_ne.mpr c46
     by_cases c62 : t212 = 4
     ·rw [if_pos c62] at H
      have c62b0 : (t212 == 4) = true := beq_iff_eq.mpr c62
      have c62b1 : (t212 != 4) = false := bne_eq_false_iff_eq.mpr c62
      clear c62
      obtain ⟨y234, hy234⟩ : ∃ y_ : List Int, y_ = (([1024, 1025, (-1024), (-1025)] : List Int)) := ⟨_, rfl⟩
      replace H : ((spec_l1Int.f s0_0 t213 t214 y234).bind fun bt237 => ((spec_l1Int.f s0_0 bt237.2.1 bt237.2.2 (([0, 1024, (-1025)] : List Int))).bind fun bt243 => (some (bt237.1, bt243.1, t206, t207, t208, bt243.2.1, bt243.2.2)))) = some (r1, r2, r3, r4, r5, r6, r7) := by first | (rw [hy234]; with_reducible exact H) | (have H2_ := (Option.bind_some _ _).symm.trans H; rw [hy234]; with_reducible exact H2_) | (have H2_ := (Option.bind_some _ _).symm.trans H; with_reducible exact H2_) | with_reducible exact H | (rw [hy234]; exact H) | exact H
      have Ny234 := am hy234
      clear hy234
      replace H := ob H
      obtain ⟨⟨t237, t238, t239⟩, A630, H⟩ := H
      replace H : ((spec_l1Int.f s0_0 t238 t239 (([0, 1024, (-1025)] : List Int))).bind fun bt243 => (some (t237, bt243.1, t206, t207, t208, bt243.2.1, bt243.2.2))) = some (r1, r2, r3, r4, r5, r6, r7) := H
      have A63 := am A630
      clear A630
      obtain ⟨y240, hy240⟩ : ∃ y_ : List Int, y_ = (([0, 1024, (-1025)] : List Int)) := ⟨_, rfl⟩
      replace H : ((spec_l1Int.f s0_0 t238 t239 y240).bind fun bt243 => (some (t237, bt243.1, t206, t207, t208, bt243.2.1, bt243.2.2))) = some (r1, r2, r3, r4, r5, r6, r7) := by first | (rw [hy240]; with_reducible exact H) | (have H2_ := (Option.bind_some _ _).symm.trans H; rw [hy240]; with_reducible exact H2_) | (have H2_ := (Option.bind_some _ _).symm.trans H; with_reducible exact H2_) | with_reducible exact H | (rw [hy240]; exact H) | exact H
      have Ny240 := am hy240
      clear hy240
      replace H := ob H
      obtain ⟨⟨t243, t244, t245⟩, A640, H⟩ := H
      replace H : (some (t237, t243, t206, t207, t208, t244, t245)) = some (r1, r2, r3, r4, r5, r6, r7) := H
      have A64 := am A640
      clear A640
      simp only [Option.some.injEq, Prod.mk.injEq] at H
      obtain ⟨rfl, rfl, rfl, rfl, rfl, rfl, rfl⟩ := H
      go_enter Tryd.func86, Tryd.ntmps86
      go_wp2_with (first | ((with_reducible refine gate_dst (N := 2) rfl ?_); refine box_event ?hg (N := 2) ?hd (cs := #[.int .i64 0, .int .i64 0, .int .i64 0, .int .i64 0, .int .i64 0]) (t := 79) ?hr ?_; (case hd => rfl); (case hg => rfl); (case hr => exact gq); intro gb203 hg w65 hbox hb; have n0_ := am (IsS88.below u3_12 hb); have n1_ := am (KeepBut.trans u3_6 (KeepBut.of_below hb g none) (.inl rfl)); have n2_ := am (below_step u3_11 hb); have n3_ := am (hbox); have n4_ := am ((by rw [hg]; exact (keep_size (w := w) (g := g) (row := none) u3_6) : w.heap.size ≤ gb203)); have n5_ := am ((Nat.le_trans HW0.out (by rw [hg]; exact (keep_size (w := w) (g := g) (row := none) u3_6) : w.heap.size ≤ gb203) : w0.heap.size ≤ gb203)); have n6_ := am ((by rw [hg]; exact Nat.ne_of_lt (IsS88.lt (show IsS88 w0 _ g s0_0 s0_1 s0_2 from by repeat (first | (with_reducible first | exact HI0.out | apply IsS88.alloc | apply IsS88.drewN | apply IsS88.drew | apply IsS88.set_1 | apply IsS88.set_2) | exact HI0.out))) : g ≠ gb203)); have n7_ := am ((by rw [hg]; exact Nat.ne_of_gt (IsS88.lt (show IsS88 w0 _ g s0_0 s0_1 s0_2 from by repeat (first | (with_reducible first | exact HI0.out | apply IsS88.alloc | apply IsS88.drewN | apply IsS88.drew | apply IsS88.set_1 | apply IsS88.set_2) | exact HI0.out))) : gb203 ≠ g)); clear HI0 HK HB; have HI0 := n0_; have HK := n1_; have HB := n2_; have BK203 := n3_; have GW203 := n4_; have GE203 := n5_; have NB0_203 := n6_; have NB203_0 := n7_; clear n0_ n1_ n2_ n3_ n4_ n5_ n6_ n7_ hb hbox hg) | ((with_reducible refine gate_callee (f := 99) rfl ?_); refine goesL_ (some 5) rfl rfl Tryd.func99 (by kernel_rfl) rfl #[.pointer (some ⟨g, 0, none⟩)] rfl u3_5 ?_; (with_reducible refine (spec_l3Draw.calls g s0_0 s0_1 s0_2 t204 t205 t206 t207 t208 t209 t210 w0 _ ?side1 ?side2 A2.out).mono ?_); (case side1 => exact s3_9); (case side2 => exact s3_11); rintro e w66 ⟨rfl, hi, hb, hk⟩; refine ⟨_, rfl, ?_⟩; have n0_ := am (KeepBut.blk hk (g' := gb203) (o := zo2 0 0 0 0 0) u3_3 NB203_0.out u3_22); have n1_ := am (KeepBut.trans u3_0 hk (.inl rfl)); have n2_ := am (hb); have n3_ := am (hi); clear BK203 HK HB HI0; have BK203 := n0_; have HK := n1_; have HB := n2_; have HI0 := n3_; clear n0_ n1_ n2_ n3_; (try clear hb); (try clear hb2); (try clear hk); (try clear hi)) | ((with_reducible refine gate_dst (N := 3) rfl ?_); refine box_event ?hg (N := 3) ?hd (cs := #[.int .i64 0, .int .i64 0, .int .i64 0, .int .i64 0, .int .i64 0]) (t := 79) ?hr ?_; (case hd => rfl); (case hg => rfl); (case hr => exact gq); intro gb211 hg w67 hbox hb; have n0_ := am (IsS88.below u3_14 hb); have n1_ := am (blk_below (g := gb203) (o := zo2 0 0 0 0 0) u3_3 hb); have n2_ := am (KeepBut.trans u3_0 (KeepBut.of_below hb g none) (.inl rfl)); have n3_ := am (below_step u3_15 hb); have n4_ := am (hbox); have n5_ := am ((by rw [hg]; exact (keep_size (w := w) (g := g) (row := none) u3_0) : w.heap.size ≤ gb211)); have n6_ := am ((Nat.le_trans HW0.out (by rw [hg]; exact (keep_size (w := w) (g := g) (row := none) u3_0) : w.heap.size ≤ gb211) : w0.heap.size ≤ gb211)); have n7_ := am ((by rw [hg]; exact Nat.ne_of_lt (blk_lt (g := gb203) (o := zo2 0 0 0 0 0) u3_3) : gb203 ≠ gb211)); have n8_ := am ((by rw [hg]; exact Nat.ne_of_gt (blk_lt (g := gb203) (o := zo2 0 0 0 0 0) u3_3) : gb211 ≠ gb203)); have n9_ := am ((by rw [hg]; exact Nat.ne_of_lt (IsS88.lt (show IsS88 w0 _ g s0_0 t209 t210 from by repeat (first | (with_reducible first | exact HI0.out | apply IsS88.alloc | apply IsS88.drewN | apply IsS88.drew | apply IsS88.set_1 | apply IsS88.set_2 | refine IsS88.far ?_ NB0_203.out _) | exact HI0.out))) : g ≠ gb211)); have n10_ := am ((by rw [hg]; exact Nat.ne_of_gt (IsS88.lt (show IsS88 w0 _ g s0_0 t209 t210 from by repeat (first | (with_reducible first | exact HI0.out | apply IsS88.alloc | apply IsS88.drewN | apply IsS88.drew | apply IsS88.set_1 | apply IsS88.set_2 | refine IsS88.far ?_ NB0_203.out _) | exact HI0.out))) : gb211 ≠ g)); clear HI0 BK203 HK HB; have HI0 := n0_; have BK203 := n1_; have HK := n2_; have HB := n3_; have BK211 := n4_; have GW211 := n5_; have GE211 := n6_; have NB203_211 := n7_; have NB211_203 := n8_; have NB0_211 := n9_; have NB211_0 := n10_; clear n0_ n1_ n2_ n3_ n4_ n5_ n6_ n7_ n8_ n9_ n10_ hb hbox hg; have hnb68 := NB211_203.out; have hnc68 := NB203_211.out; have hnb69 := NB211_0.out; have hnc69 := NB0_211.out; obtain ⟨hcz70_0, hcz70_1, hcz70_2, hcz70_3, hcz70_4, hfz70_0, hfz70_1, hfz70_2, hfz70_3, hfz70_4⟩ := cf5 BK211.out) | ((with_reducible refine gate_callee (f := 46) rfl ?_); refine goesL_ (some 7) rfl rfl Tryd.func46 (by kernel_rfl) rfl #[.pointer (some ⟨g, 0, none⟩), .int .i64 12] rfl u3_5 ?_; (with_reducible refine (spec_l1Below.calls g s0_0 t209 t210 12 t212 t213 t214 w0 _ ?side1 ?side2 A3.out).mono ?_); (case side1 => exact s3_1); (case side2 => exact s3_4); rintro e w71 ⟨rfl, hi, hb, hk⟩; refine ⟨_, rfl, ?_⟩; have n0_ := am (KeepBut.blk hk (g' := gb203) (o := zo2 0 0 0 0 0) u3_2 NB203_0.out u3_22); have n1_ := am (KeepBut.blk hk (g' := gb211) (o := zo2 t204 t205 t206 t207 t208) u3_4 NB211_0.out u3_22); have n2_ := am (KeepBut.trans u3_1 hk (.inl rfl)); have n3_ := am (hb); have n4_ := am (hi); clear BK203 BK211 HK HB HI0; have BK203 := n0_; have BK211 := n1_; have HK := n2_; have HB := n3_; have HI0 := n4_; clear n0_ n1_ n2_ n3_ n4_; (try clear hb); (try clear hb2); (try clear hk); (try clear hi)) | ((with_reducible refine gate_dst (N := 33) rfl ?_); refine Kd.R_lit (Kd.int .i64) _ 3 ?hg (N := 33) ?hd (xs := ([1024, 1025, (-1024), (-1025)] : List Int)) (inner := [.int .i64 1024, .int .i64 1025, .int .i64 (-1024), .int .i64 (-1025)]) (ok := fun _ => True) (okp := fun _ => True) ?hr ?hp (fun _ hk => hk) trivial (Below.refl _ _) (Nat.le_refl _) u3_22 ?_; (case hd => rfl); (case hg => rfl); (case hr => exact gq); (case hp => exact (Reps.one (show Kd.M (Kd.int .i64) _ _ _ 1024 [.int .i64 1024] from rfl) (Reps.one (show Kd.M (Kd.int .i64) _ _ _ 1025 [.int .i64 1025] from rfl) (Reps.one (show Kd.M (Kd.int .i64) _ _ _ (-1024) [.int .i64 (-1024)] from rfl) (Reps.one (show Kd.M (Kd.int .i64) _ _ _ (-1025) [.int .i64 (-1025)] from rfl) (Reps.none _ _)))))); intro v235 w72 ho73 hb hg_ hnew_; clear hg_ hnew_; (first | rw [← Ny234.out] at ho73 | (simp only [Int.reduceToNat] at ho73; rw [← Ny234.out] at ho73)); have n0_ := am (Kd.R_lower ho73 (keep_size (w := w) (g := g) (row := none) u3_1)); have n1_ := am (IsS88.below u3_18 hb); have n2_ := am (blk_below (g := gb203) (o := zo2 0 0 0 0 0) u3_3 hb); have n3_ := am (blk_below (g := gb211) (o := zo2 t204 t205 t206 t207 t208) u3_13 hb); have n4_ := am (KeepBut.trans u3_1 (KeepBut.of_below hb g none) (.inl rfl)); have n5_ := am (below_step u3_19 hb); clear HI0 BK203 BK211 HK HB; have HO236 := n0_; have HI0 := n1_; have BK203 := n2_; have BK211 := n3_; have HK := n4_; have HB := n5_; clear n0_ n1_ n2_ n3_ n4_ n5_ hb ho73; obtain ⟨Ao74, co74, eo74⟩ := Kd.R_slice HO236.out; subst eo74) | ((with_reducible refine gate_callee (f := 72) rfl ?_); refine goesL_ (some 34) rfl rfl Tryd.func72 (by kernel_rfl) rfl #[.pointer (some ⟨g, 0, none⟩), .slice Ao74 y234.length co74] rfl u3_5 ?_; (with_reducible refine (spec_l1Int.calls g s0_0 t213 t214 _ _ y234 t237 t238 t239 w0 _ ?side1 ?side2 ?side3 ?side4 ?side5 A63.out).mono ?_); (case side1 => exact s3_1); (case side2 => exact s3_4); (case side3 => repeat (first | exact (Kd.R_reads' HO236.out).2.2 | (with_reducible refine Kd.C_alloc ?_ _) | (with_reducible refine Kd.C_drewN ?_ _) | (with_reducible refine Kd.C_drew ?_))); (case side4 => exact (Kd.R_reads' HO236.out).2.1); (case side5 => exact far_slice (IsS88.own_ne HI0.out HO236.out (by decide))); rintro e w75 ⟨rfl, hi, hb, hk⟩; refine ⟨_, rfl, ?_⟩; have n0_ := am (KeepBut.blk hk (g' := gb203) (o := zo2 0 0 0 0 0) u3_3 NB203_0.out u3_22); have n1_ := am (KeepBut.blk hk (g' := gb211) (o := zo2 t204 t205 t206 t207 t208) u3_13 NB211_0.out u3_22); have n2_ := am (Kd.R_mono (Kd.R_keep (IsS88.apart (show IsS88 w0 _ g s0_0 t213 t214 from by repeat (first | (with_reducible first | exact HI0.out | apply IsS88.alloc | apply IsS88.drewN | apply IsS88.drew | apply IsS88.set_1 | apply IsS88.set_2 | refine IsS88.far ?_ NB0_203.out _ | refine IsS88.far ?_ NB0_211.out _) | exact HI0.out)) u3_23 (by decide)) hk (fun _ h => h.2)) (fun _ h => h.1)); have n3_ := am (KeepBut.trans u3_1 hk (.inl rfl)); have n4_ := am (hb); have n5_ := am (hi); clear BK203 BK211 HO236 HK HB HI0; have BK203 := n0_; have BK211 := n1_; have HO236 := n2_; have HK := n3_; have HB := n4_; have HI0 := n5_; clear n0_ n1_ n2_ n3_ n4_ n5_; (try clear hb); (try clear hb2); (try clear hk); (try clear hi)) | ((with_reducible refine gate_dst (N := 36) rfl ?_); refine Kd.R_lit (Kd.int .i64) _ 3 ?hg (N := 36) ?hd (xs := ([0, 1024, (-1025)] : List Int)) (inner := [.int .i64 0, .int .i64 1024, .int .i64 (-1025)]) (ok := fun _ => True) (okp := fun _ => True) ?hr ?hp (fun _ hk => hk) trivial (Below.refl _ _) (Nat.le_refl _) u3_22 ?_; (case hd => rfl); (case hg => rfl); (case hr => exact gq); (case hp => exact (Reps.one (show Kd.M (Kd.int .i64) _ _ _ 0 [.int .i64 0] from rfl) (Reps.one (show Kd.M (Kd.int .i64) _ _ _ 1024 [.int .i64 1024] from rfl) (Reps.one (show Kd.M (Kd.int .i64) _ _ _ (-1025) [.int .i64 (-1025)] from rfl) (Reps.none _ _))))); intro v241 w76 ho77 hb hg_ hnew_; clear hg_ hnew_; (first | rw [← Ny240.out] at ho77 | (simp only [Int.reduceToNat] at ho77; rw [← Ny240.out] at ho77)); have n0_ := am (Kd.R_elder' u3_23 (Kd.R_base ho77) hb); have n1_ := am (Kd.R_lower (Kd.R_new' ho77 (Kd.R_lt u3_23)) (keep_size (w := w) (g := g) (row := none) u3_1)); have n2_ := am (IsS88.below u3_18 hb); have n3_ := am (blk_below (g := gb203) (o := zo2 0 0 0 0 0) u3_3 hb); have n4_ := am (blk_below (g := gb211) (o := zo2 t204 t205 t206 t207 t208) u3_13 hb); have n5_ := am (KeepBut.trans u3_1 (KeepBut.of_below hb g none) (.inl rfl)); have n6_ := am (below_step u3_19 hb); clear HO236 HI0 BK203 BK211 HK HB; have HO236 := n0_; have HO242 := n1_; have HI0 := n2_; have BK203 := n3_; have BK211 := n4_; have HK := n5_; have HB := n6_; clear n0_ n1_ n2_ n3_ n4_ n5_ n6_ hb ho77; obtain ⟨Ao78, co78, eo78⟩ := Kd.R_slice HO242.out; subst eo78) | ((with_reducible refine gate_callee (f := 72) rfl ?_); refine goesL_ (some 37) rfl rfl Tryd.func72 (by kernel_rfl) rfl #[.pointer (some ⟨g, 0, none⟩), .slice Ao78 y240.length co78] rfl u3_5 ?_; (with_reducible refine (spec_l1Int.calls g s0_0 t238 t239 _ _ y240 t243 t244 t245 w0 _ ?side1 ?side2 ?side3 ?side4 ?side5 A64.out).mono ?_); (case side1 => exact s3_1); (case side2 => exact s3_4); (case side3 => repeat (first | exact (Kd.R_reads' HO242.out).2.2 | (with_reducible refine Kd.C_alloc ?_ _) | (with_reducible refine Kd.C_drewN ?_ _) | (with_reducible refine Kd.C_drew ?_))); (case side4 => exact (Kd.R_reads' HO242.out).2.1); (case side5 => exact far_slice (IsS88.own_ne HI0.out HO242.out (by decide))); rintro e w79 ⟨rfl, hi, hb, hk⟩; refine ⟨_, rfl, ?_⟩; have n0_ := am (KeepBut.blk hk (g' := gb203) (o := zo2 0 0 0 0 0) u3_3 NB203_0.out u3_22); have n1_ := am (KeepBut.blk hk (g' := gb211) (o := zo2 t204 t205 t206 t207 t208) u3_13 NB211_0.out u3_22); have n2_ := am (Kd.R_mono (Kd.R_keep (IsS88.apart (show IsS88 w0 _ g s0_0 t238 t239 from by repeat (first | (with_reducible first | exact HI0.out | apply IsS88.alloc | apply IsS88.drewN | apply IsS88.drew | apply IsS88.set_1 | apply IsS88.set_2 | refine IsS88.far ?_ NB0_203.out _ | refine IsS88.far ?_ NB0_211.out _) | exact HI0.out)) u3_23 (by decide)) hk (fun _ h => h.2)) (fun _ h => h.1)); have n3_ := am (Kd.R_mono (Kd.R_keep (IsS88.apart (show IsS88 w0 _ g s0_0 t238 t239 from by repeat (first | (with_reducible first | exact HI0.out | apply IsS88.alloc | apply IsS88.drewN | apply IsS88.drew | apply IsS88.set_1 | apply IsS88.set_2 | refine IsS88.far ?_ NB0_203.out _ | refine IsS88.far ?_ NB0_211.out _) | exact HI0.out)) (by (with_reducible repeat (first | apply Kd.R_alloc | apply Kd.R_drewN | apply Kd.R_drew)); exact HO242.out) (by decide)) hk (fun _ h => h.2)) (fun _ h => h.1)); have n4_ := am (KeepBut.trans u3_1 hk (.inl rfl)); have n5_ := am (hb); have n6_ := am (hi); clear BK203 BK211 HO236 HO242 HK HB HI0; have BK203 := n0_; have BK211 := n1_; have HO236 := n2_; have HO242 := n3_; have HK := n4_; have HB := n5_; have HI0 := n6_; clear n0_ n1_ n2_ n3_ n4_ n5_ n6_; (try clear hb); (try clear hb2); (try clear hk); (try clear hi); obtain ⟨hcz80_0, hcz80_1, hcz80_2, hcz80_3, hcz80_4, hfz80_0, hfz80_1, hfz80_2, hfz80_3, hfz80_4⟩ := cf5 BK211.out; have hnb81 := NB203_0.out; have hnc81 := NB0_203.out; obtain ⟨hcz82_0, hcz82_1, hcz82_2, hcz82_3, hcz82_4, hfz82_0, hfz82_1, hfz82_2, hfz82_3, hfz82_4⟩ := cf5 BK203.out))
      refine bodyPost_ret (results_cell_row rfl _ _ gb203 79 #[.int .i64 t237, .int .i64 t243, .int .i64 t206, .int .i64 t207, .int .i64 t208] (0, 0) _ rfl (by (with_reducible repeat (first | refine bN ?_ _ | refine bD ?_ | refine bA ?_ _)); refine blk_put (cs := zr5 t237 t243 t206 t207 0) ?_ 4 _ rfl; refine blk_put (cs := zr5 t237 t243 t206 0 0) ?_ 3 _ rfl; refine blk_put (cs := zr5 t237 t243 0 0 0) ?_ 2 _ rfl; refine blk_put (cs := zr5 t237 0 0 0 0) ?_ 1 _ rfl; refine blk_put (cs := zr5 0 0 0 0 0) ?_ 0 _ rfl; (with_reducible repeat (first | refine bN ?_ _ | refine bD ?_ | refine bA ?_ _)); refine blk_far ?_ NB203_211.out _; (with_reducible repeat (first | refine bN ?_ _ | refine bD ?_ | refine bA ?_ _)); refine blk_far ?_ NB203_211.out _; exact bd BK203.out) Tryd.underlying79 rfl (by kernel_rfl)) rfl ?_
      exact ⟨by first | rfl | (simp [*] <;> rfl), s3_1, s3_4, s3_7⟩
     ·rw [if_neg c62] at H
      have c62b0 : (t212 == 4) = false := beq_eq_false_iff_ne.mpr c62
      have c62b1 : (t212 != 4) = true := bne_iff_ne.mpr c62
      simp only [Option.some.injEq, Prod.mk.injEq] at H
      obtain ⟨rfl, rfl, rfl, rfl, rfl, rfl, rfl⟩ := H
      go_enter Tryd.func86, Tryd.ntmps86
      go_wp2_with (first | ((with_reducible refine gate_dst (N := 2) rfl ?_); refine box_event ?hg (N := 2) ?hd (cs := #[.int .i64 0, .int .i64 0, .int .i64 0, .int .i64 0, .int .i64 0]) (t := 79) ?hr ?_; (case hd => rfl); (case hg => rfl); (case hr => exact gq); intro gb203 hg w83 hbox hb; have n0_ := am (IsS88.below u3_12 hb); have n1_ := am (KeepBut.trans u3_6 (KeepBut.of_below hb g none) (.inl rfl)); have n2_ := am (below_step u3_11 hb); have n3_ := am (hbox); have n4_ := am ((by rw [hg]; exact (keep_size (w := w) (g := g) (row := none) u3_6) : w.heap.size ≤ gb203)); have n5_ := am ((Nat.le_trans HW0.out (by rw [hg]; exact (keep_size (w := w) (g := g) (row := none) u3_6) : w.heap.size ≤ gb203) : w0.heap.size ≤ gb203)); have n6_ := am ((by rw [hg]; exact Nat.ne_of_lt (IsS88.lt (show IsS88 w0 _ g s0_0 s0_1 s0_2 from by repeat (first | (with_reducible first | exact HI0.out | apply IsS88.alloc | apply IsS88.drewN | apply IsS88.drew | apply IsS88.set_1 | apply IsS88.set_2) | exact HI0.out))) : g ≠ gb203)); have n7_ := am ((by rw [hg]; exact Nat.ne_of_gt (IsS88.lt (show IsS88 w0 _ g s0_0 s0_1 s0_2 from by repeat (first | (with_reducible first | exact HI0.out | apply IsS88.alloc | apply IsS88.drewN | apply IsS88.drew | apply IsS88.set_1 | apply IsS88.set_2) | exact HI0.out))) : gb203 ≠ g)); clear HI0 HK HB; have HI0 := n0_; have HK := n1_; have HB := n2_; have BK203 := n3_; have GW203 := n4_; have GE203 := n5_; have NB0_203 := n6_; have NB203_0 := n7_; clear n0_ n1_ n2_ n3_ n4_ n5_ n6_ n7_ hb hbox hg) | ((with_reducible refine gate_callee (f := 99) rfl ?_); refine goesL_ (some 5) rfl rfl Tryd.func99 (by kernel_rfl) rfl #[.pointer (some ⟨g, 0, none⟩)] rfl u3_5 ?_; (with_reducible refine (spec_l3Draw.calls g s0_0 s0_1 s0_2 t204 t205 t206 t207 t208 t209 t210 w0 _ ?side1 ?side2 A2.out).mono ?_); (case side1 => exact s3_9); (case side2 => exact s3_11); rintro e w84 ⟨rfl, hi, hb, hk⟩; refine ⟨_, rfl, ?_⟩; have n0_ := am (KeepBut.blk hk (g' := gb203) (o := zo2 0 0 0 0 0) u3_3 NB203_0.out u3_22); have n1_ := am (KeepBut.trans u3_0 hk (.inl rfl)); have n2_ := am (hb); have n3_ := am (hi); clear BK203 HK HB HI0; have BK203 := n0_; have HK := n1_; have HB := n2_; have HI0 := n3_; clear n0_ n1_ n2_ n3_; (try clear hb); (try clear hb2); (try clear hk); (try clear hi)) | ((with_reducible refine gate_dst (N := 3) rfl ?_); refine box_event ?hg (N := 3) ?hd (cs := #[.int .i64 0, .int .i64 0, .int .i64 0, .int .i64 0, .int .i64 0]) (t := 79) ?hr ?_; (case hd => rfl); (case hg => rfl); (case hr => exact gq); intro gb211 hg w85 hbox hb; have n0_ := am (IsS88.below u3_14 hb); have n1_ := am (blk_below (g := gb203) (o := zo2 0 0 0 0 0) u3_3 hb); have n2_ := am (KeepBut.trans u3_0 (KeepBut.of_below hb g none) (.inl rfl)); have n3_ := am (below_step u3_15 hb); have n4_ := am (hbox); have n5_ := am ((by rw [hg]; exact (keep_size (w := w) (g := g) (row := none) u3_0) : w.heap.size ≤ gb211)); have n6_ := am ((Nat.le_trans HW0.out (by rw [hg]; exact (keep_size (w := w) (g := g) (row := none) u3_0) : w.heap.size ≤ gb211) : w0.heap.size ≤ gb211)); have n7_ := am ((by rw [hg]; exact Nat.ne_of_lt (blk_lt (g := gb203) (o := zo2 0 0 0 0 0) u3_3) : gb203 ≠ gb211)); have n8_ := am ((by rw [hg]; exact Nat.ne_of_gt (blk_lt (g := gb203) (o := zo2 0 0 0 0 0) u3_3) : gb211 ≠ gb203)); have n9_ := am ((by rw [hg]; exact Nat.ne_of_lt (IsS88.lt (show IsS88 w0 _ g s0_0 t209 t210 from by repeat (first | (with_reducible first | exact HI0.out | apply IsS88.alloc | apply IsS88.drewN | apply IsS88.drew | apply IsS88.set_1 | apply IsS88.set_2 | refine IsS88.far ?_ NB0_203.out _) | exact HI0.out))) : g ≠ gb211)); have n10_ := am ((by rw [hg]; exact Nat.ne_of_gt (IsS88.lt (show IsS88 w0 _ g s0_0 t209 t210 from by repeat (first | (with_reducible first | exact HI0.out | apply IsS88.alloc | apply IsS88.drewN | apply IsS88.drew | apply IsS88.set_1 | apply IsS88.set_2 | refine IsS88.far ?_ NB0_203.out _) | exact HI0.out))) : gb211 ≠ g)); clear HI0 BK203 HK HB; have HI0 := n0_; have BK203 := n1_; have HK := n2_; have HB := n3_; have BK211 := n4_; have GW211 := n5_; have GE211 := n6_; have NB203_211 := n7_; have NB211_203 := n8_; have NB0_211 := n9_; have NB211_0 := n10_; clear n0_ n1_ n2_ n3_ n4_ n5_ n6_ n7_ n8_ n9_ n10_ hb hbox hg; have hnb86 := NB211_203.out; have hnc86 := NB203_211.out; have hnb87 := NB211_0.out; have hnc87 := NB0_211.out; obtain ⟨hcz88_0, hcz88_1, hcz88_2, hcz88_3, hcz88_4, hfz88_0, hfz88_1, hfz88_2, hfz88_3, hfz88_4⟩ := cf5 BK211.out) | ((with_reducible refine gate_callee (f := 46) rfl ?_); refine goesL_ (some 7) rfl rfl Tryd.func46 (by kernel_rfl) rfl #[.pointer (some ⟨g, 0, none⟩), .int .i64 12] rfl u3_5 ?_; (with_reducible refine (spec_l1Below.calls g s0_0 t209 t210 12 t212 t213 t214 w0 _ ?side1 ?side2 A3.out).mono ?_); (case side1 => exact s3_1); (case side2 => exact s3_4); rintro e w89 ⟨rfl, hi, hb, hk⟩; refine ⟨_, rfl, ?_⟩; have n0_ := am (KeepBut.blk hk (g' := gb203) (o := zo2 0 0 0 0 0) u3_2 NB203_0.out u3_22); have n1_ := am (KeepBut.blk hk (g' := gb211) (o := zo2 t204 t205 t206 t207 t208) u3_4 NB211_0.out u3_22); have n2_ := am (KeepBut.trans u3_1 hk (.inl rfl)); have n3_ := am (hb); have n4_ := am (hi); clear BK203 BK211 HK HB HI0; have BK203 := n0_; have BK211 := n1_; have HK := n2_; have HB := n3_; have HI0 := n4_; clear n0_ n1_ n2_ n3_ n4_; (try clear hb); (try clear hb2); (try clear hk); (try clear hi); obtain ⟨hcz90_0, hcz90_1, hcz90_2, hcz90_3, hcz90_4, hfz90_0, hfz90_1, hfz90_2, hfz90_3, hfz90_4⟩ := cf5 BK211.out; have hnb91 := NB203_0.out; have hnc91 := NB0_203.out; obtain ⟨hcz92_0, hcz92_1, hcz92_2, hcz92_3, hcz92_4, hfz92_0, hfz92_1, hfz92_2, hfz92_3, hfz92_4⟩ := cf5 BK203.out))
      refine bodyPost_ret (results_cell_row rfl _ _ gb203 79 #[.int .i64 t204, .int .i64 t205, .int .i64 t206, .int .i64 t207, .int .i64 t208] (0, 0) _ rfl (by (with_reducible repeat (first | refine bN ?_ _ | refine bD ?_ | refine bA ?_ _)); refine blk_put (cs := zr5 t204 t205 t206 t207 0) ?_ 4 _ rfl; refine blk_put (cs := zr5 t204 t205 t206 0 0) ?_ 3 _ rfl; refine blk_put (cs := zr5 t204 t205 0 0 0) ?_ 2 _ rfl; refine blk_put (cs := zr5 t204 0 0 0 0) ?_ 1 _ rfl; refine blk_put (cs := zr5 0 0 0 0 0) ?_ 0 _ rfl; exact bd BK203.out) Tryd.underlying79 rfl (by kernel_rfl)) rfl ?_
      exact ⟨by first | rfl | (simp [*] <;> rfl), s3_1, s3_4, s3_7⟩

mutual
def spec_l6Any.j2 : Nat → List Int → Int → Int → ByteArray → Int → ByteArray → Int → Int → Int → Int → Int → Option (ByteArray × Int × ByteArray × Int × Int × Int × Int × Int × Int × Int)
 | 0, _, _, _, _, _, _, _, _, _, _, _ => none
 | k + 1, x1000, x1001, x1002, x264000, x264001, x264002, x264003, x264004, x264005, x264006, x264007 => (spec_l1Below.f x1000 x1001 x1002 12).bind fun bt289 => (if bt289.1 = 0 then ((spec_l1Word.f x1000 bt289.2.1 bt289.2.2).bind fun bt292 => (some (bt292.1, x264001, x264002, x264003, x264004, x264005, x264006, x264007, bt292.2.1, bt292.2.2))) else (if bt289.1 = 1 then ((spec_l1Odd.f x1000 bt289.2.1 bt289.2.2).bind fun bt295 => (some (x264000, x264001, x264002, x264003, x264004, x264005, bt295.1, x264007, bt295.2.1, bt295.2.2))) else (if bt289.1 = 2 then ((spec_l3Any.f k x1000 bt289.2.1 bt289.2.2).bind fun bt298 => (some (x264000, x264001, x264002, bt298.1, bt298.2.1, x264005, x264006, x264007, bt298.2.2.2.2.2.1, bt298.2.2.2.2.2.2))) else (some (x264000, x264001, x264002, x264003, x264004, x264005, x264006, x264007, bt289.2.1, bt289.2.2)))))
def spec_l6Any.j0 : Nat → Int → Bool → List Int → Int → Int → ByteArray → Int → ByteArray → Int → Int → Int → Int → Int → Option (ByteArray × Int × ByteArray × Int × Int × Int × Int × Int × Int × Int)
 | 0, _, _, _, _, _, _, _, _, _, _, _, _, _ => none
 | k + 1, x11, x12, x1000, x1001, x1002, x264000, x264001, x264002, x264003, x264004, x264005, x264006, x264007 => if x12 = true then ((spec_l6Name.f x1000 x1001 x1002).bind fun bt267 => ((spec_l1Below.f x1000 bt267.2.1 bt267.2.2 600).bind fun bt270 => (spec_l6Any.j2 k x1000 bt270.2.1 bt270.2.2 bt267.1 1 (⟨#[]⟩ : ByteArray) 0 0 0 0 bt270.1))) else (if x11 = 2 then (spec_l6Any.j1 k x11 (x11 == 2) x1000 x1001 x1002 x264000 x264001 x264002 x264003 x264004 x264005 x264006 x264007) else (spec_l6Any.j1 k x11 (x11 == 3) x1000 x1001 x1002 x264000 x264001 x264002 x264003 x264004 x264005 x264006 x264007))
def spec_l6Any.j1 : Nat → Int → Bool → List Int → Int → Int → ByteArray → Int → ByteArray → Int → Int → Int → Int → Int → Option (ByteArray × Int × ByteArray × Int × Int × Int × Int × Int × Int × Int)
 | 0, _, _, _, _, _, _, _, _, _, _, _, _, _ => none
 | k + 1, x11, x20, x1000, x1001, x1002, x264000, x264001, x264002, x264003, x264004, x264005, x264006, x264007 => if x20 = true then ((spec_l6Name.f x1000 x1001 x1002).bind fun bt273 => ((spec_l6Name.f x1000 bt273.2.1 bt273.2.2).bind fun bt276 => ((spec_l2Any.f k x1000 bt276.2.1 bt276.2.2).bind fun bt279 => (spec_l6Any.j2 k x1000 bt279.2.2.1 bt279.2.2.2 bt273.1 3 bt276.1 bt279.1 bt279.2.1 0 0 0)))) else (if x11 = 4 then ((spec_l1Odd.f x1000 x1001 x1002).bind fun bt283 => (spec_l6Any.j2 k x1000 bt283.2.1 bt283.2.2 x264000 x264001 x264002 x264003 x264004 x264005 x264006 bt283.1)) else (if x11 = 5 then ((spec_l1Odd.f x1000 x1001 x1002).bind fun bt286 => (spec_l6Any.j2 k x1000 bt286.2.1 bt286.2.2 x264000 bt286.1 x264002 x264003 x264004 x264005 x264006 x264007)) else (spec_l6Any.j2 k x1000 x1001 x1002 x264000 x264001 x264002 x264003 x264004 x264005 x264006 x264007)))
end
def spec_l6Any.f (k : Nat) (s0_0 : List Int) (s0_1 : Int) (s0_2 : Int) : Option (ByteArray × Int × ByteArray × Int × Int × Int × Int × Int × Int × Int) := (spec_l6Name.f s0_0 s0_1 s0_2).bind fun bt247 => ((spec_l6Name.f s0_0 bt247.2.1 bt247.2.2).bind fun bt250 => ((spec_l6Nozzle.f s0_0 bt250.2.1 bt250.2.2 bt247.1 bt250.1).bind fun bt253 => ((spec_l1Below.f s0_0 bt253.2.2.2.2.2.2.2.2.1 bt253.2.2.2.2.2.2.2.2.2 9).bind fun bt264 => (if bt264.1 = 0 then (spec_l6Any.j0 k bt264.1 (bt264.1 == 0) s0_0 bt264.2.1 bt264.2.2 bt253.1 bt253.2.1 bt253.2.2.1 bt253.2.2.2.1 bt253.2.2.2.2.1 bt253.2.2.2.2.2.1 bt253.2.2.2.2.2.2.1 bt253.2.2.2.2.2.2.2.1) else (spec_l6Any.j0 k bt264.1 (bt264.1 == 1) s0_0 bt264.2.1 bt264.2.2 bt253.1 bt253.2.1 bt253.2.2.1 bt253.2.2.2.1 bt253.2.2.2.2.1 bt253.2.2.2.2.2.1 bt253.2.2.2.2.2.2.1 bt253.2.2.2.2.2.2.2.1)))))
theorem spec_l6Any.mono_l : ∀ k, (∀ y0 y1 y2 y3 y4 y5 y6 y7 y8 y9 y10, LeO (spec_l6Any.j2 k y0 y1 y2 y3 y4 y5 y6 y7 y8 y9 y10) (spec_l6Any.j2 (k + 1) y0 y1 y2 y3 y4 y5 y6 y7 y8 y9 y10)) ∧ (∀ y0 y1 y2 y3 y4 y5 y6 y7 y8 y9 y10 y11 y12, LeO (spec_l6Any.j0 k y0 y1 y2 y3 y4 y5 y6 y7 y8 y9 y10 y11 y12) (spec_l6Any.j0 (k + 1) y0 y1 y2 y3 y4 y5 y6 y7 y8 y9 y10 y11 y12)) ∧ (∀ y0 y1 y2 y3 y4 y5 y6 y7 y8 y9 y10 y11 y12, LeO (spec_l6Any.j1 k y0 y1 y2 y3 y4 y5 y6 y7 y8 y9 y10 y11 y12) (spec_l6Any.j1 (k + 1) y0 y1 y2 y3 y4 y5 y6 y7 y8 y9 y10 y11 y12))
 | 0 => ⟨fun _ _ _ _ _ _ _ _ _ _ _ r h => by simp [spec_l6Any.j2] at h, fun _ _ _ _ _ _ _ _ _ _ _ _ _ r h => by simp [spec_l6Any.j0] at h, fun _ _ _ _ _ _ _ _ _ _ _ _ _ r h => by simp [spec_l6Any.j1] at h⟩
 | k + 1 => by
  obtain ⟨ih0, ih1, ih2⟩ := spec_l6Any.mono_l k
  refine ⟨?_, ?_, ?_⟩
  ·intro y0 y1 y2 y3 y4 y5 y6 y7 y8 y9 y10
   unfold spec_l6Any.j2
   repeat' first
   | (with_reducible exact ih0 _ _ _ _ _ _ _ _ _ _ _)
   | (with_reducible exact ih1 _ _ _ _ _ _ _ _ _ _ _ _ _)
   | (with_reducible exact ih2 _ _ _ _ _ _ _ _ _ _ _ _ _)
   | (with_reducible exact spec_l2Any.mono _ _ _ _)
   | (with_reducible exact spec_l3Any.mono _ _ _ _)
   | (with_reducible exact LeO.refl _)
   | (with_reducible exact LeO.none _)
   | (with_reducible refine LeO.ite ?_ ?_)
   | (with_reducible refine LeO.bind ?_ (fun _ => ?_))
  ·intro y0 y1 y2 y3 y4 y5 y6 y7 y8 y9 y10 y11 y12
   unfold spec_l6Any.j0
   repeat' first
   | (with_reducible exact ih0 _ _ _ _ _ _ _ _ _ _ _)
   | (with_reducible exact ih1 _ _ _ _ _ _ _ _ _ _ _ _ _)
   | (with_reducible exact ih2 _ _ _ _ _ _ _ _ _ _ _ _ _)
   | (with_reducible exact spec_l2Any.mono _ _ _ _)
   | (with_reducible exact spec_l3Any.mono _ _ _ _)
   | (with_reducible exact LeO.refl _)
   | (with_reducible exact LeO.none _)
   | (with_reducible refine LeO.ite ?_ ?_)
   | (with_reducible refine LeO.bind ?_ (fun _ => ?_))
  ·intro y0 y1 y2 y3 y4 y5 y6 y7 y8 y9 y10 y11 y12
   unfold spec_l6Any.j1
   repeat' first
   | (with_reducible exact ih0 _ _ _ _ _ _ _ _ _ _ _)
   | (with_reducible exact ih1 _ _ _ _ _ _ _ _ _ _ _ _ _)
   | (with_reducible exact ih2 _ _ _ _ _ _ _ _ _ _ _ _ _)
   | (with_reducible exact spec_l2Any.mono _ _ _ _)
   | (with_reducible exact spec_l3Any.mono _ _ _ _)
   | (with_reducible exact LeO.refl _)
   | (with_reducible exact LeO.none _)
   | (with_reducible refine LeO.ite ?_ ?_)
   | (with_reducible refine LeO.bind ?_ (fun _ => ?_))
theorem spec_l6Any.mono : ∀ a0 a1 a2 k, LeO (spec_l6Any.f k a0 a1 a2) (spec_l6Any.f (k + 1) a0 a1 a2) := by
 intro a0 a1 a2 k
 obtain ⟨ih0, ih1, ih2⟩ := spec_l6Any.mono_l k
 unfold spec_l6Any.f
 repeat' first
   | (with_reducible exact ih0 _ _ _ _ _ _ _ _ _ _ _)
   | (with_reducible exact ih1 _ _ _ _ _ _ _ _ _ _ _ _ _)
   | (with_reducible exact ih2 _ _ _ _ _ _ _ _ _ _ _ _ _)
   | (with_reducible exact spec_l2Any.mono _ _ _ _)
   | (with_reducible exact spec_l3Any.mono _ _ _ _)
   | (with_reducible exact LeO.refl _)
   | (with_reducible exact LeO.none _)
   | (with_reducible refine LeO.ite ?_ ?_)
   | (with_reducible refine LeO.bind ?_ (fun _ => ?_))
theorem spec_l6Any.calls (k : Nat) (g : Nat) (s0_0 : List Int) (s0_1 : Int) (s0_2 : Int) (r1 : ByteArray) (r2 : Int) (r3 : ByteArray) (r4 : Int) (r5 : Int) (r6 : Int) (r7 : Int) (r8 : Int) (r9 : Int) (r10 : Int) (w0 w : World) (hI : IsS88 w0 w g s0_0 s0_1 s0_2) (hB : Below w0.heap.size w0 w) (h : spec_l6Any.f k s0_0 s0_1 s0_2 = some (r1, r2, r3, r4, r5, r6, r7, r8, r9, r10)) :
  Calls Tryd.prog 52 #[.pointer (some ⟨g, 0, none⟩)] w fun e w' => e = .returned (.agg #[.string r1, .int .i64 r2, .string r3, .int .i64 r4, .int .i64 r5, .int .i64 r6, .int .i64 r7, .int .i64 r8]) ∧ IsS88 w0 w' g s0_0 r9 r10 ∧ Below w0.heap.size w0 w' ∧ KeepBut w w' g none := by
 have hu79 := Tryd.underlying79   -- l6Any field
 have hu38 := Tryd.underlying38
 have hu36 := Tryd.underlying36
 have HI0 := am hI
 have HK := am (KeepBut.refl w g none)
 have HL := am hB.size
 clear hI
 have HW0 := am hB.size
 have HB := am hB
 clear hB
 have H : ((spec_l6Name.f s0_0 s0_1 s0_2).bind fun bt247 => ((spec_l6Name.f s0_0 bt247.2.1 bt247.2.2).bind fun bt250 => ((spec_l6Nozzle.f s0_0 bt250.2.1 bt250.2.2 bt247.1 bt250.1).bind fun bt253 => ((spec_l1Below.f s0_0 bt253.2.2.2.2.2.2.2.2.1 bt253.2.2.2.2.2.2.2.2.2 9).bind fun bt264 => (if bt264.1 = 0 then (spec_l6Any.j0 k bt264.1 (bt264.1 == 0) s0_0 bt264.2.1 bt264.2.2 bt253.1 bt253.2.1 bt253.2.2.1 bt253.2.2.2.1 bt253.2.2.2.2.1 bt253.2.2.2.2.2.1 bt253.2.2.2.2.2.2.1 bt253.2.2.2.2.2.2.2.1) else (spec_l6Any.j0 k bt264.1 (bt264.1 == 1) s0_0 bt264.2.1 bt264.2.2 bt253.1 bt253.2.1 bt253.2.2.1 bt253.2.2.2.1 bt253.2.2.2.2.1 bt253.2.2.2.2.2.1 bt253.2.2.2.2.2.2.1 bt253.2.2.2.2.2.2.2.1)))))) = some (r1, r2, r3, r4, r5, r6, r7, r8, r9, r10) := h
 clear h
 replace H := ob H
 obtain ⟨⟨t247, t248, t249⟩, A20, H⟩ := H
 replace H : ((spec_l6Name.f s0_0 t248 t249).bind fun bt250 => ((spec_l6Nozzle.f s0_0 bt250.2.1 bt250.2.2 t247 bt250.1).bind fun bt253 => ((spec_l1Below.f s0_0 bt253.2.2.2.2.2.2.2.2.1 bt253.2.2.2.2.2.2.2.2.2 9).bind fun bt264 => (if bt264.1 = 0 then (spec_l6Any.j0 k bt264.1 (bt264.1 == 0) s0_0 bt264.2.1 bt264.2.2 bt253.1 bt253.2.1 bt253.2.2.1 bt253.2.2.2.1 bt253.2.2.2.2.1 bt253.2.2.2.2.2.1 bt253.2.2.2.2.2.2.1 bt253.2.2.2.2.2.2.2.1) else (spec_l6Any.j0 k bt264.1 (bt264.1 == 1) s0_0 bt264.2.1 bt264.2.2 bt253.1 bt253.2.1 bt253.2.2.1 bt253.2.2.2.1 bt253.2.2.2.2.1 bt253.2.2.2.2.2.1 bt253.2.2.2.2.2.2.1 bt253.2.2.2.2.2.2.2.1))))) = some (r1, r2, r3, r4, r5, r6, r7, r8, r9, r10) := H
 have A2 := am A20
 clear A20
 replace H := ob H
 obtain ⟨⟨t250, t251, t252⟩, A30, H⟩ := H
 replace H : ((spec_l6Nozzle.f s0_0 t251 t252 t247 t250).bind fun bt253 => ((spec_l1Below.f s0_0 bt253.2.2.2.2.2.2.2.2.1 bt253.2.2.2.2.2.2.2.2.2 9).bind fun bt264 => (if bt264.1 = 0 then (spec_l6Any.j0 k bt264.1 (bt264.1 == 0) s0_0 bt264.2.1 bt264.2.2 bt253.1 bt253.2.1 bt253.2.2.1 bt253.2.2.2.1 bt253.2.2.2.2.1 bt253.2.2.2.2.2.1 bt253.2.2.2.2.2.2.1 bt253.2.2.2.2.2.2.2.1) else (spec_l6Any.j0 k bt264.1 (bt264.1 == 1) s0_0 bt264.2.1 bt264.2.2 bt253.1 bt253.2.1 bt253.2.2.1 bt253.2.2.2.1 bt253.2.2.2.2.1 bt253.2.2.2.2.2.1 bt253.2.2.2.2.2.2.1 bt253.2.2.2.2.2.2.2.1)))) = some (r1, r2, r3, r4, r5, r6, r7, r8, r9, r10) := H
 have A3 := am A30
 clear A30
 replace H := ob H
 obtain ⟨⟨t253, t254, t255, t256, t257, t258, t259, t260, t261, t262⟩, A40, H⟩ := H
 replace H : ((spec_l1Below.f s0_0 t261 t262 9).bind fun bt264 => (if bt264.1 = 0 then (spec_l6Any.j0 k bt264.1 (bt264.1 == 0) s0_0 bt264.2.1 bt264.2.2 t253 t254 t255 t256 t257 t258 t259 t260) else (spec_l6Any.j0 k bt264.1 (bt264.1 == 1) s0_0 bt264.2.1 bt264.2.2 t253 t254 t255 t256 t257 t258 t259 t260))) = some (r1, r2, r3, r4, r5, r6, r7, r8, r9, r10) := H
 have A4 := am A40
 clear A40
 replace H := ob H
 obtain ⟨⟨t264, t265, t266⟩, A50, H⟩ := H
 replace H : (if t264 = 0 then (spec_l6Any.j0 k t264 (t264 == 0) s0_0 t265 t266 t253 t254 t255 t256 t257 t258 t259 t260) else (spec_l6Any.j0 k t264 (t264 == 1) s0_0 t265 t266 t253 t254 t255 t256 t257 t258 t259 t260)) = some (r1, r2, r3, r4, r5, r6, r7, r8, r9, r10) := H
 have A5 := am A50
 clear A50
 have HC6 := am H
 clear H
 go_enter Tryd.func52, Tryd.ntmps52
 go_upto_block 0 with (first | ((with_reducible refine gate_dst (N := 2) rfl ?_); refine box_event ?hg (N := 2) ?hd (cs := #[.string (⟨#[]⟩ : ByteArray), .int .i64 0, .string (⟨#[]⟩ : ByteArray), .int .i64 0, .int .i64 0, .int .i64 0, .int .i64 0, .int .i64 0]) (t := 38) ?hr ?_; (case hd => rfl); (case hg => rfl); (case hr => exact gq); intro gb246 hg w7 hbox hb; have n0_ := am (IsS88.below u3_12 hb); have n1_ := am (KeepBut.trans u3_6 (KeepBut.of_below hb g none) (.inl rfl)); have n2_ := am (below_step u3_11 hb); have n3_ := am (hbox); have n4_ := am ((by rw [hg]; exact (keep_size (w := w) (g := g) (row := none) u3_6) : w.heap.size ≤ gb246)); have n5_ := am ((Nat.le_trans HW0.out (by rw [hg]; exact (keep_size (w := w) (g := g) (row := none) u3_6) : w.heap.size ≤ gb246) : w0.heap.size ≤ gb246)); have n6_ := am ((by rw [hg]; exact Nat.ne_of_lt (IsS88.lt (show IsS88 w0 _ g s0_0 s0_1 s0_2 from by repeat (first | (with_reducible first | exact HI0.out | apply IsS88.alloc | apply IsS88.drewN | apply IsS88.drew | apply IsS88.set_1 | apply IsS88.set_2) | exact HI0.out))) : g ≠ gb246)); have n7_ := am ((by rw [hg]; exact Nat.ne_of_gt (IsS88.lt (show IsS88 w0 _ g s0_0 s0_1 s0_2 from by repeat (first | (with_reducible first | exact HI0.out | apply IsS88.alloc | apply IsS88.drewN | apply IsS88.drew | apply IsS88.set_1 | apply IsS88.set_2) | exact HI0.out))) : gb246 ≠ g)); clear HI0 HK HB; have HI0 := n0_; have HK := n1_; have HB := n2_; have BK246 := n3_; have GW246 := n4_; have GE246 := n5_; have NB0_246 := n6_; have NB246_0 := n7_; clear n0_ n1_ n2_ n3_ n4_ n5_ n6_ n7_ hb hbox hg) | ((with_reducible refine gate_callee (f := 84) rfl ?_); refine goesL_ (some 6) rfl rfl Tryd.func84 (by kernel_rfl) rfl #[.pointer (some ⟨g, 0, none⟩)] rfl u3_5 ?_; (with_reducible refine (spec_l6Name.calls g s0_0 s0_1 s0_2 t247 t248 t249 w0 _ ?side1 ?side2 A2.out).mono ?_); (case side1 => exact s3_10); (case side2 => exact s3_12); rintro e w8 ⟨rfl, hi, hb, hk⟩; refine ⟨_, rfl, ?_⟩; have n0_ := am (KeepBut.blk hk (g' := gb246) (o := zo3 (⟨#[]⟩ : ByteArray) 0 (⟨#[]⟩ : ByteArray) 0 0 0 0 0) u3_8 NB246_0.out u3_22); have n1_ := am (KeepBut.trans u3_17 hk (.inl rfl)); have n2_ := am (hb); have n3_ := am (hi); clear BK246 HK HB HI0; have BK246 := n0_; have HK := n1_; have HB := n2_; have HI0 := n3_; clear n0_ n1_ n2_ n3_; (try clear hb); (try clear hb2); (try clear hk); (try clear hi)) | ((with_reducible refine gate_callee (f := 84) rfl ?_); refine goesL_ (some 8) rfl rfl Tryd.func84 (by kernel_rfl) rfl #[.pointer (some ⟨g, 0, none⟩)] rfl u3_5 ?_; (with_reducible refine (spec_l6Name.calls g s0_0 t248 t249 t250 t251 t252 w0 _ ?side1 ?side2 A3.out).mono ?_); (case side1 => exact s3_10); (case side2 => exact s3_12); rintro e w9 ⟨rfl, hi, hb, hk⟩; refine ⟨_, rfl, ?_⟩; have n0_ := am (KeepBut.blk hk (g' := gb246) (o := zo3 (⟨#[]⟩ : ByteArray) 0 (⟨#[]⟩ : ByteArray) 0 0 0 0 0) u3_8 NB246_0.out u3_22); have n1_ := am (KeepBut.trans u3_17 hk (.inl rfl)); have n2_ := am (hb); have n3_ := am (hi); clear BK246 HK HB HI0; have BK246 := n0_; have HK := n1_; have HB := n2_; have HI0 := n3_; clear n0_ n1_ n2_ n3_; (try clear hb); (try clear hb2); (try clear hk); (try clear hi)) | ((with_reducible refine gate_callee (f := 83) rfl ?_); refine goesL_ (some 9) rfl rfl Tryd.func83 (by kernel_rfl) rfl #[.pointer (some ⟨g, 0, none⟩), .string t247, .string t250] rfl u3_5 ?_; (with_reducible refine (spec_l6Nozzle.calls g s0_0 t251 t252 t247 t250 t253 t254 t255 t256 t257 t258 t259 t260 t261 t262 w0 _ ?side1 ?side2 A4.out).mono ?_); (case side1 => exact s3_10); (case side2 => exact s3_12); rintro e w10 ⟨rfl, hi, hb, hk⟩; refine ⟨_, rfl, ?_⟩; have n0_ := am (KeepBut.blk hk (g' := gb246) (o := zo3 (⟨#[]⟩ : ByteArray) 0 (⟨#[]⟩ : ByteArray) 0 0 0 0 0) u3_8 NB246_0.out u3_22); have n1_ := am (KeepBut.trans u3_17 hk (.inl rfl)); have n2_ := am (hb); have n3_ := am (hi); clear BK246 HK HB HI0; have BK246 := n0_; have HK := n1_; have HB := n2_; have HI0 := n3_; clear n0_ n1_ n2_ n3_; (try clear hb); (try clear hb2); (try clear hk); (try clear hi)) | ((with_reducible refine gate_dst (N := 3) rfl ?_); refine box_event ?hg (N := 3) ?hd (cs := #[.string (⟨#[]⟩ : ByteArray), .int .i64 0, .string (⟨#[]⟩ : ByteArray), .int .i64 0, .int .i64 0, .int .i64 0, .int .i64 0, .int .i64 0]) (t := 38) ?hr ?_; (case hd => rfl); (case hg => rfl); (case hr => exact gq); intro gb263 hg w11 hbox hb; have n0_ := am (IsS88.below (by repeat (first | (with_reducible first | exact HI0.out | apply IsS88.alloc | apply IsS88.drewN | apply IsS88.drew | apply IsS88.set_1 | apply IsS88.set_2 | refine IsS88.far ?_ NB0_246.out _) | exact HI0.out)) hb); have n1_ := am (blk_below (g := gb246) (o := zo3 (⟨#[]⟩ : ByteArray) 0 (⟨#[]⟩ : ByteArray) 0 0 0 0 0) u3_8 hb); have n2_ := am (KeepBut.trans u3_17 (KeepBut.of_below hb g none) (.inl rfl)); have n3_ := am (below_step (by repeat (first | (with_reducible first | exact HB.out | apply below_alloc | apply pw_below_drewN | apply below_drew1 | refine below_set ?_ (IsS88.ge HI0.out) | refine below_set ?_ GE246.out) | exact HB.out)) hb); have n4_ := am (hbox); have n5_ := am ((by rw [hg]; exact (keep_size (w := w) (g := g) (row := none) u3_17) : w.heap.size ≤ gb263)); have n6_ := am ((Nat.le_trans HW0.out (by rw [hg]; exact (keep_size (w := w) (g := g) (row := none) u3_17) : w.heap.size ≤ gb263) : w0.heap.size ≤ gb263)); have n7_ := am ((by rw [hg]; exact Nat.ne_of_lt (blk_lt (g := gb246) (o := zo3 (⟨#[]⟩ : ByteArray) 0 (⟨#[]⟩ : ByteArray) 0 0 0 0 0) u3_8) : gb246 ≠ gb263)); have n8_ := am ((by rw [hg]; exact Nat.ne_of_gt (blk_lt (g := gb246) (o := zo3 (⟨#[]⟩ : ByteArray) 0 (⟨#[]⟩ : ByteArray) 0 0 0 0 0) u3_8) : gb263 ≠ gb246)); have n9_ := am ((by rw [hg]; exact Nat.ne_of_lt (IsS88.lt (show IsS88 w0 _ g s0_0 t261 t262 from by repeat (first | (with_reducible first | exact HI0.out | apply IsS88.alloc | apply IsS88.drewN | apply IsS88.drew | apply IsS88.set_1 | apply IsS88.set_2 | refine IsS88.far ?_ NB0_246.out _) | exact HI0.out))) : g ≠ gb263)); have n10_ := am ((by rw [hg]; exact Nat.ne_of_gt (IsS88.lt (show IsS88 w0 _ g s0_0 t261 t262 from by repeat (first | (with_reducible first | exact HI0.out | apply IsS88.alloc | apply IsS88.drewN | apply IsS88.drew | apply IsS88.set_1 | apply IsS88.set_2 | refine IsS88.far ?_ NB0_246.out _) | exact HI0.out))) : gb263 ≠ g)); clear HI0 BK246 HK HB; have HI0 := n0_; have BK246 := n1_; have HK := n2_; have HB := n3_; have BK263 := n4_; have GW263 := n5_; have GE263 := n6_; have NB246_263 := n7_; have NB263_246 := n8_; have NB0_263 := n9_; have NB263_0 := n10_; clear n0_ n1_ n2_ n3_ n4_ n5_ n6_ n7_ n8_ n9_ n10_ hb hbox hg; have hnb12 := NB263_246.out; have hnc12 := NB246_263.out; have hnb13 := NB263_0.out; have hnc13 := NB0_263.out; obtain ⟨hcz14_0, hcz14_1, hcz14_2, hcz14_3, hcz14_4, hcz14_5, hcz14_6, hcz14_7, hfz14_0, hfz14_1, hfz14_2, hfz14_3, hfz14_4, hfz14_5, hfz14_6, hfz14_7⟩ := cf8 BK263.out) | ((with_reducible refine gate_callee (f := 46) rfl ?_); refine goesL_ (some 11) rfl rfl Tryd.func46 (by kernel_rfl) rfl #[.pointer (some ⟨g, 0, none⟩), .int .i64 9] rfl u3_5 ?_; (with_reducible refine (spec_l1Below.calls g s0_0 t261 t262 9 t264 t265 t266 w0 _ ?side1 ?side2 A5.out).mono ?_); (case side1 => exact s3_2); (case side2 => exact s3_5); rintro e w15 ⟨rfl, hi, hb, hk⟩; refine ⟨_, rfl, ?_⟩; have n0_ := am (KeepBut.blk hk (g' := gb246) (o := zo3 (⟨#[]⟩ : ByteArray) 0 (⟨#[]⟩ : ByteArray) 0 0 0 0 0) (by (with_reducible repeat (first | refine bN ?_ _ | refine bD ?_ | refine bA ?_ _)); refine blk_far ?_ NB246_263.out _; (with_reducible repeat (first | refine bN ?_ _ | refine bD ?_ | refine bA ?_ _)); refine blk_far ?_ NB246_263.out _; (with_reducible repeat (first | refine bN ?_ _ | refine bD ?_ | refine bA ?_ _)); refine blk_far ?_ NB246_263.out _; (with_reducible repeat (first | refine bN ?_ _ | refine bD ?_ | refine bA ?_ _)); refine blk_far ?_ NB246_263.out _; (with_reducible repeat (first | refine bN ?_ _ | refine bD ?_ | refine bA ?_ _)); refine blk_far ?_ NB246_263.out _; (with_reducible repeat (first | refine bN ?_ _ | refine bD ?_ | refine bA ?_ _)); refine blk_far ?_ NB246_263.out _; (with_reducible repeat (first | refine bN ?_ _ | refine bD ?_ | refine bA ?_ _)); refine blk_far ?_ NB246_263.out _; (with_reducible repeat (first | refine bN ?_ _ | refine bD ?_ | refine bA ?_ _)); refine blk_far ?_ NB246_263.out _; exact bd BK246.out) NB246_0.out u3_22); have n1_ := am (KeepBut.blk hk (g' := gb263) (o := zo3 t253 t254 t255 t256 t257 t258 t259 t260) (by (with_reducible repeat (first | refine bN ?_ _ | refine bD ?_ | refine bA ?_ _)); refine blk_put (cs := zr6 t253 t254 t255 t256 t257 t258 t259 0) ?_ 7 _ rfl; refine blk_put (cs := zr6 t253 t254 t255 t256 t257 t258 0 0) ?_ 6 _ rfl; refine blk_put (cs := zr6 t253 t254 t255 t256 t257 0 0 0) ?_ 5 _ rfl; refine blk_put (cs := zr6 t253 t254 t255 t256 0 0 0 0) ?_ 4 _ rfl; refine blk_put (cs := zr6 t253 t254 t255 0 0 0 0 0) ?_ 3 _ rfl; refine blk_put (cs := zr6 t253 t254 (⟨#[]⟩ : ByteArray) 0 0 0 0 0) ?_ 2 _ rfl; (with_reducible repeat (first | refine bN ?_ _ | refine bD ?_ | refine bA ?_ _)); refine blk_put (cs := zr6 t253 0 (⟨#[]⟩ : ByteArray) 0 0 0 0 0) ?_ 1 _ rfl; (with_reducible repeat (first | refine bN ?_ _ | refine bD ?_ | refine bA ?_ _)); refine blk_put (cs := zr6 (⟨#[]⟩ : ByteArray) 0 (⟨#[]⟩ : ByteArray) 0 0 0 0 0) ?_ 0 _ rfl; exact bd BK263.out) NB263_0.out u3_22); have n2_ := am (KeepBut.trans u3_7 hk (.inl rfl)); have n3_ := am (hb); have n4_ := am (hi); clear BK246 BK263 HK HB HI0; have BK246 := n0_; have BK263 := n1_; have HK := n2_; have HB := n3_; have HI0 := n4_; clear n0_ n1_ n2_ n3_ n4_; (try clear hb); (try clear hb2); (try clear hk); (try clear hi)))
 (try simp only [Act.put, List.setIfInBounds_toArray, List.set_cons_zero, List.set_cons_succ])
 go_cut [] (fun wc => ∃ (kq : Nat) (x1001_5 : Int) (x1002_5 : Int) (x264000_5 : ByteArray) (x264001_5 : Int) (x264002_5 : ByteArray) (x264003_5 : Int) (x264004_5 : Int) (x264005_5 : Int) (x264006_5 : Int) (x264007_5 : Int), Aside0 (spec_l6Any.j2 kq s0_0 x1001_5 x1002_5 x264000_5 x264001_5 x264002_5 x264003_5 x264004_5 x264005_5 x264006_5 x264007_5 = some (r1, r2, r3, r4, r5, r6, r7, r8, r9, r10)) ∧ Aside0 (kq ≤ k) ∧ Aside0 (wc.heap[gb246]? = some (.cells #[.string (⟨#[]⟩ : ByteArray), .int .i64 0, .string (⟨#[]⟩ : ByteArray), .int .i64 0, .int .i64 0, .int .i64 0, .int .i64 0, .int .i64 0] 38 (0, 0))) ∧ Aside0 (wc.heap[gb263]? = some (.cells #[.string x264000_5, .int .i64 x264001_5, .string x264002_5, .int .i64 x264003_5, .int .i64 x264004_5, .int .i64 x264005_5, .int .i64 x264006_5, .int .i64 x264007_5] 38 (0, 0))) ∧ Aside0 (IsS88 w0 wc g s0_0 x1001_5 x1002_5) ∧ Aside0 (KeepBut w wc g none) ∧ Aside0 (Below w0.heap.size w0 wc))
 case first =>
  have H := HC6.out
  clear HC6
  have HC16 := am H
  clear H
  go_upto_if 12 with (fail)
  go_cut [12] (fun v12 wc => ∃ (kq : Nat) (x12_15 : Bool), v12 = .bool x12_15 ∧ Aside0 (spec_l6Any.j0 kq t264 x12_15 s0_0 t265 t266 t253 t254 t255 t256 t257 t258 t259 t260 = some (r1, r2, r3, r4, r5, r6, r7, r8, r9, r10)) ∧ Aside0 (kq ≤ k) ∧ Aside0 (wc.heap[gb246]? = some (.cells #[.string (⟨#[]⟩ : ByteArray), .int .i64 0, .string (⟨#[]⟩ : ByteArray), .int .i64 0, .int .i64 0, .int .i64 0, .int .i64 0, .int .i64 0] 38 (0, 0))) ∧ Aside0 (wc.heap[gb263]? = some (.cells #[.string t253, .int .i64 t254, .string t255, .int .i64 t256, .int .i64 t257, .int .i64 t258, .int .i64 t259, .int .i64 t260] 38 (0, 0))) ∧ Aside0 (IsS88 w0 wc g s0_0 t265 t266) ∧ Aside0 (KeepBut w wc g none) ∧ Aside0 (Below w0.heap.size w0 wc))
  case first =>
   have H := HC16.out
   clear HC16
   by_cases c17 : t264 = 0
   ·rw [if_pos c17] at H
    have c17b0 : (t264 == 0) = true := beq_iff_eq.mpr c17
    have c17b1 : (t264 != 0) = false := bne_eq_false_iff_eq.mpr c17
    clear c17
    (first | rw [c17b0] | (simp only [i64_w, i32_w]; rw [c17b0]) | skip)
    have H' := am H
    clear H
    go_wp2
    go_meet
    case rel => exact ⟨_, ((t264 == 0)), (by first | rfl | (simp; done) | (simp [*]; done)), H', ⟨by first | omega | exact Nat.le_refl _⟩, ⟨bd BK246.out⟩, ⟨bd BK263.out⟩, ⟨s3_2⟩, ⟨s3_8⟩, ⟨s3_5⟩⟩
   ·rw [if_neg c17] at H
    have c17b0 : (t264 == 0) = false := beq_eq_false_iff_ne.mpr c17
    have c17b1 : (t264 != 0) = true := bne_iff_ne.mpr c17
    (first | rw [c17b0] | (simp only [i64_w, i32_w]; rw [c17b0]) | skip)
    have H' := am H
    clear H
    go_wp2
    go_meet
    case rel => exact ⟨_, ((t264 == 1)), (by first | rfl | (simp; done) | (simp [*]; done)), H', ⟨by first | omega | exact Nat.le_refl _⟩, ⟨bd BK246.out⟩, ⟨bd BK263.out⟩, ⟨s3_2⟩, ⟨s3_8⟩, ⟨s3_5⟩⟩
  case rest =>
   clear HC16
   try clear c1
   try clear p2
   try clear c4
   try clear c5
   try clear c8
   try clear c12
   try clear c13
   try clear c17
   try clear c17b0
   try clear c17b1
   try clear hcz14_0
   try clear hcz14_1
   try clear hcz14_2
   try clear hcz14_3
   try clear hcz14_4
   try clear hcz14_5
   try clear hcz14_6
   try clear hcz14_7
   try clear hfz14_0
   try clear hfz14_1
   try clear hfz14_2
   try clear hfz14_3
   try clear hfz14_4
   try clear hfz14_5
   try clear hfz14_6
   try clear hfz14_7
   obtain ⟨kq, x12_15, rfl, HA, HJ15, BK246, BK263, HI0, HK, HB⟩ := hcut
   cases kq with
   | zero => exact absurd HA.out (by simp [spec_l6Any.j0])
   | succ kj15 =>
    have H := HA.out
    clear HA
    simp only [spec_l6Any.j0] at H
    by_cases c18 : x12_15 = true
    ·subst c18
     have H1 : ((spec_l6Name.f s0_0 t265 t266).bind fun bt267 => ((spec_l1Below.f s0_0 bt267.2.1 bt267.2.2 600).bind fun bt270 => (spec_l6Any.j2 kj15 s0_0 bt270.2.1 bt270.2.2 bt267.1 1 (⟨#[]⟩ : ByteArray) 0 0 0 0 bt270.1))) = some (r1, r2, r3, r4, r5, r6, r7, r8, r9, r10) := by rw [if_pos rfl] at H; exact H
     clear H
     have H := H1
     clear H1
     replace H := ob H
     obtain ⟨⟨t267, t268, t269⟩, A190, H⟩ := H
     replace H : ((spec_l1Below.f s0_0 t268 t269 600).bind fun bt270 => (spec_l6Any.j2 kj15 s0_0 bt270.2.1 bt270.2.2 t267 1 (⟨#[]⟩ : ByteArray) 0 0 0 0 bt270.1)) = some (r1, r2, r3, r4, r5, r6, r7, r8, r9, r10) := H
     have A19 := am A190
     clear A190
     replace H := ob H
     obtain ⟨⟨t270, t271, t272⟩, A200, H⟩ := H
     replace H : (spec_l6Any.j2 kj15 s0_0 t271 t272 t267 1 (⟨#[]⟩ : ByteArray) 0 0 0 0 t270) = some (r1, r2, r3, r4, r5, r6, r7, r8, r9, r10) := H
     have A20 := am A200
     clear A200
     have H' := am H
     clear H
     go_wp2_with (first | ((with_reducible refine gate_callee (f := 84) rfl ?_); refine goesL_ (some 16) rfl rfl Tryd.func84 (by kernel_rfl) rfl #[.pointer (some ⟨g, 0, none⟩)] rfl u3_5 ?_; (with_reducible refine (spec_l6Name.calls g s0_0 t265 t266 t267 t268 t269 w0 _ ?side1 ?side2 A19.out).mono ?_); (case side1 => exact s3_2); (case side2 => exact s3_5); rintro e w21 ⟨rfl, hi, hb, hk⟩; refine ⟨_, rfl, ?_⟩; have n0_ := am (KeepBut.blk hk (g' := gb246) (o := zo3 (⟨#[]⟩ : ByteArray) 0 (⟨#[]⟩ : ByteArray) 0 0 0 0 0) u3_8 NB246_0.out u3_22); have n1_ := am (KeepBut.blk hk (g' := gb263) (o := zo3 t253 t254 t255 t256 t257 t258 t259 t260) u3_9 NB263_0.out u3_22); have n2_ := am (KeepBut.trans u3_7 hk (.inl rfl)); have n3_ := am (hb); have n4_ := am (hi); clear BK246 BK263 HK HB HI0; have BK246 := n0_; have BK263 := n1_; have HK := n2_; have HB := n3_; have HI0 := n4_; clear n0_ n1_ n2_ n3_ n4_; (try clear hb); (try clear hb2); (try clear hk); (try clear hi)) | ((with_reducible refine gate_callee (f := 46) rfl ?_); refine goesL_ (some 18) rfl rfl Tryd.func46 (by kernel_rfl) rfl #[.pointer (some ⟨g, 0, none⟩), .int .i64 600] rfl u3_5 ?_; (with_reducible refine (spec_l1Below.calls g s0_0 t268 t269 600 t270 t271 t272 w0 _ ?side1 ?side2 A20.out).mono ?_); (case side1 => exact s3_2); (case side2 => exact s3_5); rintro e w22 ⟨rfl, hi, hb, hk⟩; refine ⟨_, rfl, ?_⟩; have n0_ := am (KeepBut.blk hk (g' := gb246) (o := zo3 (⟨#[]⟩ : ByteArray) 0 (⟨#[]⟩ : ByteArray) 0 0 0 0 0) u3_8 NB246_0.out u3_22); have n1_ := am (KeepBut.blk hk (g' := gb263) (o := zo3 t253 t254 t255 t256 t257 t258 t259 t260) u3_9 NB263_0.out u3_22); have n2_ := am (KeepBut.trans u3_7 hk (.inl rfl)); have n3_ := am (hb); have n4_ := am (hi); clear BK246 BK263 HK HB HI0; have BK246 := n0_; have BK263 := n1_; have HK := n2_; have HB := n3_; have HI0 := n4_; clear n0_ n1_ n2_ n3_ n4_; (try clear hb); (try clear hb2); (try clear hk); (try clear hi); have hnb23 := NB263_246.out; have hnc23 := NB246_263.out; have hnb24 := NB263_0.out; have hnc24 := NB0_263.out; obtain ⟨hcz25_0, hcz25_1, hcz25_2, hcz25_3, hcz25_4, hcz25_5, hcz25_6, hcz25_7, hfz25_0, hfz25_1, hfz25_2, hfz25_3, hfz25_4, hfz25_5, hfz25_6, hfz25_7⟩ := cf8 BK263.out))
     go_meet
     case rel => exact ⟨_, (t271), (t272), (t267), (1), ((⟨#[]⟩ : ByteArray)), (0), (0), (0), (0), (t270), H', ⟨by have := HJ15.out; first | omega | exact Nat.le_refl _⟩, ⟨by (with_reducible repeat (first | refine bN ?_ _ | refine bD ?_ | refine bA ?_ _)); refine blk_far ?_ NB246_263.out _; (with_reducible repeat (first | refine bN ?_ _ | refine bD ?_ | refine bA ?_ _)); refine blk_far ?_ NB246_263.out _; (with_reducible repeat (first | refine bN ?_ _ | refine bD ?_ | refine bA ?_ _)); refine blk_far ?_ NB246_263.out _; (with_reducible repeat (first | refine bN ?_ _ | refine bD ?_ | refine bA ?_ _)); refine blk_far ?_ NB246_263.out _; (with_reducible repeat (first | refine bN ?_ _ | refine bD ?_ | refine bA ?_ _)); refine blk_far ?_ NB246_263.out _; (with_reducible repeat (first | refine bN ?_ _ | refine bD ?_ | refine bA ?_ _)); refine blk_far ?_ NB246_263.out _; (with_reducible repeat (first | refine bN ?_ _ | refine bD ?_ | refine bA ?_ _)); refine blk_far ?_ NB246_263.out _; (with_reducible repeat (first | refine bN ?_ _ | refine bD ?_ | refine bA ?_ _)); refine blk_far ?_ NB246_263.out _; exact bd BK246.out⟩, ⟨by (with_reducible repeat (first | refine bN ?_ _ | refine bD ?_ | refine bA ?_ _)); refine blk_put (cs := zr6 t267 1 (⟨#[]⟩ : ByteArray) 0 0 0 0 t260) ?_ 7 _ rfl; (with_reducible repeat (first | refine bN ?_ _ | refine bD ?_ | refine bA ?_ _)); refine blk_put (cs := zr6 t267 1 (⟨#[]⟩ : ByteArray) 0 0 0 t259 t260) ?_ 6 _ rfl; (with_reducible repeat (first | refine bN ?_ _ | refine bD ?_ | refine bA ?_ _)); refine blk_put (cs := zr6 t267 1 (⟨#[]⟩ : ByteArray) 0 0 t258 t259 t260) ?_ 5 _ rfl; (with_reducible repeat (first | refine bN ?_ _ | refine bD ?_ | refine bA ?_ _)); refine blk_put (cs := zr6 t267 1 (⟨#[]⟩ : ByteArray) 0 t257 t258 t259 t260) ?_ 4 _ rfl; (with_reducible repeat (first | refine bN ?_ _ | refine bD ?_ | refine bA ?_ _)); refine blk_put (cs := zr6 t267 1 (⟨#[]⟩ : ByteArray) t256 t257 t258 t259 t260) ?_ 3 _ rfl; (with_reducible repeat (first | refine bN ?_ _ | refine bD ?_ | refine bA ?_ _)); refine blk_put (cs := zr6 t267 1 t255 t256 t257 t258 t259 t260) ?_ 2 _ rfl; refine blk_put (cs := zr6 t267 t254 t255 t256 t257 t258 t259 t260) ?_ 1 _ rfl; refine blk_put (cs := zr6 t253 t254 t255 t256 t257 t258 t259 t260) ?_ 0 _ rfl; exact bd BK263.out⟩, ⟨s3_2⟩, ⟨s3_8⟩, ⟨s3_5⟩⟩
    ·replace c18 := Bool.eq_false_iff.mpr c18
     subst c18
     have H1 : (if t264 = 2 then (spec_l6Any.j1 kj15 t264 (t264 == 2) s0_0 t265 t266 t253 t254 t255 t256 t257 t258 t259 t260) else (spec_l6Any.j1 kj15 t264 (t264 == 3) s0_0 t265 t266 t253 t254 t255 t256 t257 t258 t259 t260)) = some (r1, r2, r3, r4, r5, r6, r7, r8, r9, r10) := by rw [if_neg (show ¬ (false = true) by decide)] at H; exact H
     clear H
     have H := H1
     clear H1
     have HC26 := am H
     clear H
     go_upto_if 20 with (fail)
     go_cut [20] (fun v20 wc => ∃ (kq : Nat) (x20_25 : Bool), v20 = .bool x20_25 ∧ Aside0 (spec_l6Any.j1 kq t264 x20_25 s0_0 t265 t266 t253 t254 t255 t256 t257 t258 t259 t260 = some (r1, r2, r3, r4, r5, r6, r7, r8, r9, r10)) ∧ Aside0 (kq ≤ kj15) ∧ Aside0 (wc.heap[gb246]? = some (.cells #[.string (⟨#[]⟩ : ByteArray), .int .i64 0, .string (⟨#[]⟩ : ByteArray), .int .i64 0, .int .i64 0, .int .i64 0, .int .i64 0, .int .i64 0] 38 (0, 0))) ∧ Aside0 (wc.heap[gb263]? = some (.cells #[.string t253, .int .i64 t254, .string t255, .int .i64 t256, .int .i64 t257, .int .i64 t258, .int .i64 t259, .int .i64 t260] 38 (0, 0))) ∧ Aside0 (IsS88 w0 wc g s0_0 t265 t266) ∧ Aside0 (KeepBut w wc g none) ∧ Aside0 (Below w0.heap.size w0 wc))
     case first =>
      have H := HC26.out
      clear HC26
      by_cases c27 : t264 = 2
      ·rw [if_pos c27] at H
       have c27b0 : (t264 == 2) = true := beq_iff_eq.mpr c27
       have c27b1 : (t264 != 2) = false := bne_eq_false_iff_eq.mpr c27
       clear c27
       (first | rw [c27b0] | (simp only [i64_w, i32_w]; rw [c27b0]) | skip)
       have H' := am H
       clear H
       go_wp2
       go_meet
       case rel => exact ⟨_, ((t264 == 2)), (by first | rfl | (simp; done) | (simp [*]; done)), H', ⟨by have := HJ15.out; first | omega | exact Nat.le_refl _⟩, ⟨bd BK246.out⟩, ⟨bd BK263.out⟩, ⟨s3_2⟩, ⟨s3_8⟩, ⟨s3_5⟩⟩
      ·rw [if_neg c27] at H
       have c27b0 : (t264 == 2) = false := beq_eq_false_iff_ne.mpr c27
       have c27b1 : (t264 != 2) = true := bne_iff_ne.mpr c27
       (first | rw [c27b0] | (simp only [i64_w, i32_w]; rw [c27b0]) | skip)
       have H' := am H
       clear H
       go_wp2
       go_meet
       case rel => exact ⟨_, ((t264 == 3)), (by first | rfl | (simp; done) | (simp [*]; done)), H', ⟨by have := HJ15.out; first | omega | exact Nat.le_refl _⟩, ⟨bd BK246.out⟩, ⟨bd BK263.out⟩, ⟨s3_2⟩, ⟨s3_8⟩, ⟨s3_5⟩⟩
     case rest =>
      clear HC26
      try clear c1
      try clear c2
      try clear p2
      try clear c4
      try clear c5
      try clear c8
      try clear c12
      try clear c13
      try clear c17
      try clear c17b0
      try clear c17b1
      try clear c18
      try clear c23
      try clear c24
      try clear c27
      try clear c27b0
      try clear c27b1
      try clear hcz14_0
      try clear hcz14_1
      try clear hcz14_2
      try clear hcz14_3
      try clear hcz14_4
      try clear hcz14_5
      try clear hcz14_6
      try clear hcz14_7
      try clear hcz25_0
      try clear hcz25_1
      try clear hcz25_2
      try clear hcz25_3
      try clear hcz25_4
      try clear hcz25_5
      try clear hcz25_6
      try clear hcz25_7
      try clear hfz14_0
      try clear hfz14_1
      try clear hfz14_2
      try clear hfz14_3
      try clear hfz14_4
      try clear hfz14_5
      try clear hfz14_6
      try clear hfz14_7
      try clear hfz25_0
      try clear hfz25_1
      try clear hfz25_2
      try clear hfz25_3
      try clear hfz25_4
      try clear hfz25_5
      try clear hfz25_6
      try clear hfz25_7
      try clear p2
      obtain ⟨kq, x20_25, rfl, HA, HJ25, BK246, BK263, HI0, HK, HB⟩ := hcut
      cases kq with
      | zero => exact absurd HA.out (by simp [spec_l6Any.j1])
      | succ kj25 =>
       have H := HA.out
       clear HA
       simp only [spec_l6Any.j1] at H
       by_cases c28 : x20_25 = true
       ·subst c28
        have H1 : ((spec_l6Name.f s0_0 t265 t266).bind fun bt273 => ((spec_l6Name.f s0_0 bt273.2.1 bt273.2.2).bind fun bt276 => ((spec_l2Any.f kj25 s0_0 bt276.2.1 bt276.2.2).bind fun bt279 => (spec_l6Any.j2 kj25 s0_0 bt279.2.2.1 bt279.2.2.2 bt273.1 3 bt276.1 bt279.1 bt279.2.1 0 0 0)))) = some (r1, r2, r3, r4, r5, r6, r7, r8, r9, r10) := by rw [if_pos rfl] at H; exact H
        clear H
        have H := H1
        clear H1
        replace H := ob H
        obtain ⟨⟨t273, t274, t275⟩, A290, H⟩ := H
        replace H : ((spec_l6Name.f s0_0 t274 t275).bind fun bt276 => ((spec_l2Any.f kj25 s0_0 bt276.2.1 bt276.2.2).bind fun bt279 => (spec_l6Any.j2 kj25 s0_0 bt279.2.2.1 bt279.2.2.2 t273 3 bt276.1 bt279.1 bt279.2.1 0 0 0))) = some (r1, r2, r3, r4, r5, r6, r7, r8, r9, r10) := H
        have A29 := am A290
        clear A290
        replace H := ob H
        obtain ⟨⟨t276, t277, t278⟩, A300, H⟩ := H
        replace H : ((spec_l2Any.f kj25 s0_0 t277 t278).bind fun bt279 => (spec_l6Any.j2 kj25 s0_0 bt279.2.2.1 bt279.2.2.2 t273 3 t276 bt279.1 bt279.2.1 0 0 0)) = some (r1, r2, r3, r4, r5, r6, r7, r8, r9, r10) := H
        have A30 := am A300
        clear A300
        replace H := ob H
        obtain ⟨⟨t279, t280, t281, t282⟩, A310, H⟩ := H
        replace H : (spec_l6Any.j2 kj25 s0_0 t281 t282 t273 3 t276 t279 t280 0 0 0) = some (r1, r2, r3, r4, r5, r6, r7, r8, r9, r10) := H
        have A31 := am A310
        clear A310
        have H' := am H
        clear H
        go_wp2_with (first | ((with_reducible refine gate_callee (f := 84) rfl ?_); refine goesL_ (some 24) rfl rfl Tryd.func84 (by kernel_rfl) rfl #[.pointer (some ⟨g, 0, none⟩)] rfl u3_5 ?_; (with_reducible refine (spec_l6Name.calls g s0_0 t265 t266 t273 t274 t275 w0 _ ?side1 ?side2 A29.out).mono ?_); (case side1 => exact s3_2); (case side2 => exact s3_5); rintro e w32 ⟨rfl, hi, hb, hk⟩; refine ⟨_, rfl, ?_⟩; have n0_ := am (KeepBut.blk hk (g' := gb246) (o := zo3 (⟨#[]⟩ : ByteArray) 0 (⟨#[]⟩ : ByteArray) 0 0 0 0 0) u3_8 NB246_0.out u3_22); have n1_ := am (KeepBut.blk hk (g' := gb263) (o := zo3 t253 t254 t255 t256 t257 t258 t259 t260) u3_9 NB263_0.out u3_22); have n2_ := am (KeepBut.trans u3_7 hk (.inl rfl)); have n3_ := am (hb); have n4_ := am (hi); clear BK246 BK263 HK HB HI0; have BK246 := n0_; have BK263 := n1_; have HK := n2_; have HB := n3_; have HI0 := n4_; clear n0_ n1_ n2_ n3_ n4_; (try clear hb); (try clear hb2); (try clear hk); (try clear hi)) | ((with_reducible refine gate_callee (f := 84) rfl ?_); refine goesL_ (some 26) rfl rfl Tryd.func84 (by kernel_rfl) rfl #[.pointer (some ⟨g, 0, none⟩)] rfl u3_5 ?_; (with_reducible refine (spec_l6Name.calls g s0_0 t274 t275 t276 t277 t278 w0 _ ?side1 ?side2 A30.out).mono ?_); (case side1 => exact s3_2); (case side2 => exact s3_5); rintro e w33 ⟨rfl, hi, hb, hk⟩; refine ⟨_, rfl, ?_⟩; have n0_ := am (KeepBut.blk hk (g' := gb246) (o := zo3 (⟨#[]⟩ : ByteArray) 0 (⟨#[]⟩ : ByteArray) 0 0 0 0 0) u3_8 NB246_0.out u3_22); have n1_ := am (KeepBut.blk hk (g' := gb263) (o := zo3 t253 t254 t255 t256 t257 t258 t259 t260) u3_9 NB263_0.out u3_22); have n2_ := am (KeepBut.trans u3_7 hk (.inl rfl)); have n3_ := am (hb); have n4_ := am (hi); clear BK246 BK263 HK HB HI0; have BK246 := n0_; have BK263 := n1_; have HK := n2_; have HB := n3_; have HI0 := n4_; clear n0_ n1_ n2_ n3_ n4_; (try clear hb); (try clear hb2); (try clear hk); (try clear hi)) | ((with_reducible refine gate_callee (f := 85) rfl ?_); refine goesL_ (some 28) rfl rfl Tryd.func85 (by kernel_rfl) rfl #[.pointer (some ⟨g, 0, none⟩)] rfl u3_5 ?_; (with_reducible refine (spec_l2Any.calls kj25 g s0_0 t277 t278 t279 t280 t281 t282 w0 _ ?side1 ?side2 A31.out).mono ?_); (case side1 => exact s3_2); (case side2 => exact s3_5); rintro e w34 ⟨rfl, hi, hb, hk⟩; refine ⟨_, rfl, ?_⟩; have n0_ := am (KeepBut.blk hk (g' := gb246) (o := zo3 (⟨#[]⟩ : ByteArray) 0 (⟨#[]⟩ : ByteArray) 0 0 0 0 0) u3_8 NB246_0.out u3_22); have n1_ := am (KeepBut.blk hk (g' := gb263) (o := zo3 t253 t254 t255 t256 t257 t258 t259 t260) u3_9 NB263_0.out u3_22); have n2_ := am (KeepBut.trans u3_7 hk (.inl rfl)); have n3_ := am (hb); have n4_ := am (hi); clear BK246 BK263 HK HB HI0; have BK246 := n0_; have BK263 := n1_; have HK := n2_; have HB := n3_; have HI0 := n4_; clear n0_ n1_ n2_ n3_ n4_; (try clear hb); (try clear hb2); (try clear hk); (try clear hi); have hnb35 := NB263_246.out; have hnc35 := NB246_263.out; have hnb36 := NB263_0.out; have hnc36 := NB0_263.out; obtain ⟨hcz37_0, hcz37_1, hcz37_2, hcz37_3, hcz37_4, hcz37_5, hcz37_6, hcz37_7, hfz37_0, hfz37_1, hfz37_2, hfz37_3, hfz37_4, hfz37_5, hfz37_6, hfz37_7⟩ := cf8 BK263.out))
        go_meet
        case rel => exact ⟨_, (t281), (t282), (t273), (3), (t276), (t279), (t280), (0), (0), (0), H', ⟨by have := HJ15.out; have := HJ25.out; first | omega | exact Nat.le_refl _⟩, ⟨by (with_reducible repeat (first | refine bN ?_ _ | refine bD ?_ | refine bA ?_ _)); refine blk_far ?_ NB246_263.out _; (with_reducible repeat (first | refine bN ?_ _ | refine bD ?_ | refine bA ?_ _)); refine blk_far ?_ NB246_263.out _; (with_reducible repeat (first | refine bN ?_ _ | refine bD ?_ | refine bA ?_ _)); refine blk_far ?_ NB246_263.out _; (with_reducible repeat (first | refine bN ?_ _ | refine bD ?_ | refine bA ?_ _)); refine blk_far ?_ NB246_263.out _; (with_reducible repeat (first | refine bN ?_ _ | refine bD ?_ | refine bA ?_ _)); refine blk_far ?_ NB246_263.out _; (with_reducible repeat (first | refine bN ?_ _ | refine bD ?_ | refine bA ?_ _)); refine blk_far ?_ NB246_263.out _; (with_reducible repeat (first | refine bN ?_ _ | refine bD ?_ | refine bA ?_ _)); refine blk_far ?_ NB246_263.out _; (with_reducible repeat (first | refine bN ?_ _ | refine bD ?_ | refine bA ?_ _)); refine blk_far ?_ NB246_263.out _; exact bd BK246.out⟩, ⟨by (with_reducible repeat (first | refine bN ?_ _ | refine bD ?_ | refine bA ?_ _)); refine blk_put (cs := zr6 t273 3 t276 t279 t280 0 0 t260) ?_ 7 _ rfl; refine blk_put (cs := zr6 t273 3 t276 t279 t280 0 t259 t260) ?_ 6 _ rfl; refine blk_put (cs := zr6 t273 3 t276 t279 t280 t258 t259 t260) ?_ 5 _ rfl; refine blk_put (cs := zr6 t273 3 t276 t279 t257 t258 t259 t260) ?_ 4 _ rfl; refine blk_put (cs := zr6 t273 3 t276 t256 t257 t258 t259 t260) ?_ 3 _ rfl; refine blk_put (cs := zr6 t273 3 t255 t256 t257 t258 t259 t260) ?_ 2 _ rfl; refine blk_put (cs := zr6 t273 t254 t255 t256 t257 t258 t259 t260) ?_ 1 _ rfl; refine blk_put (cs := zr6 t253 t254 t255 t256 t257 t258 t259 t260) ?_ 0 _ rfl; exact bd BK263.out⟩, ⟨s3_2⟩, ⟨s3_8⟩, ⟨s3_5⟩⟩
       ·replace c28 := Bool.eq_false_iff.mpr c28
        subst c28
        have H1 : (if t264 = 4 then ((spec_l1Odd.f s0_0 t265 t266).bind fun bt283 => (spec_l6Any.j2 kj25 s0_0 bt283.2.1 bt283.2.2 t253 t254 t255 t256 t257 t258 t259 bt283.1)) else (if t264 = 5 then ((spec_l1Odd.f s0_0 t265 t266).bind fun bt286 => (spec_l6Any.j2 kj25 s0_0 bt286.2.1 bt286.2.2 t253 bt286.1 t255 t256 t257 t258 t259 t260)) else (spec_l6Any.j2 kj25 s0_0 t265 t266 t253 t254 t255 t256 t257 t258 t259 t260))) = some (r1, r2, r3, r4, r5, r6, r7, r8, r9, r10) := by rw [if_neg (show ¬ (false = true) by decide)] at H; exact H
        clear H
        have H := H1
        clear H1
        by_cases c38 : t264 = 4
        ·rw [if_pos c38] at H
         have c38b0 : (t264 == 4) = true := beq_iff_eq.mpr c38
         have c38b1 : (t264 != 4) = false := bne_eq_false_iff_eq.mpr c38
         clear c38
         replace H := ob H
         obtain ⟨⟨t283, t284, t285⟩, A390, H⟩ := H
         replace H : (spec_l6Any.j2 kj25 s0_0 t284 t285 t253 t254 t255 t256 t257 t258 t259 t283) = some (r1, r2, r3, r4, r5, r6, r7, r8, r9, r10) := H
         have A39 := am A390
         clear A390
         have H' := am H
         clear H
         go_wp2_with (first | ((with_reducible refine gate_callee (f := 70) rfl ?_); refine goesL_ (some 33) rfl rfl Tryd.func70 (by kernel_rfl) rfl #[.pointer (some ⟨g, 0, none⟩)] rfl u3_5 ?_; (with_reducible refine (spec_l1Odd.calls g s0_0 t265 t266 t283 t284 t285 w0 _ ?side1 ?side2 A39.out).mono ?_); (case side1 => exact s3_2); (case side2 => exact s3_5); rintro e w40 ⟨rfl, hi, hb, hk⟩; refine ⟨_, rfl, ?_⟩; have n0_ := am (KeepBut.blk hk (g' := gb246) (o := zo3 (⟨#[]⟩ : ByteArray) 0 (⟨#[]⟩ : ByteArray) 0 0 0 0 0) u3_8 NB246_0.out u3_22); have n1_ := am (KeepBut.blk hk (g' := gb263) (o := zo3 t253 t254 t255 t256 t257 t258 t259 t260) u3_9 NB263_0.out u3_22); have n2_ := am (KeepBut.trans u3_7 hk (.inl rfl)); have n3_ := am (hb); have n4_ := am (hi); clear BK246 BK263 HK HB HI0; have BK246 := n0_; have BK263 := n1_; have HK := n2_; have HB := n3_; have HI0 := n4_; clear n0_ n1_ n2_ n3_ n4_; (try clear hb); (try clear hb2); (try clear hk); (try clear hi); have hnb41 := NB263_246.out; have hnc41 := NB246_263.out; have hnb42 := NB263_0.out; have hnc42 := NB0_263.out; obtain ⟨hcz43_0, hcz43_1, hcz43_2, hcz43_3, hcz43_4, hcz43_5, hcz43_6, hcz43_7, hfz43_0, hfz43_1, hfz43_2, hfz43_3, hfz43_4, hfz43_5, hfz43_6, hfz43_7⟩ := cf8 BK263.out))
         go_meet
         case rel => exact ⟨_, (t284), (t285), (t253), (t254), (t255), (t256), (t257), (t258), (t259), (t283), H', ⟨by have := HJ15.out; have := HJ25.out; first | omega | exact Nat.le_refl _⟩, ⟨by (with_reducible repeat (first | refine bN ?_ _ | refine bD ?_ | refine bA ?_ _)); refine blk_far ?_ NB246_263.out _; exact bd BK246.out⟩, ⟨by (with_reducible repeat (first | refine bN ?_ _ | refine bD ?_ | refine bA ?_ _)); refine blk_put (cs := zr6 t253 t254 t255 t256 t257 t258 t259 t260) ?_ 7 _ rfl; exact bd BK263.out⟩, ⟨s3_2⟩, ⟨s3_8⟩, ⟨s3_5⟩⟩
        ·rw [if_neg c38] at H
         have c38b0 : (t264 == 4) = false := beq_eq_false_iff_ne.mpr c38
         have c38b1 : (t264 != 4) = true := bne_iff_ne.mpr c38
         by_cases c44 : t264 = 5
         ·rw [if_pos c44] at H
          have c44b0 : (t264 == 5) = true := beq_iff_eq.mpr c44
          have c44b1 : (t264 != 5) = false := bne_eq_false_iff_eq.mpr c44
          clear c44
          replace H := ob H
          obtain ⟨⟨t286, t287, t288⟩, A450, H⟩ := H
          replace H : (spec_l6Any.j2 kj25 s0_0 t287 t288 t253 t286 t255 t256 t257 t258 t259 t260) = some (r1, r2, r3, r4, r5, r6, r7, r8, r9, r10) := H
          have A45 := am A450
          clear A450
          have H' := am H
          clear H
          go_wp2_with (first | ((with_reducible refine gate_callee (f := 70) rfl ?_); refine goesL_ (some 38) rfl rfl Tryd.func70 (by kernel_rfl) rfl #[.pointer (some ⟨g, 0, none⟩)] rfl u3_5 ?_; (with_reducible refine (spec_l1Odd.calls g s0_0 t265 t266 t286 t287 t288 w0 _ ?side1 ?side2 A45.out).mono ?_); (case side1 => exact s3_2); (case side2 => exact s3_5); rintro e w46 ⟨rfl, hi, hb, hk⟩; refine ⟨_, rfl, ?_⟩; have n0_ := am (KeepBut.blk hk (g' := gb246) (o := zo3 (⟨#[]⟩ : ByteArray) 0 (⟨#[]⟩ : ByteArray) 0 0 0 0 0) u3_8 NB246_0.out u3_22); have n1_ := am (KeepBut.blk hk (g' := gb263) (o := zo3 t253 t254 t255 t256 t257 t258 t259 t260) u3_9 NB263_0.out u3_22); have n2_ := am (KeepBut.trans u3_7 hk (.inl rfl)); have n3_ := am (hb); have n4_ := am (hi); clear BK246 BK263 HK HB HI0; have BK246 := n0_; have BK263 := n1_; have HK := n2_; have HB := n3_; have HI0 := n4_; clear n0_ n1_ n2_ n3_ n4_; (try clear hb); (try clear hb2); (try clear hk); (try clear hi); have hnb47 := NB263_246.out; have hnc47 := NB246_263.out; have hnb48 := NB263_0.out; have hnc48 := NB0_263.out; obtain ⟨hcz49_0, hcz49_1, hcz49_2, hcz49_3, hcz49_4, hcz49_5, hcz49_6, hcz49_7, hfz49_0, hfz49_1, hfz49_2, hfz49_3, hfz49_4, hfz49_5, hfz49_6, hfz49_7⟩ := cf8 BK263.out))
          go_meet
          case rel => exact ⟨_, (t287), (t288), (t253), (t286), (t255), (t256), (t257), (t258), (t259), (t260), H', ⟨by have := HJ15.out; have := HJ25.out; first | omega | exact Nat.le_refl _⟩, ⟨by (with_reducible repeat (first | refine bN ?_ _ | refine bD ?_ | refine bA ?_ _)); refine blk_far ?_ NB246_263.out _; exact bd BK246.out⟩, ⟨by (with_reducible repeat (first | refine bN ?_ _ | refine bD ?_ | refine bA ?_ _)); refine blk_put (cs := zr6 t253 t254 t255 t256 t257 t258 t259 t260) ?_ 1 _ rfl; exact bd BK263.out⟩, ⟨s3_2⟩, ⟨s3_8⟩, ⟨s3_5⟩⟩
         ·rw [if_neg c44] at H
          have c44b0 : (t264 == 5) = false := beq_eq_false_iff_ne.mpr c44
          have c44b1 : (t264 != 5) = true := bne_iff_ne.mpr c44
          have H' := am H
          clear H
          go_wp2
          go_meet
          case rel => exact ⟨_, (t265), (t266), (t253), (t254), (t255), (t256), (t257), (t258), (t259), (t260), H', ⟨by have := HJ15.out; have := HJ25.out; first | omega | exact Nat.le_refl _⟩, ⟨bd BK246.out⟩, ⟨bd BK263.out⟩, ⟨s3_2⟩, ⟨s3_8⟩, ⟨s3_5⟩⟩
 case rest =>
  clear HC6
  try clear c1
  try clear c2
  try clear p2
  try clear c3
  try clear c4
  try clear c5
  try clear c7
  try clear c8
  try clear c12
  try clear c13
  try clear c17
  try clear c17b0
  try clear c17b1
  try clear c18
  try clear c23
  try clear c24
  try clear c27
  try clear c27b0
  try clear c27b1
  try clear c28
  try clear c35
  try clear c36
  try clear c38
  try clear c38b0
  try clear c38b1
  try clear c41
  try clear c42
  try clear c44
  try clear c44b0
  try clear c44b1
  try clear c46
  try clear c47
  try clear c48
  try clear hcz14_0
  try clear hcz14_1
  try clear hcz14_2
  try clear hcz14_3
  try clear hcz14_4
  try clear hcz14_5
  try clear hcz14_6
  try clear hcz14_7
  try clear hcz25_0
  try clear hcz25_1
  try clear hcz25_2
  try clear hcz25_3
  try clear hcz25_4
  try clear hcz25_5
  try clear hcz25_6
  try clear hcz25_7
  try clear hcz37_0
  try clear hcz37_1
  try clear hcz37_2
  try clear hcz37_3
  try clear hcz37_4
  try clear hcz37_5
  try clear hcz37_6
  try clear hcz37_7
  try clear hcz43_0
  try clear hcz43_1
  try clear hcz43_2
  try clear hcz43_3
  try clear hcz43_4
  try clear hcz43_5
  try clear hcz43_6
  try clear hcz43_7
  try clear hcz49_0
  try clear hcz49_1
  try clear hcz49_2
  try clear hcz49_3
  try clear hcz49_4
  try clear hcz49_5
  try clear hcz49_6
  try clear hcz49_7
  try clear hfz14_0
  try clear hfz14_1
  try clear hfz14_2
  try clear hfz14_3
  try clear hfz14_4
  try clear hfz14_5
  try clear hfz14_6
  try clear hfz14_7
  try clear hfz25_0
  try clear hfz25_1
  try clear hfz25_2
  try clear hfz25_3
  try clear hfz25_4
  try clear hfz25_5
  try clear hfz25_6
  try clear hfz25_7
  try clear hfz37_0
  try clear hfz37_1
  try clear hfz37_2
  try clear hfz37_3
  try clear hfz37_4
  try clear hfz37_5
  try clear hfz37_6
  try clear hfz37_7
  try clear hfz43_0
  try clear hfz43_1
  try clear hfz43_2
  try clear hfz43_3
  try clear hfz43_4
  try clear hfz43_5
  try clear hfz43_6
  try clear hfz43_7
  try clear hfz49_0
  try clear hfz49_1
  try clear hfz49_2
  try clear hfz49_3
  try clear hfz49_4
  try clear hfz49_5
  try clear hfz49_6
  try clear hfz49_7
  try clear p2
  obtain ⟨kq, x1001_5, x1002_5, x264000_5, x264001_5, x264002_5, x264003_5, x264004_5, x264005_5, x264006_5, x264007_5, HA, HJ5, BK246, BK263, HI0, HK, HB⟩ := hcut
  cases kq with
  | zero => exact absurd HA.out (by simp [spec_l6Any.j2])
  | succ kj5 =>
   have H := HA.out
   clear HA
   simp only [spec_l6Any.j2] at H
   replace H := ob H
   obtain ⟨⟨t289, t290, t291⟩, A500, H⟩ := H
   replace H : (if t289 = 0 then ((spec_l1Word.f s0_0 t290 t291).bind fun bt292 => (some (bt292.1, x264001_5, x264002_5, x264003_5, x264004_5, x264005_5, x264006_5, x264007_5, bt292.2.1, bt292.2.2))) else (if t289 = 1 then ((spec_l1Odd.f s0_0 t290 t291).bind fun bt295 => (some (x264000_5, x264001_5, x264002_5, x264003_5, x264004_5, x264005_5, bt295.1, x264007_5, bt295.2.1, bt295.2.2))) else (if t289 = 2 then ((spec_l3Any.f kj5 s0_0 t290 t291).bind fun bt298 => (some (x264000_5, x264001_5, x264002_5, bt298.1, bt298.2.1, x264005_5, x264006_5, x264007_5, bt298.2.2.2.2.2.1, bt298.2.2.2.2.2.2))) else (some (x264000_5, x264001_5, x264002_5, x264003_5, x264004_5, x264005_5, x264006_5, x264007_5, t290, t291))))) = some (r1, r2, r3, r4, r5, r6, r7, r8, r9, r10) := H
   have A50 := am A500
   clear A500
   by_cases c51 : t289 = 0
   ·rw [if_pos c51] at H
    have c51b0 : (t289 == 0) = true := beq_iff_eq.mpr c51
    have c51b1 : (t289 != 0) = false := bne_eq_false_iff_eq.mpr c51
    clear c51
    replace H := ob H
    obtain ⟨⟨t292, t293, t294⟩, A520, H⟩ := H
    replace H : (some (t292, x264001_5, x264002_5, x264003_5, x264004_5, x264005_5, x264006_5, x264007_5, t293, t294)) = some (r1, r2, r3, r4, r5, r6, r7, r8, r9, r10) := H
    have A52 := am A520
    clear A520
    simp only [Option.some.injEq, Prod.mk.injEq] at H
    obtain ⟨rfl, rfl, rfl, rfl, rfl, rfl, rfl, rfl, rfl, rfl⟩ := H
    go_wp2_with (first | ((with_reducible refine gate_callee (f := 46) rfl ?_); refine goesL_ (some 41) rfl rfl Tryd.func46 (by kernel_rfl) rfl #[.pointer (some ⟨g, 0, none⟩), .int .i64 12] rfl u3_5 ?_; (with_reducible refine (spec_l1Below.calls g s0_0 x1001_5 x1002_5 12 t289 t290 t291 w0 _ ?side1 ?side2 A50.out).mono ?_); (case side1 => exact s3_2); (case side2 => exact s3_5); rintro e w53 ⟨rfl, hi, hb, hk⟩; refine ⟨_, rfl, ?_⟩; have n0_ := am (KeepBut.blk hk (g' := gb246) (o := zo3 (⟨#[]⟩ : ByteArray) 0 (⟨#[]⟩ : ByteArray) 0 0 0 0 0) u3_8 NB246_0.out u3_22); have n1_ := am (KeepBut.blk hk (g' := gb263) (o := zo3 x264000_5 x264001_5 x264002_5 x264003_5 x264004_5 x264005_5 x264006_5 x264007_5) u3_9 NB263_0.out u3_22); have n2_ := am (KeepBut.trans u3_7 hk (.inl rfl)); have n3_ := am (hb); have n4_ := am (hi); clear BK246 BK263 HK HB HI0; have BK246 := n0_; have BK263 := n1_; have HK := n2_; have HB := n3_; have HI0 := n4_; clear n0_ n1_ n2_ n3_ n4_; (try clear hb); (try clear hb2); (try clear hk); (try clear hi)) | ((with_reducible refine gate_callee (f := 71) rfl ?_); refine goesL_ (some 45) rfl rfl Tryd.func71 (by kernel_rfl) rfl #[.pointer (some ⟨g, 0, none⟩)] rfl u3_5 ?_; (with_reducible refine (spec_l1Word.calls g s0_0 t290 t291 t292 t293 t294 w0 _ ?side1 ?side2 A52.out).mono ?_); (case side1 => exact s3_2); (case side2 => exact s3_5); rintro e w54 ⟨rfl, hi, hb, hk⟩; refine ⟨_, rfl, ?_⟩; have n0_ := am (KeepBut.blk hk (g' := gb246) (o := zo3 (⟨#[]⟩ : ByteArray) 0 (⟨#[]⟩ : ByteArray) 0 0 0 0 0) u3_8 NB246_0.out u3_22); have n1_ := am (KeepBut.blk hk (g' := gb263) (o := zo3 x264000_5 x264001_5 x264002_5 x264003_5 x264004_5 x264005_5 x264006_5 x264007_5) u3_9 NB263_0.out u3_22); have n2_ := am (KeepBut.trans u3_7 hk (.inl rfl)); have n3_ := am (hb); have n4_ := am (hi); clear BK246 BK263 HK HB HI0; have BK246 := n0_; have BK263 := n1_; have HK := n2_; have HB := n3_; have HI0 := n4_; clear n0_ n1_ n2_ n3_ n4_; (try clear hb); (try clear hb2); (try clear hk); (try clear hi); have hnb55 := NB263_246.out; have hnc55 := NB246_263.out; have hnb56 := NB263_0.out; have hnc56 := NB0_263.out; obtain ⟨hcz57_0, hcz57_1, hcz57_2, hcz57_3, hcz57_4, hcz57_5, hcz57_6, hcz57_7, hfz57_0, hfz57_1, hfz57_2, hfz57_3, hfz57_4, hfz57_5, hfz57_6, hfz57_7⟩ := cf8 BK263.out; have hnb58 := NB246_0.out; have hnc58 := NB0_246.out; obtain ⟨hcz59_0, hcz59_1, hcz59_2, hcz59_3, hcz59_4, hcz59_5, hcz59_6, hcz59_7, hfz59_0, hfz59_1, hfz59_2, hfz59_3, hfz59_4, hfz59_5, hfz59_6, hfz59_7⟩ := cf8 BK246.out))
    refine bodyPost_ret (results_cell_row rfl _ _ gb246 38 #[.string t292, .int .i64 x264001_5, .string x264002_5, .int .i64 x264003_5, .int .i64 x264004_5, .int .i64 x264005_5, .int .i64 x264006_5, .int .i64 x264007_5] (0, 0) _ rfl (by (with_reducible repeat (first | refine bN ?_ _ | refine bD ?_ | refine bA ?_ _)); refine blk_put (cs := zr6 t292 x264001_5 x264002_5 x264003_5 x264004_5 x264005_5 x264006_5 0) ?_ 7 _ rfl; refine blk_put (cs := zr6 t292 x264001_5 x264002_5 x264003_5 x264004_5 x264005_5 0 0) ?_ 6 _ rfl; refine blk_put (cs := zr6 t292 x264001_5 x264002_5 x264003_5 x264004_5 0 0 0) ?_ 5 _ rfl; refine blk_put (cs := zr6 t292 x264001_5 x264002_5 x264003_5 0 0 0 0) ?_ 4 _ rfl; refine blk_put (cs := zr6 t292 x264001_5 x264002_5 0 0 0 0 0) ?_ 3 _ rfl; refine blk_put (cs := zr6 t292 x264001_5 (⟨#[]⟩ : ByteArray) 0 0 0 0 0) ?_ 2 _ rfl; (with_reducible repeat (first | refine bN ?_ _ | refine bD ?_ | refine bA ?_ _)); refine blk_put (cs := zr6 t292 0 (⟨#[]⟩ : ByteArray) 0 0 0 0 0) ?_ 1 _ rfl; (with_reducible repeat (first | refine bN ?_ _ | refine bD ?_ | refine bA ?_ _)); refine blk_put (cs := zr6 (⟨#[]⟩ : ByteArray) 0 (⟨#[]⟩ : ByteArray) 0 0 0 0 0) ?_ 0 _ rfl; (with_reducible repeat (first | refine bN ?_ _ | refine bD ?_ | refine bA ?_ _)); refine blk_far ?_ NB246_263.out _; exact bd BK246.out) Tryd.underlying38 rfl (by kernel_rfl)) rfl ?_
    exact ⟨by first | rfl | (simp [*] <;> rfl), s3_2, s3_5, s3_8⟩
   ·rw [if_neg c51] at H
    have c51b0 : (t289 == 0) = false := beq_eq_false_iff_ne.mpr c51
    have c51b1 : (t289 != 0) = true := bne_iff_ne.mpr c51
    by_cases c60 : t289 = 1
    ·rw [if_pos c60] at H
     have c60b0 : (t289 == 1) = true := beq_iff_eq.mpr c60
     have c60b1 : (t289 != 1) = false := bne_eq_false_iff_eq.mpr c60
     clear c60
     replace H := ob H
     obtain ⟨⟨t295, t296, t297⟩, A610, H⟩ := H
     replace H : (some (x264000_5, x264001_5, x264002_5, x264003_5, x264004_5, x264005_5, t295, x264007_5, t296, t297)) = some (r1, r2, r3, r4, r5, r6, r7, r8, r9, r10) := H
     have A61 := am A610
     clear A610
     simp only [Option.some.injEq, Prod.mk.injEq] at H
     obtain ⟨rfl, rfl, rfl, rfl, rfl, rfl, rfl, rfl, rfl, rfl⟩ := H
     go_wp2_with (first | ((with_reducible refine gate_callee (f := 46) rfl ?_); refine goesL_ (some 41) rfl rfl Tryd.func46 (by kernel_rfl) rfl #[.pointer (some ⟨g, 0, none⟩), .int .i64 12] rfl u3_5 ?_; (with_reducible refine (spec_l1Below.calls g s0_0 x1001_5 x1002_5 12 t289 t290 t291 w0 _ ?side1 ?side2 A50.out).mono ?_); (case side1 => exact s3_2); (case side2 => exact s3_5); rintro e w62 ⟨rfl, hi, hb, hk⟩; refine ⟨_, rfl, ?_⟩; have n0_ := am (KeepBut.blk hk (g' := gb246) (o := zo3 (⟨#[]⟩ : ByteArray) 0 (⟨#[]⟩ : ByteArray) 0 0 0 0 0) u3_8 NB246_0.out u3_22); have n1_ := am (KeepBut.blk hk (g' := gb263) (o := zo3 x264000_5 x264001_5 x264002_5 x264003_5 x264004_5 x264005_5 x264006_5 x264007_5) u3_9 NB263_0.out u3_22); have n2_ := am (KeepBut.trans u3_7 hk (.inl rfl)); have n3_ := am (hb); have n4_ := am (hi); clear BK246 BK263 HK HB HI0; have BK246 := n0_; have BK263 := n1_; have HK := n2_; have HB := n3_; have HI0 := n4_; clear n0_ n1_ n2_ n3_ n4_; (try clear hb); (try clear hb2); (try clear hk); (try clear hi)) | ((with_reducible refine gate_callee (f := 70) rfl ?_); refine goesL_ (some 50) rfl rfl Tryd.func70 (by kernel_rfl) rfl #[.pointer (some ⟨g, 0, none⟩)] rfl u3_5 ?_; (with_reducible refine (spec_l1Odd.calls g s0_0 t290 t291 t295 t296 t297 w0 _ ?side1 ?side2 A61.out).mono ?_); (case side1 => exact s3_2); (case side2 => exact s3_5); rintro e w63 ⟨rfl, hi, hb, hk⟩; refine ⟨_, rfl, ?_⟩; have n0_ := am (KeepBut.blk hk (g' := gb246) (o := zo3 (⟨#[]⟩ : ByteArray) 0 (⟨#[]⟩ : ByteArray) 0 0 0 0 0) u3_8 NB246_0.out u3_22); have n1_ := am (KeepBut.blk hk (g' := gb263) (o := zo3 x264000_5 x264001_5 x264002_5 x264003_5 x264004_5 x264005_5 x264006_5 x264007_5) u3_9 NB263_0.out u3_22); have n2_ := am (KeepBut.trans u3_7 hk (.inl rfl)); have n3_ := am (hb); have n4_ := am (hi); clear BK246 BK263 HK HB HI0; have BK246 := n0_; have BK263 := n1_; have HK := n2_; have HB := n3_; have HI0 := n4_; clear n0_ n1_ n2_ n3_ n4_; (try clear hb); (try clear hb2); (try clear hk); (try clear hi); have hnb64 := NB263_246.out; have hnc64 := NB246_263.out; have hnb65 := NB263_0.out; have hnc65 := NB0_263.out; obtain ⟨hcz66_0, hcz66_1, hcz66_2, hcz66_3, hcz66_4, hcz66_5, hcz66_6, hcz66_7, hfz66_0, hfz66_1, hfz66_2, hfz66_3, hfz66_4, hfz66_5, hfz66_6, hfz66_7⟩ := cf8 BK263.out; have hnb67 := NB246_0.out; have hnc67 := NB0_246.out; obtain ⟨hcz68_0, hcz68_1, hcz68_2, hcz68_3, hcz68_4, hcz68_5, hcz68_6, hcz68_7, hfz68_0, hfz68_1, hfz68_2, hfz68_3, hfz68_4, hfz68_5, hfz68_6, hfz68_7⟩ := cf8 BK246.out))
     refine bodyPost_ret (results_cell_row rfl _ _ gb246 38 #[.string x264000_5, .int .i64 x264001_5, .string x264002_5, .int .i64 x264003_5, .int .i64 x264004_5, .int .i64 x264005_5, .int .i64 t295, .int .i64 x264007_5] (0, 0) _ rfl (by (with_reducible repeat (first | refine bN ?_ _ | refine bD ?_ | refine bA ?_ _)); refine blk_put (cs := zr6 x264000_5 x264001_5 x264002_5 x264003_5 x264004_5 x264005_5 t295 0) ?_ 7 _ rfl; refine blk_put (cs := zr6 x264000_5 x264001_5 x264002_5 x264003_5 x264004_5 x264005_5 0 0) ?_ 6 _ rfl; refine blk_put (cs := zr6 x264000_5 x264001_5 x264002_5 x264003_5 x264004_5 0 0 0) ?_ 5 _ rfl; refine blk_put (cs := zr6 x264000_5 x264001_5 x264002_5 x264003_5 0 0 0 0) ?_ 4 _ rfl; refine blk_put (cs := zr6 x264000_5 x264001_5 x264002_5 0 0 0 0 0) ?_ 3 _ rfl; refine blk_put (cs := zr6 x264000_5 x264001_5 (⟨#[]⟩ : ByteArray) 0 0 0 0 0) ?_ 2 _ rfl; (with_reducible repeat (first | refine bN ?_ _ | refine bD ?_ | refine bA ?_ _)); refine blk_put (cs := zr6 x264000_5 0 (⟨#[]⟩ : ByteArray) 0 0 0 0 0) ?_ 1 _ rfl; (with_reducible repeat (first | refine bN ?_ _ | refine bD ?_ | refine bA ?_ _)); refine blk_put (cs := zr6 (⟨#[]⟩ : ByteArray) 0 (⟨#[]⟩ : ByteArray) 0 0 0 0 0) ?_ 0 _ rfl; (with_reducible repeat (first | refine bN ?_ _ | refine bD ?_ | refine bA ?_ _)); refine blk_far ?_ NB246_263.out _; exact bd BK246.out) Tryd.underlying38 rfl (by kernel_rfl)) rfl ?_
     exact ⟨by first | rfl | (simp [*] <;> rfl), s3_2, s3_5, s3_8⟩
    ·rw [if_neg c60] at H
     have c60b0 : (t289 == 1) = false := beq_eq_false_iff_ne.mpr c60
     have c60b1 : (t289 != 1) = true := bne_iff_ne.mpr c60
     by_cases c69 : t289 = 2
     ·rw [if_pos c69] at H
      have c69b0 : (t289 == 2) = true := beq_iff_eq.mpr c69
      have c69b1 : (t289 != 2) = false := bne_eq_false_iff_eq.mpr c69
      clear c69
      replace H := ob H
      obtain ⟨⟨t298, t299, t300, t301, t302, t303, t304⟩, A700, H⟩ := H
      have hF_ : ∀ w_, (Instr.field 79 (.agg #[.int .i64 t298, .int .i64 t299, .int .i64 t300, .int .i64 t301, .int .i64 t302]) 0).run Tryd.prog w_ = .ok (.agg #[.int .i64 t298, .int .i64 t299]) w_ := fun _ => by go_simp; rfl
      replace H : (some (x264000_5, x264001_5, x264002_5, t298, t299, x264005_5, x264006_5, x264007_5, t303, t304)) = some (r1, r2, r3, r4, r5, r6, r7, r8, r9, r10) := H
      have A70 := am A700
      clear A700
      simp only [Option.some.injEq, Prod.mk.injEq] at H
      obtain ⟨rfl, rfl, rfl, rfl, rfl, rfl, rfl, rfl, rfl, rfl⟩ := H
      go_wp2_with (first | ((with_reducible refine gate_callee (f := 46) rfl ?_); refine goesL_ (some 41) rfl rfl Tryd.func46 (by kernel_rfl) rfl #[.pointer (some ⟨g, 0, none⟩), .int .i64 12] rfl u3_5 ?_; (with_reducible refine (spec_l1Below.calls g s0_0 x1001_5 x1002_5 12 t289 t290 t291 w0 _ ?side1 ?side2 A50.out).mono ?_); (case side1 => exact s3_2); (case side2 => exact s3_5); rintro e w71 ⟨rfl, hi, hb, hk⟩; refine ⟨_, rfl, ?_⟩; have n0_ := am (KeepBut.blk hk (g' := gb246) (o := zo3 (⟨#[]⟩ : ByteArray) 0 (⟨#[]⟩ : ByteArray) 0 0 0 0 0) u3_8 NB246_0.out u3_22); have n1_ := am (KeepBut.blk hk (g' := gb263) (o := zo3 x264000_5 x264001_5 x264002_5 x264003_5 x264004_5 x264005_5 x264006_5 x264007_5) u3_9 NB263_0.out u3_22); have n2_ := am (KeepBut.trans u3_7 hk (.inl rfl)); have n3_ := am (hb); have n4_ := am (hi); clear BK246 BK263 HK HB HI0; have BK246 := n0_; have BK263 := n1_; have HK := n2_; have HB := n3_; have HI0 := n4_; clear n0_ n1_ n2_ n3_ n4_; (try clear hb); (try clear hb2); (try clear hk); (try clear hi)) | ((with_reducible refine gate_callee (f := 86) rfl ?_); refine goesL_ (some 55) rfl rfl Tryd.func86 (by kernel_rfl) rfl #[.pointer (some ⟨g, 0, none⟩)] rfl u3_5 ?_; (with_reducible refine (spec_l3Any.calls kj5 g s0_0 t290 t291 t298 t299 t300 t301 t302 t303 t304 w0 _ ?side1 ?side2 A70.out).mono ?_); (case side1 => exact s3_2); (case side2 => exact s3_5); rintro e w72 ⟨rfl, hi, hb, hk⟩; refine ⟨_, rfl, ?_⟩; have n0_ := am (KeepBut.blk hk (g' := gb246) (o := zo3 (⟨#[]⟩ : ByteArray) 0 (⟨#[]⟩ : ByteArray) 0 0 0 0 0) u3_8 NB246_0.out u3_22); have n1_ := am (KeepBut.blk hk (g' := gb263) (o := zo3 x264000_5 x264001_5 x264002_5 x264003_5 x264004_5 x264005_5 x264006_5 x264007_5) u3_9 NB263_0.out u3_22); have n2_ := am (KeepBut.trans u3_7 hk (.inl rfl)); have n3_ := am (hb); have n4_ := am (hi); clear BK246 BK263 HK HB HI0; have BK246 := n0_; have BK263 := n1_; have HK := n2_; have HB := n3_; have HI0 := n4_; clear n0_ n1_ n2_ n3_ n4_; (try clear hb); (try clear hb2); (try clear hk); (try clear hi); have hnb73 := NB263_246.out; have hnc73 := NB246_263.out; have hnb74 := NB263_0.out; have hnc74 := NB0_263.out; obtain ⟨hcz75_0, hcz75_1, hcz75_2, hcz75_3, hcz75_4, hcz75_5, hcz75_6, hcz75_7, hfz75_0, hfz75_1, hfz75_2, hfz75_3, hfz75_4, hfz75_5, hfz75_6, hfz75_7⟩ := cf8 BK263.out; have hnb76 := NB246_0.out; have hnc76 := NB0_246.out; obtain ⟨hcz77_0, hcz77_1, hcz77_2, hcz77_3, hcz77_4, hcz77_5, hcz77_6, hcz77_7, hfz77_0, hfz77_1, hfz77_2, hfz77_3, hfz77_4, hfz77_5, hfz77_6, hfz77_7⟩ := cf8 BK246.out))
      refine bodyPost_ret (results_cell_row rfl _ _ gb246 38 #[.string x264000_5, .int .i64 x264001_5, .string x264002_5, .int .i64 t298, .int .i64 t299, .int .i64 x264005_5, .int .i64 x264006_5, .int .i64 x264007_5] (0, 0) _ rfl (by (with_reducible repeat (first | refine bN ?_ _ | refine bD ?_ | refine bA ?_ _)); refine blk_put (cs := zr6 x264000_5 x264001_5 x264002_5 t298 t299 x264005_5 x264006_5 0) ?_ 7 _ rfl; refine blk_put (cs := zr6 x264000_5 x264001_5 x264002_5 t298 t299 x264005_5 0 0) ?_ 6 _ rfl; refine blk_put (cs := zr6 x264000_5 x264001_5 x264002_5 t298 t299 0 0 0) ?_ 5 _ rfl; refine blk_put (cs := zr6 x264000_5 x264001_5 x264002_5 t298 0 0 0 0) ?_ 4 _ rfl; refine blk_put (cs := zr6 x264000_5 x264001_5 x264002_5 0 0 0 0 0) ?_ 3 _ rfl; refine blk_put (cs := zr6 x264000_5 x264001_5 (⟨#[]⟩ : ByteArray) 0 0 0 0 0) ?_ 2 _ rfl; (with_reducible repeat (first | refine bN ?_ _ | refine bD ?_ | refine bA ?_ _)); refine blk_put (cs := zr6 x264000_5 0 (⟨#[]⟩ : ByteArray) 0 0 0 0 0) ?_ 1 _ rfl; (with_reducible repeat (first | refine bN ?_ _ | refine bD ?_ | refine bA ?_ _)); refine blk_put (cs := zr6 (⟨#[]⟩ : ByteArray) 0 (⟨#[]⟩ : ByteArray) 0 0 0 0 0) ?_ 0 _ rfl; (with_reducible repeat (first | refine bN ?_ _ | refine bD ?_ | refine bA ?_ _)); refine blk_far ?_ NB246_263.out _; (with_reducible repeat (first | refine bN ?_ _ | refine bD ?_ | refine bA ?_ _)); refine blk_far ?_ NB246_263.out _; exact bd BK246.out) Tryd.underlying38 rfl (by kernel_rfl)) rfl ?_
      exact ⟨by first | rfl | (simp [*] <;> rfl), s3_2, s3_5, s3_8⟩
     ·rw [if_neg c69] at H
      have c69b0 : (t289 == 2) = false := beq_eq_false_iff_ne.mpr c69
      have c69b1 : (t289 != 2) = true := bne_iff_ne.mpr c69
      simp only [Option.some.injEq, Prod.mk.injEq] at H
      obtain ⟨rfl, rfl, rfl, rfl, rfl, rfl, rfl, rfl, rfl, rfl⟩ := H
      go_wp2_with (first | ((with_reducible refine gate_callee (f := 46) rfl ?_); refine goesL_ (some 41) rfl rfl Tryd.func46 (by kernel_rfl) rfl #[.pointer (some ⟨g, 0, none⟩), .int .i64 12] rfl u3_5 ?_; (with_reducible refine (spec_l1Below.calls g s0_0 x1001_5 x1002_5 12 t289 t290 t291 w0 _ ?side1 ?side2 A50.out).mono ?_); (case side1 => exact s3_2); (case side2 => exact s3_5); rintro e w78 ⟨rfl, hi, hb, hk⟩; refine ⟨_, rfl, ?_⟩; have n0_ := am (KeepBut.blk hk (g' := gb246) (o := zo3 (⟨#[]⟩ : ByteArray) 0 (⟨#[]⟩ : ByteArray) 0 0 0 0 0) u3_8 NB246_0.out u3_22); have n1_ := am (KeepBut.blk hk (g' := gb263) (o := zo3 x264000_5 x264001_5 x264002_5 x264003_5 x264004_5 x264005_5 x264006_5 x264007_5) u3_9 NB263_0.out u3_22); have n2_ := am (KeepBut.trans u3_7 hk (.inl rfl)); have n3_ := am (hb); have n4_ := am (hi); clear BK246 BK263 HK HB HI0; have BK246 := n0_; have BK263 := n1_; have HK := n2_; have HB := n3_; have HI0 := n4_; clear n0_ n1_ n2_ n3_ n4_; (try clear hb); (try clear hb2); (try clear hk); (try clear hi); have hnb79 := NB263_246.out; have hnc79 := NB246_263.out; have hnb80 := NB263_0.out; have hnc80 := NB0_263.out; obtain ⟨hcz81_0, hcz81_1, hcz81_2, hcz81_3, hcz81_4, hcz81_5, hcz81_6, hcz81_7, hfz81_0, hfz81_1, hfz81_2, hfz81_3, hfz81_4, hfz81_5, hfz81_6, hfz81_7⟩ := cf8 BK263.out; have hnb82 := NB246_0.out; have hnc82 := NB0_246.out; obtain ⟨hcz83_0, hcz83_1, hcz83_2, hcz83_3, hcz83_4, hcz83_5, hcz83_6, hcz83_7, hfz83_0, hfz83_1, hfz83_2, hfz83_3, hfz83_4, hfz83_5, hfz83_6, hfz83_7⟩ := cf8 BK246.out))
      refine bodyPost_ret (results_cell_row rfl _ _ gb246 38 #[.string x264000_5, .int .i64 x264001_5, .string x264002_5, .int .i64 x264003_5, .int .i64 x264004_5, .int .i64 x264005_5, .int .i64 x264006_5, .int .i64 x264007_5] (0, 0) _ rfl (by (with_reducible repeat (first | refine bN ?_ _ | refine bD ?_ | refine bA ?_ _)); refine blk_put (cs := zr6 x264000_5 x264001_5 x264002_5 x264003_5 x264004_5 x264005_5 x264006_5 0) ?_ 7 _ rfl; refine blk_put (cs := zr6 x264000_5 x264001_5 x264002_5 x264003_5 x264004_5 x264005_5 0 0) ?_ 6 _ rfl; refine blk_put (cs := zr6 x264000_5 x264001_5 x264002_5 x264003_5 x264004_5 0 0 0) ?_ 5 _ rfl; refine blk_put (cs := zr6 x264000_5 x264001_5 x264002_5 x264003_5 0 0 0 0) ?_ 4 _ rfl; refine blk_put (cs := zr6 x264000_5 x264001_5 x264002_5 0 0 0 0 0) ?_ 3 _ rfl; refine blk_put (cs := zr6 x264000_5 x264001_5 (⟨#[]⟩ : ByteArray) 0 0 0 0 0) ?_ 2 _ rfl; (with_reducible repeat (first | refine bN ?_ _ | refine bD ?_ | refine bA ?_ _)); refine blk_put (cs := zr6 x264000_5 0 (⟨#[]⟩ : ByteArray) 0 0 0 0 0) ?_ 1 _ rfl; (with_reducible repeat (first | refine bN ?_ _ | refine bD ?_ | refine bA ?_ _)); refine blk_put (cs := zr6 (⟨#[]⟩ : ByteArray) 0 (⟨#[]⟩ : ByteArray) 0 0 0 0 0) ?_ 0 _ rfl; exact bd BK246.out) Tryd.underlying38 rfl (by kernel_rfl)) rfl ?_
      exact ⟨by first | rfl | (simp [*] <;> rfl), s3_2, s3_5, s3_8⟩

end Go.Proofs.YthofcclbkihemaaDoor.MFnDeviceText
