-- Written by a program for this claim.
import Derived.Test.YtkljnmojnkiafaaMFnMovedRigx0
import Derived.Test.YtkljnmojnkiafaaMFnMovedRigx2
import Derived.Test.YtkljnmojnkiafaaMFnMovedRigx6
namespace Go.Proofs.Ytkljnmojnkiafaa.MFnMovedRig
open Go.RowKit Go.Proofs.YtkljnmojnkiafaaW.PrintWords Go.Proofs.YtkljnmojnkiafaaW.PrintLast Go.Proofs.YtkljnmojnkiafaaW.PrintMore
attribute [local go_sem] max2_int min2_int max_two min_two max_three min_three max_four min_four   -- for this text's walks alone
set_option linter.unusedVariables false
set_option linter.unusedSimpArgs false

theorem s7_0 {p : Prop} (h : p := by repeat (first | (with_reducible first | exact HI0.out | apply IsS133.alloc | apply IsS133.drewN | apply IsS133.drew | apply IsS133.set_1 | apply IsS133.set_2 | refine IsS133.far ?_ NB0_210.out _ | refine IsS133.far ?_ NB0_218.out _) | exact HI0.out)) : p := h
theorem s7_1 {p : Prop} (h : p := by repeat (first | (with_reducible first | exact HB.out | apply below_alloc | apply pw_below_drewN | apply below_drew1 | refine below_set ?_ (IsS133.ge HI0.out) | refine below_set ?_ GE210.out | refine below_set ?_ GE218.out) | exact HB.out)) : p := h
theorem s7_2 {p : Prop} (h : p := by repeat (first | (with_reducible first | exact HK.out | apply KeepBut.set_ | apply keep_drewN | apply keep_drew | apply keep_alloc | refine keep_far ?_ GW210.out _ | refine keep_far ?_ GW218.out _) | exact HK.out)) : p := h
theorem s7_3 {p : Prop} (h : p := by repeat (first | (with_reducible first | exact HB.out | apply below_alloc | apply pw_below_drewN | apply below_drew1 | refine below_set ?_ (IsS133.ge HI295.out)) | exact HB.out)) : p := h
theorem s7_4 {p : Prop} (h : p := by repeat (first | (with_reducible first | exact HI0.out | apply IsS133.alloc | apply IsS133.drewN | apply IsS133.drew | apply IsS133.set_1 | apply IsS133.set_2) | exact HI0.out)) : p := h
theorem s7_5 {p : Prop} (h : p := by repeat (first | (with_reducible first | exact HB.out | apply below_alloc | apply pw_below_drewN | apply below_drew1 | refine below_set ?_ (IsS133.ge HI0.out)) | exact HB.out)) : p := h
theorem s7_6 {p : Prop} (h : p := by repeat (first | (with_reducible first | exact HK.out | apply KeepBut.set_ | apply keep_drewN | apply keep_drew | apply keep_alloc) | exact HK.out)) : p := h
theorem y7_0 {p : Prop} (h : p := by repeat (first | exact (Kd.R_reads' HO_3.out).2.2 | (with_reducible refine Kd.C_alloc ?_ _) | (with_reducible refine Kd.C_drewN ?_ _) | (with_reducible refine Kd.C_drew ?_))) : p := h
theorem u7_0 {p : Prop} (h : p := by repeat (first | (with_reducible first | exact HK.out | apply KeepBut.set_ | apply keep_drewN | apply keep_drew | apply keep_alloc) | exact HK.out)) : p := h
theorem u7_1 {p : Prop} (h : p := by (try simp only [List.map_toArray, List.map_cons, List.map_nil]); first | done | rfl | (simp only [List.length_drop, List.length_take]; rfl)) : p := h
theorem u7_2 {p : Prop} (h : p := by repeat (first | (with_reducible first | exact HI0.out | apply IsS133.alloc | apply IsS133.drewN | apply IsS133.drew | apply IsS133.set_1 | apply IsS133.set_2) | exact HI0.out)) : p := h
theorem u7_3 {p : Prop} (h : p := by repeat (first | (with_reducible first | exact HB.out | apply below_alloc | apply pw_below_drewN | apply below_drew1 | refine below_set ?_ (IsS133.ge HI0.out)) | exact HB.out)) : p := h
theorem u7_4 {p : Prop} (h : p := by (with_reducible repeat (first | apply Kd.R_alloc | apply Kd.R_drewN | apply Kd.R_drew)); exact HO_3.out) : p := h
theorem u7_5 {p : Prop} (h : p := by (with_reducible repeat (first | apply Kd.R_alloc | apply Kd.R_drewN | apply Kd.R_drew)); exact HO_7.out) : p := h
theorem u7_6 {p : Prop} (h : p := by (with_reducible repeat (first | apply Kd.R_alloc | apply Kd.R_drewN | apply Kd.R_drew)); exact HO_4.out) : p := h
theorem u7_7 {p : Prop} (h : p := by repeat (first | (with_reducible first | exact HK.out | apply KeepBut.set_ | apply keep_drewN | apply keep_drew | apply keep_alloc | refine keep_far ?_ GW210.out _) | exact HK.out)) : p := h
theorem u7_8 {p : Prop} (h : p := by (with_reducible repeat (first | refine blk_drewN ?_ _ | refine blk_drew ?_ | refine blk_alloc ?_ _)); exact BK210.out) : p := h
theorem u7_9 {p : Prop} (h : p := by (with_reducible repeat (first | apply Kd.R_alloc | apply Kd.R_drewN | apply Kd.R_drew)); exact HO_16.out) : p := h
theorem u7_10 {p : Prop} (h : p := by (with_reducible repeat (first | apply Kd.R_alloc | apply Kd.R_drewN | apply Kd.R_drew)); exact HO_36.out) : p := h
theorem u7_11 {p : Prop} (h : p := by (with_reducible repeat (first | apply Kd.R_alloc | apply Kd.R_drewN | apply Kd.R_drew)); exact HO277.out) : p := h
theorem u7_12 {p : Prop} (h : p := by decide) : p := h
theorem u7_13 {p : Prop} (h : p := by first | rfl | (simp; done) | (simp [*]; done)) : p := h
def spec_l6Nozzle.f (s0_0 : List Int) (s0_1 : Int) (s0_2 : Int) (a1 : ByteArray) (a2 : ByteArray) : Option (ByteArray × Int × ByteArray × Int × Int × Int × Int × Int × Int × Int) := (spec_l3Draw.f s0_0 s0_1 s0_2).bind fun bt211 => ((spec_l1Some.f s0_0 bt211.2.2.2.2.2.1 bt211.2.2.2.2.2.2 0 32).bind fun bt219 => (some (a1, 2, a2, bt211.1, bt211.2.1, bt211.2.2.1, bt211.2.2.2.1, bt219.1, bt219.2.1, bt219.2.2)))
def spec_l6Nozzle.T2 : Bool × List (List Nat × List Nat) := (true, [([], []), ([], []), ([], []), ([2], [2]), ([], []), ([4], [4]), ([], []), ([6], [6]), ([], []), ([8], [8]), ([0, 1, 3, 5, 7, 9], [0, 1, 3, 5, 7, 9]), ([10, 9, 0, 1, 2, 3, 4, 5, 6, 7, 8, 9, 10], [10])])
def spec_l6Nozzle.B2 : List Nat := [0, 0, 0, 4, 0, 16, 0, 64, 0, 256, 1023, 2047]
theorem spec_l6Nozzle.tab2 : rtab .any (opsOf Try.f127 2) = spec_l6Nozzle.T2 := by kernel_rfl
theorem spec_l6Nozzle.bits2 : waitsOk spec_l6Nozzle.T2.2 spec_l6Nozzle.B2 = true := by kernel_rfl
set_option maxHeartbeats 8000000 in
set_option maxRecDepth 100000 in
theorem spec_l6Nozzle.calls (g : Nat) (s0_0 : List Int) (s0_1 : Int) (s0_2 : Int) (a1 : ByteArray) (a2 : ByteArray) (r1 : ByteArray) (r2 : Int) (r3 : ByteArray) (r4 : Int) (r5 : Int) (r6 : Int) (r7 : Int) (r8 : Int) (r9 : Int) (r10 : Int) (w0 w : World) (hI : IsS133 w0 w g s0_0 s0_1 s0_2) (hB : Below w0.heap.size w0 w) (h : spec_l6Nozzle.f s0_0 s0_1 s0_2 a1 a2 = some (r1, r2, r3, r4, r5, r6, r7, r8, r9, r10)) :
  Calls Try.prog 127 #[.pointer (some ⟨g, 0, none⟩), .string a1, .string a2] w fun e w' => e = .returned (.agg #[.string r1, .int .i64 r2, .string r3, .int .i64 r4, .int .i64 r5, .int .i64 r6, .int .i64 r7, .int .i64 r8]) ∧ IsS133 w0 w' g s0_0 r9 r10 ∧ Below w0.heap.size w0 w' ∧ KeepBut w w' g none := by
 have hu87 := Try.underlying87
 have hu153 := Try.underlying153
 have hu66 := Try.underlying66
 have HI0 := am hI
 have HK := am (KeepBut.refl w g none)
 have HL := am hB.size
 clear hI
 have HW0 := am hB.size
 have HB := am hB
 clear hB
 have H : ((spec_l3Draw.f s0_0 s0_1 s0_2).bind fun bt211 => ((spec_l1Some.f s0_0 bt211.2.2.2.2.2.1 bt211.2.2.2.2.2.2 0 32).bind fun bt219 => (some (a1, 2, a2, bt211.1, bt211.2.1, bt211.2.2.1, bt211.2.2.2.1, bt219.1, bt219.2.1, bt219.2.2)))) = some (r1, r2, r3, r4, r5, r6, r7, r8, r9, r10) := h
 clear h
 replace H := Option.bind_eq_some_iff.mp H
 obtain ⟨⟨t211, t212, t213, t214, t215, t216, t217⟩, A40, H⟩ := H
 replace H : ((spec_l1Some.f s0_0 t216 t217 0 32).bind fun bt219 => (some (a1, 2, a2, t211, t212, t213, t214, bt219.1, bt219.2.1, bt219.2.2))) = some (r1, r2, r3, r4, r5, r6, r7, r8, r9, r10) := H
 have A4 := am A40
 clear A40
 replace H := Option.bind_eq_some_iff.mp H
 obtain ⟨⟨t219, t220, t221⟩, A50, H⟩ := H
 replace H : (some (a1, 2, a2, t211, t212, t213, t214, t219, t220, t221)) = some (r1, r2, r3, r4, r5, r6, r7, r8, r9, r10) := H
 have A5 := am A50
 clear A50
 simp only [Option.some.injEq, Prod.mk.injEq] at H
 obtain ⟨rfl, rfl, rfl, rfl, rfl, rfl, rfl, rfl, rfl, rfl⟩ := H
 go_enter Try.func127, Try.ntmps127
 try go_wp2_with (first | ((with_reducible refine gate_dst (N := 6) rfl ?_); refine box_event ?hg (N := 6) ?hd (cs := #[.string (⟨#[]⟩ : ByteArray), .int .i64 0, .string (⟨#[]⟩ : ByteArray), .int .i64 0, .int .i64 0, .int .i64 0, .int .i64 0, .int .i64 0]) (t := 87) ?hr ?_; (case hd => rfl); (case hg => rfl); (case hr => exact gq); intro gb210 hg w6 hbox hb; have n0_ := am (IsS133.below u7_2 hb); have n1_ := am (KeepBut.trans u7_0 (KeepBut.of_below hb g none) (.inl rfl)); have n2_ := am (below_step u7_3 hb); have n3_ := am (hbox); have n4_ := am ((by rw [hg]; exact (keep_size (w := w) (g := g) (row := none) u7_0) : w.heap.size ≤ gb210)); have n5_ := am ((Nat.le_trans HW0.out (by rw [hg]; exact (keep_size (w := w) (g := g) (row := none) u7_0) : w.heap.size ≤ gb210) : w0.heap.size ≤ gb210)); have n6_ := am ((by rw [hg]; exact Nat.ne_of_lt (IsS133.lt (show IsS133 w0 _ g s0_0 s0_1 s0_2 from by repeat (first | (with_reducible first | exact HI0.out | apply IsS133.alloc | apply IsS133.drewN | apply IsS133.drew | apply IsS133.set_1 | apply IsS133.set_2) | exact HI0.out))) : g ≠ gb210)); have n7_ := am ((by rw [hg]; exact Nat.ne_of_gt (IsS133.lt (show IsS133 w0 _ g s0_0 s0_1 s0_2 from by repeat (first | (with_reducible first | exact HI0.out | apply IsS133.alloc | apply IsS133.drewN | apply IsS133.drew | apply IsS133.set_1 | apply IsS133.set_2) | exact HI0.out))) : gb210 ≠ g)); clear HI0 HK HB; have HI0 := n0_; have HK := n1_; have HB := n2_; have BK210 := n3_; have GW210 := n4_; have GE210 := n5_; have NB0_210 := n6_; have NB210_0 := n7_; clear n0_ n1_ n2_ n3_ n4_ n5_ n6_ n7_ hb hbox hg) | ((with_reducible refine gate_callee (f := 158) rfl ?_); refine goesL_ (some 9) rfl rfl Try.func158 (by kernel_rfl) rfl #[.pointer (some ⟨g, 0, none⟩)] rfl u7_1 ?_; (with_reducible refine (spec_l3Draw.calls g s0_0 s0_1 s0_2 t211 t212 t213 t214 t215 t216 t217 w0 _ ?side1 ?side2 A4.out).mono ?_); (case side1 => repeat (first | (with_reducible first | exact HI0.out | apply IsS133.alloc | apply IsS133.drewN | apply IsS133.drew | apply IsS133.set_1 | apply IsS133.set_2 | refine IsS133.far ?_ NB0_210.out _) | exact HI0.out)); (case side2 => repeat (first | (with_reducible first | exact HB.out | apply below_alloc | apply pw_below_drewN | apply below_drew1 | refine below_set ?_ (IsS133.ge HI0.out) | refine below_set ?_ GE210.out) | exact HB.out)); rintro e w7 ⟨rfl, hi, hb, hk⟩; refine ⟨_, rfl, ?_⟩; have n0_ := am (KeepBut.blk hk (g' := gb210) (o := zo0 (⟨#[]⟩ : ByteArray) 0 (⟨#[]⟩ : ByteArray) 0 0 0 0 0) u7_8 NB210_0.out (by simp)); have n1_ := am (KeepBut.trans u7_7 hk (.inl rfl)); have n2_ := am (hb); have n3_ := am (hi); clear BK210 HK HB HI0; have BK210 := n0_; have HK := n1_; have HB := n2_; have HI0 := n3_; clear n0_ n1_ n2_ n3_; (try clear hb); (try clear hb2); (try clear hk); (try clear hi)) | ((with_reducible refine gate_dst (N := 7) rfl ?_); refine box_event ?hg (N := 7) ?hd (cs := #[.int .i64 0, .int .i64 0, .int .i64 0, .int .i64 0, .int .i64 0]) (t := 153) ?hr ?_; (case hd => rfl); (case hg => rfl); (case hr => exact gq); intro gb218 hg w8 hbox hb; have n0_ := am (IsS133.below (by repeat (first | (with_reducible first | exact HI0.out | apply IsS133.alloc | apply IsS133.drewN | apply IsS133.drew | apply IsS133.set_1 | apply IsS133.set_2 | refine IsS133.far ?_ NB0_210.out _) | exact HI0.out)) hb); have n1_ := am (blk_below (g := gb210) (o := zo0 (⟨#[]⟩ : ByteArray) 0 (⟨#[]⟩ : ByteArray) 0 0 0 0 0) u7_8 hb); have n2_ := am (KeepBut.trans u7_7 (KeepBut.of_below hb g none) (.inl rfl)); have n3_ := am (below_step (by repeat (first | (with_reducible first | exact HB.out | apply below_alloc | apply pw_below_drewN | apply below_drew1 | refine below_set ?_ (IsS133.ge HI0.out) | refine below_set ?_ GE210.out) | exact HB.out)) hb); have n4_ := am (hbox); have n5_ := am ((by rw [hg]; exact (keep_size (w := w) (g := g) (row := none) u7_7) : w.heap.size ≤ gb218)); have n6_ := am ((Nat.le_trans HW0.out (by rw [hg]; exact (keep_size (w := w) (g := g) (row := none) u7_7) : w.heap.size ≤ gb218) : w0.heap.size ≤ gb218)); have n7_ := am ((by rw [hg]; exact Nat.ne_of_lt (blk_lt (g := gb210) (o := zo0 (⟨#[]⟩ : ByteArray) 0 (⟨#[]⟩ : ByteArray) 0 0 0 0 0) u7_8) : gb210 ≠ gb218)); have n8_ := am ((by rw [hg]; exact Nat.ne_of_gt (blk_lt (g := gb210) (o := zo0 (⟨#[]⟩ : ByteArray) 0 (⟨#[]⟩ : ByteArray) 0 0 0 0 0) u7_8) : gb218 ≠ gb210)); have n9_ := am ((by rw [hg]; exact Nat.ne_of_lt (IsS133.lt (show IsS133 w0 _ g s0_0 t216 t217 from by repeat (first | (with_reducible first | exact HI0.out | apply IsS133.alloc | apply IsS133.drewN | apply IsS133.drew | apply IsS133.set_1 | apply IsS133.set_2 | refine IsS133.far ?_ NB0_210.out _) | exact HI0.out))) : g ≠ gb218)); have n10_ := am ((by rw [hg]; exact Nat.ne_of_gt (IsS133.lt (show IsS133 w0 _ g s0_0 t216 t217 from by repeat (first | (with_reducible first | exact HI0.out | apply IsS133.alloc | apply IsS133.drewN | apply IsS133.drew | apply IsS133.set_1 | apply IsS133.set_2 | refine IsS133.far ?_ NB0_210.out _) | exact HI0.out))) : gb218 ≠ g)); clear HI0 BK210 HK HB; have HI0 := n0_; have BK210 := n1_; have HK := n2_; have HB := n3_; have BK218 := n4_; have GW218 := n5_; have GE218 := n6_; have NB210_218 := n7_; have NB218_210 := n8_; have NB0_218 := n9_; have NB218_0 := n10_; clear n0_ n1_ n2_ n3_ n4_ n5_ n6_ n7_ n8_ n9_ n10_ hb hbox hg; have hnb9 := NB218_210.out; have hnc9 := NB210_218.out; have hnb10 := NB218_0.out; have hnc10 := NB0_218.out; obtain ⟨hcz11_0, hcz11_1, hcz11_2, hcz11_3, hcz11_4, hfz11_0, hfz11_1, hfz11_2, hfz11_3, hfz11_4⟩ := cf5 BK218.out))
 have n0_ : Aside0 ((((((w8.setCell ⟨gb218, 0, none⟩ (.int .i64 t211)).setCell ⟨gb218, 1, none⟩ (.int .i64 t212)).setCell ⟨gb218, 2, none⟩ (.int .i64 t213)).setCell ⟨gb218, 3, none⟩ (.int .i64 t214)).setCell ⟨gb218, 4, none⟩ (.int .i64 t215)).heap[gb210]? = some (.cells #[.string (⟨#[]⟩ : ByteArray), .int .i64 0, .string (⟨#[]⟩ : ByteArray), .int .i64 0, .int .i64 0, .int .i64 0, .int .i64 0, .int .i64 0] 87 (0, 0))) := ⟨by (with_reducible repeat (first | refine blk_drewN ?_ _ | refine blk_drew ?_ | refine blk_alloc ?_ _)); refine blk_far ?_ NB210_218.out _; (with_reducible repeat (first | refine blk_drewN ?_ _ | refine blk_drew ?_ | refine blk_alloc ?_ _)); refine blk_far ?_ NB210_218.out _; (with_reducible repeat (first | refine blk_drewN ?_ _ | refine blk_drew ?_ | refine blk_alloc ?_ _)); refine blk_far ?_ NB210_218.out _; (with_reducible repeat (first | refine blk_drewN ?_ _ | refine blk_drew ?_ | refine blk_alloc ?_ _)); refine blk_far ?_ NB210_218.out _; (with_reducible repeat (first | refine blk_drewN ?_ _ | refine blk_drew ?_ | refine blk_alloc ?_ _)); refine blk_far ?_ NB210_218.out _; (with_reducible repeat (first | refine blk_drewN ?_ _ | refine blk_drew ?_ | refine blk_alloc ?_ _)); exact BK210.out⟩
 have n1_ : Aside0 ((((((w8.setCell ⟨gb218, 0, none⟩ (.int .i64 t211)).setCell ⟨gb218, 1, none⟩ (.int .i64 t212)).setCell ⟨gb218, 2, none⟩ (.int .i64 t213)).setCell ⟨gb218, 3, none⟩ (.int .i64 t214)).setCell ⟨gb218, 4, none⟩ (.int .i64 t215)).heap[gb218]? = some (.cells #[.int .i64 t211, .int .i64 t212, .int .i64 t213, .int .i64 t214, .int .i64 t215] 153 (0, 0))) := ⟨by (with_reducible repeat (first | refine blk_drewN ?_ _ | refine blk_drew ?_ | refine blk_alloc ?_ _)); refine blk_put (cs := zr9 t211 t212 t213 t214 0) ?_ 4 _ rfl; refine blk_put (cs := zr9 t211 t212 t213 0 0) ?_ 3 _ rfl; refine blk_put (cs := zr9 t211 t212 0 0 0) ?_ 2 _ rfl; refine blk_put (cs := zr9 t211 0 0 0 0) ?_ 1 _ rfl; refine blk_put (cs := zr9 0 0 0 0 0) ?_ 0 _ rfl; (with_reducible repeat (first | refine blk_drewN ?_ _ | refine blk_drew ?_ | refine blk_alloc ?_ _)); exact BK218.out⟩
 have n2_ : Aside0 (IsS133 w0 (((((w8.setCell ⟨gb218, 0, none⟩ (.int .i64 t211)).setCell ⟨gb218, 1, none⟩ (.int .i64 t212)).setCell ⟨gb218, 2, none⟩ (.int .i64 t213)).setCell ⟨gb218, 3, none⟩ (.int .i64 t214)).setCell ⟨gb218, 4, none⟩ (.int .i64 t215)) g s0_0 t216 t217) := ⟨s7_0⟩
 have n3_ : Aside0 (KeepBut w (((((w8.setCell ⟨gb218, 0, none⟩ (.int .i64 t211)).setCell ⟨gb218, 1, none⟩ (.int .i64 t212)).setCell ⟨gb218, 2, none⟩ (.int .i64 t213)).setCell ⟨gb218, 3, none⟩ (.int .i64 t214)).setCell ⟨gb218, 4, none⟩ (.int .i64 t215)) g none) := ⟨s7_2⟩
 have n4_ : Aside0 (Below w0.heap.size w0 (((((w8.setCell ⟨gb218, 0, none⟩ (.int .i64 t211)).setCell ⟨gb218, 1, none⟩ (.int .i64 t212)).setCell ⟨gb218, 2, none⟩ (.int .i64 t213)).setCell ⟨gb218, 3, none⟩ (.int .i64 t214)).setCell ⟨gb218, 4, none⟩ (.int .i64 t215))) := ⟨s7_1⟩
 (try clear BK210)
 (try clear BK218)
 (try clear HI0)
 (try clear HK)
 (try clear HB)
 (try simp only [show ∀ (w_ : World) (n_ : Nat) (a_ : Addr) (v_ : Value), (w_.drewN n_).setCell a_ v_ = (w_.setCell a_ v_).drewN n_ from fun _ _ _ _ => rfl, show ∀ (w_ : World) (a_ : Addr) (v_ : Value), w_.drew.setCell a_ v_ = (w_.setCell a_ v_).drew from fun _ _ _ => rfl])
 generalize (((((w8.setCell ⟨gb218, 0, none⟩ (.int .i64 t211)).setCell ⟨gb218, 1, none⟩ (.int .i64 t212)).setCell ⟨gb218, 2, none⟩ (.int .i64 t213)).setCell ⟨gb218, 3, none⟩ (.int .i64 t214)).setCell ⟨gb218, 4, none⟩ (.int .i64 t215)) = w12 at n0_ n1_ n2_ n3_ n4_ ⊢
 have BK210 := n0_
 have BK218 := n1_
 have HI0 := n2_
 have HK := n3_
 have HB := n4_
 clear n0_ n1_ n2_ n3_ n4_
 have n0_ := am (blk_drew BK210.out)
 have n1_ := am (blk_drew BK218.out)
 have n2_ := am (IsS133.drew HI0.out)
 have n3_ := am (keep_drew HK.out)
 have n4_ := am (below_drew1 HB.out)
 clear BK210 BK218 HI0 HK HB
 have BK210 := n0_
 have BK218 := n1_
 have HI0 := n2_
 have HK := n3_
 have HB := n4_
 clear n0_ n1_ n2_ n3_ n4_
 refine start_ (n := 12) (S := fun w' => zc10 w' gb218 t211 t212 t213 t214 t215) (ds := []) #[false, false, false, false, false, false, false, false, false, false, false, false] (by kernel_rfl) rfl rfl ⟨(blk_cell BK218.out 0).trans rfl, (blk_cell BK218.out 1).trans rfl, (blk_cell BK218.out 2).trans rfl, (blk_cell BK218.out 3).trans rfl, (blk_cell BK218.out 4).trans rfl⟩ (fun hHeld => ?_); refine with_tabW spec_l6Nozzle.tab2 spec_l6Nozzle.bits2 (fun HT_ HW_ => ?_)
 generalize w12.drew = w13 at BK210 BK218 HI0 HK HB hHeld ⊢
 refine pz 0 10 #[true, false, false, false, false, false, false, false, false, false, false, false] (any_of HT_.out (by kernel_rfl)) ?_
 refine pz 1 11 #[true, true, false, false, false, false, false, false, false, false, false, false] (any_of HT_.out (by kernel_rfl)) ?_
 refine pz 2 12 #[true, true, true, false, false, false, false, false, false, false, false, false] (any_of HT_.out (by kernel_rfl)) ?_
 refine pz 4 14 #[true, true, true, false, true, false, false, false, false, false, false, false] (any_of HT_.out (by kernel_rfl)) ?_
 refine pz 6 16 #[true, true, true, false, true, false, true, false, false, false, false, false] (any_of HT_.out (by kernel_rfl)) ?_
 refine pz 8 18 #[true, true, true, false, true, false, true, false, true, false, false, false] (any_of HT_.out (by kernel_rfl)) ?_
 refine take_ (i := 3) (N := some 13) (v := ?_) (a' := ?_) #[true, true, true, true, true, false, true, false, true, false, false, false] rfl rfl (take_ofW HT_.out HW_.out (by kernel_rfl)) (fun _ _ _ h => h) (Or.inl ⟨by rfl, ?_⟩) hHeld ?_ ?_
 rotate_left
 ·rintro w' ⟨s0, s1, s2, s3, s4⟩
  exact gs
 rotate_left
 ·exact ap
 refine take_ (i := 5) (N := some 15) (v := ?_) (a' := ?_) #[true, true, true, true, true, true, true, false, true, false, false, false] rfl rfl (take_ofW HT_.out HW_.out (by kernel_rfl)) (fun _ _ _ h => h) (Or.inl ⟨by rfl, ?_⟩) hHeld ?_ ?_
 rotate_left
 ·rintro w' ⟨s0, s1, s2, s3, s4⟩
  exact gs
 rotate_left
 ·exact ap
 refine take_ (i := 7) (N := some 17) (v := ?_) (a' := ?_) #[true, true, true, true, true, true, true, true, true, false, false, false] rfl rfl (take_ofW HT_.out HW_.out (by kernel_rfl)) (fun _ _ _ h => h) (Or.inl ⟨by rfl, ?_⟩) hHeld ?_ ?_
 rotate_left
 ·rintro w' ⟨s0, s1, s2, s3, s4⟩
  exact gs
 rotate_left
 ·exact ap
 refine one_ (i := 9) (N := some 19) #[true, true, true, true, true, true, true, true, true, true, false, false] rfl rfl (one_of HT_.out (by kernel_rfl)) u7_12 (fun K hK => ?_)
 refine goes_ Try.func151 (by kernel_rfl) rfl #[.pointer (some ⟨g, 0, none⟩), .int .i64 0, .int .i64 32] (by rfl) rfl rfl u7_1 ?_
 with_reducible refine (spec_l1Some.calls g s0_0 t216 t217 0 32 t219 t220 t221 w0 _ ?side1 ?side2 A5.out).mono ?_
 (case side1 => exact s7_0)
 (case side2 => exact s7_1)
 rintro e w14 ⟨rfl, hi, hb, hk⟩
 refine ⟨_, rfl, ?_⟩
 have n0_ := am (KeepBut.blk hk (g' := gb210) (o := zo0 (⟨#[]⟩ : ByteArray) 0 (⟨#[]⟩ : ByteArray) 0 0 0 0 0) u7_8 NB210_0.out (by simp))
 have n1_ := am (KeepBut.blk hk (g' := gb218) (o := zo7 t211 t212 t213 t214 t215) (by (with_reducible repeat (first | refine blk_drewN ?_ _ | refine blk_drew ?_ | refine blk_alloc ?_ _)); exact BK218.out) NB218_0.out (by simp))
 have n2_ := am (KeepBut.trans (by repeat (first | (with_reducible first | exact HK.out | apply KeepBut.set_ | apply keep_drewN | apply keep_drew | apply keep_alloc | refine keep_far ?_ GW210.out _ | refine keep_far ?_ GW218.out _) | exact HK.out)) hk (.inl rfl))
 have n3_ := am (hb)
 have n4_ := am (hi)
 clear BK210 BK218 HK HB HI0
 have BK210 := n0_
 have BK218 := n1_
 have HK := n2_
 have HB := n3_
 have HI0 := n4_
 clear n0_ n1_ n2_ n3_ n4_
 (try clear hb)
 (try clear hb2)
 (try clear hk)
 (try clear hi)
 refine hK.out _ _ ⟨(blk_cell BK218.out 0).trans rfl, (blk_cell BK218.out 1).trans rfl, (blk_cell BK218.out 2).trans rfl, (blk_cell BK218.out 3).trans rfl, (blk_cell BK218.out 4).trans rfl⟩ (fun hHeld => ?_)
 clear hK K
 refine norm_ (a' := ?_) ?_ ?_
 rotate_left
 ·show Act.put _ (some 19) _ = _
  simp only [Act.put, List.setIfInBounds_toArray, List.set_cons_zero, List.set_cons_succ, i64_w, i32_w]
  rfl
 refine pz 10 20 #[true, true, true, true, true, true, true, true, true, true, true, false] (any_of HT_.out (by kernel_rfl)) ?_
 refine one_ (i := 11) (N := none) #[true, true, true, true, true, true, true, true, true, true, true, true] rfl rfl (one_of HT_.out (by kernel_rfl)) u7_12 (fun K hK => ?_)
 have hs15 : w14.cell? ⟨gb210, 0, none⟩ = some (.string (⟨#[]⟩ : ByteArray)) := (blk_cell BK210.out 0).trans rfl
 have hfs15 := blk_frozen BK210.out 0
 have hns15_1 := NB218_210.out
 have hms15_1 := NB210_218.out
 have hs16 : w14.cell? ⟨gb210, 1, none⟩ = some (.int .i64 0) := (blk_cell BK210.out 1).trans rfl
 have hfs16 := blk_frozen BK210.out 1
 have hns16_1 := NB218_210.out
 have hms16_1 := NB210_218.out
 have hs17 : w14.cell? ⟨gb210, 2, none⟩ = some (.string (⟨#[]⟩ : ByteArray)) := (blk_cell BK210.out 2).trans rfl
 have hfs17 := blk_frozen BK210.out 2
 have hns17_1 := NB218_210.out
 have hms17_1 := NB210_218.out
 have hs18 : w14.cell? ⟨gb210, 3, none⟩ = some (.int .i64 0) := (blk_cell BK210.out 3).trans rfl
 have hfs18 := blk_frozen BK210.out 3
 have hns18_1 := NB218_210.out
 have hms18_1 := NB210_218.out
 have hs19 : w14.cell? ⟨gb210, 4, none⟩ = some (.int .i64 0) := (blk_cell BK210.out 4).trans rfl
 have hfs19 := blk_frozen BK210.out 4
 have hns19_1 := NB218_210.out
 have hms19_1 := NB210_218.out
 have hs20 : w14.cell? ⟨gb210, 5, none⟩ = some (.int .i64 0) := (blk_cell BK210.out 5).trans rfl
 have hfs20 := blk_frozen BK210.out 5
 have hns20_1 := NB218_210.out
 have hms20_1 := NB210_218.out
 have hs21 : w14.cell? ⟨gb210, 6, none⟩ = some (.int .i64 0) := (blk_cell BK210.out 6).trans rfl
 have hfs21 := blk_frozen BK210.out 6
 have hns21_1 := NB218_210.out
 have hms21_1 := NB210_218.out
 have hs22 : w14.cell? ⟨gb210, 7, none⟩ = some (.int .i64 0) := (blk_cell BK210.out 7).trans rfl
 have hfs22 := blk_frozen BK210.out 7
 have hns22_1 := NB218_210.out
 have hms22_1 := NB210_218.out
 refine skip_ (w1 := ?_) (by rfl) rfl ?_ ?_
 rotate_left
 ·go_simp
  rfl
 refine hK.out _ _ ⟨((cell_far (p := ⟨gb210, _, none⟩) NB218_210.out _).trans (((cell_far (p := ⟨gb210, _, none⟩) NB218_210.out _).trans (((cell_far (p := ⟨gb210, _, none⟩) NB218_210.out _).trans (((cell_far (p := ⟨gb210, _, none⟩) NB218_210.out _).trans (((cell_far (p := ⟨gb210, _, none⟩) NB218_210.out _).trans (((cell_far (p := ⟨gb210, _, none⟩) NB218_210.out _).trans (((cell_far (p := ⟨gb210, _, none⟩) NB218_210.out _).trans (((cell_far (p := ⟨gb210, _, none⟩) NB218_210.out _).trans (hHeld.1)))))))))))))))), ((cell_far (p := ⟨gb210, _, none⟩) NB218_210.out _).trans (((cell_far (p := ⟨gb210, _, none⟩) NB218_210.out _).trans (((cell_far (p := ⟨gb210, _, none⟩) NB218_210.out _).trans (((cell_far (p := ⟨gb210, _, none⟩) NB218_210.out _).trans (((cell_far (p := ⟨gb210, _, none⟩) NB218_210.out _).trans (((cell_far (p := ⟨gb210, _, none⟩) NB218_210.out _).trans (((cell_far (p := ⟨gb210, _, none⟩) NB218_210.out _).trans (((cell_far (p := ⟨gb210, _, none⟩) NB218_210.out _).trans (hHeld.2.1)))))))))))))))), ((cell_far (p := ⟨gb210, _, none⟩) NB218_210.out _).trans (((cell_far (p := ⟨gb210, _, none⟩) NB218_210.out _).trans (((cell_far (p := ⟨gb210, _, none⟩) NB218_210.out _).trans (((cell_far (p := ⟨gb210, _, none⟩) NB218_210.out _).trans (((cell_far (p := ⟨gb210, _, none⟩) NB218_210.out _).trans (((cell_far (p := ⟨gb210, _, none⟩) NB218_210.out _).trans (((cell_far (p := ⟨gb210, _, none⟩) NB218_210.out _).trans (((cell_far (p := ⟨gb210, _, none⟩) NB218_210.out _).trans (hHeld.2.2.1)))))))))))))))), ((cell_far (p := ⟨gb210, _, none⟩) NB218_210.out _).trans (((cell_far (p := ⟨gb210, _, none⟩) NB218_210.out _).trans (((cell_far (p := ⟨gb210, _, none⟩) NB218_210.out _).trans (((cell_far (p := ⟨gb210, _, none⟩) NB218_210.out _).trans (((cell_far (p := ⟨gb210, _, none⟩) NB218_210.out _).trans (((cell_far (p := ⟨gb210, _, none⟩) NB218_210.out _).trans (((cell_far (p := ⟨gb210, _, none⟩) NB218_210.out _).trans (((cell_far (p := ⟨gb210, _, none⟩) NB218_210.out _).trans (hHeld.2.2.2.1)))))))))))))))), ((cell_far (p := ⟨gb210, _, none⟩) NB218_210.out _).trans (((cell_far (p := ⟨gb210, _, none⟩) NB218_210.out _).trans (((cell_far (p := ⟨gb210, _, none⟩) NB218_210.out _).trans (((cell_far (p := ⟨gb210, _, none⟩) NB218_210.out _).trans (((cell_far (p := ⟨gb210, _, none⟩) NB218_210.out _).trans (((cell_far (p := ⟨gb210, _, none⟩) NB218_210.out _).trans (((cell_far (p := ⟨gb210, _, none⟩) NB218_210.out _).trans (((cell_far (p := ⟨gb210, _, none⟩) NB218_210.out _).trans (hHeld.2.2.2.2))))))))))))))))⟩ (fun hHeld => ?_)
 clear hK K
 refine done_ (done_of HT_.out (by kernel_rfl)) ?_
 try go_wp2
 refine bodyPost_ret (results_cell_row rfl _ _ gb210 87 #[.string a1, .int .i64 2, .string a2, .int .i64 t211, .int .i64 t212, .int .i64 t213, .int .i64 t214, .int .i64 t219] (0, 0) _ rfl (by (with_reducible repeat (first | refine blk_drewN ?_ _ | refine blk_drew ?_ | refine blk_alloc ?_ _)); refine blk_put (cs := zr5 a1 2 a2 t211 t212 t213 t214 0) ?_ 7 _ rfl; refine blk_put (cs := zr5 a1 2 a2 t211 t212 t213 0 0) ?_ 6 _ rfl; refine blk_put (cs := zr5 a1 2 a2 t211 t212 0 0 0) ?_ 5 _ rfl; refine blk_put (cs := zr5 a1 2 a2 t211 0 0 0 0) ?_ 4 _ rfl; refine blk_put (cs := zr5 a1 2 a2 0 0 0 0 0) ?_ 3 _ rfl; refine blk_put (cs := zr5 a1 2 (⟨#[]⟩ : ByteArray) 0 0 0 0 0) ?_ 2 _ rfl; (with_reducible repeat (first | refine blk_drewN ?_ _ | refine blk_drew ?_ | refine blk_alloc ?_ _)); refine blk_put (cs := zr5 a1 0 (⟨#[]⟩ : ByteArray) 0 0 0 0 0) ?_ 1 _ rfl; (with_reducible repeat (first | refine blk_drewN ?_ _ | refine blk_drew ?_ | refine blk_alloc ?_ _)); refine blk_put (cs := zr5 (⟨#[]⟩ : ByteArray) 0 (⟨#[]⟩ : ByteArray) 0 0 0 0 0) ?_ 0 _ rfl; (with_reducible repeat (first | refine blk_drewN ?_ _ | refine blk_drew ?_ | refine blk_alloc ?_ _)); exact BK210.out) Try.underlying87 rfl (by kernel_rfl)) rfl ?_
 exact ⟨by first | rfl | (simp [*] <;> rfl), s7_0, s7_1, s7_2⟩

def spec_l1Once.f (s0_0 : List Int) (s0_1 : Int) (s0_2 : Int) (a1 : Int) : Option (Bool × Int × Int) := (spec_l1Below.f s0_0 s0_1 s0_2 a1).bind fun bt222 => (some ((bt222.1 == 0), bt222.2.1, bt222.2.2))
set_option maxHeartbeats 8000000 in
set_option maxRecDepth 100000 in
theorem spec_l1Once.calls (g : Nat) (s0_0 : List Int) (s0_1 : Int) (s0_2 : Int) (a1 : Int) (r1 : Bool) (r2 : Int) (r3 : Int) (w0 w : World) (hI : IsS133 w0 w g s0_0 s0_1 s0_2) (hB : Below w0.heap.size w0 w) (h : spec_l1Once.f s0_0 s0_1 s0_2 a1 = some (r1, r2, r3)) :
  Calls Try.prog 128 #[.pointer (some ⟨g, 0, none⟩), .int .i64 a1] w fun e w' => e = .returned (.bool r1) ∧ IsS133 w0 w' g s0_0 r2 r3 ∧ Below w0.heap.size w0 w' ∧ KeepBut w w' g none := by
 have HI0 := am hI
 have HK := am (KeepBut.refl w g none)
 have HL := am hB.size
 clear hI
 have HW0 := am hB.size
 have HB := am hB
 clear hB
 have H : ((spec_l1Below.f s0_0 s0_1 s0_2 a1).bind fun bt222 => (some ((bt222.1 == 0), bt222.2.1, bt222.2.2))) = some (r1, r2, r3) := h
 clear h
 replace H := Option.bind_eq_some_iff.mp H
 obtain ⟨⟨t222, t223, t224⟩, A30, H⟩ := H
 replace H : (some ((t222 == 0), t223, t224)) = some (r1, r2, r3) := H
 have A3 := am A30
 clear A30
 simp only [Option.some.injEq, Prod.mk.injEq] at H
 obtain ⟨rfl, rfl, rfl⟩ := H
 go_enter Try.func128, Try.ntmps128
 go_wp2_with (first | ((with_reducible refine gate_callee (f := 110) rfl ?_); refine goesL_ (some 7) rfl rfl Try.func110 (by kernel_rfl) rfl #[.pointer (some ⟨g, 0, none⟩), .int .i64 a1] rfl u7_1 ?_; (with_reducible refine (spec_l1Below.calls g s0_0 s0_1 s0_2 a1 t222 t223 t224 w0 _ ?side1 ?side2 A3.out).mono ?_); (case side1 => exact s7_4); (case side2 => exact s7_5); rintro e w4 ⟨rfl, hi, hb, hk⟩; refine ⟨_, rfl, ?_⟩; have n0_ := am (KeepBut.trans u7_0 hk (.inl rfl)); have n1_ := am (hb); have n2_ := am (hi); clear HK HB HI0; have HK := n0_; have HB := n1_; have HI0 := n2_; clear n0_ n1_ n2_; (try clear hb); (try clear hb2); (try clear hk); (try clear hi)))
 go_ret
 exact ⟨by first | rfl | (simp [*] <;> rfl), s7_4, s7_5, s7_6⟩

theorem obk {A : Option Addr} {n c m d : Nat} : (Value.slice A n c).ownBlock = (Value.slice A m d).ownBlock := by cases A <;> rfl
mutual
def spec_l6Draw.l0 : Nat → List (S87) → List ByteArray → List ByteArray → Int → Int → List Int → Int → Int → Option ((List (S87)) × Int × Int)
 | 0, _, _, _, _, _, _, _, _ => none
 | k + 1, x3, x4, x16, x17, x18, x1000, x1001, x1002 => if x18 < x17 then (if 0 ≤ x18 then (if x18 < (x16.length : Int) then ((spec_l1Below.f x1000 x1001 x1002 80).bind fun bt238 => ((spec_AddDevice.f k x3 (rdOf ByteArray.empty x16 x18) 1 (⟨#[]⟩ : ByteArray) 0 0 0 0 bt238.1).bind fun bt241 => (spec_l6Draw.l0 k bt241.1 x4 x16 x17 (wrap64 (x18 + 1)) x1000 bt238.2.1 bt238.2.2))) else (none)) else (none)) else ((some (([(⟨#[97]⟩ : ByteArray), (⟨#[98]⟩ : ByteArray), (⟨#[99]⟩ : ByteArray), (⟨#[114]⟩ : ByteArray)] : List ByteArray) : List ByteArray)).bind fun y245 => ((spec_l1Below.f x1000 x1001 x1002 5).bind fun bt248 => (if 0 ≤ bt248.1 then (if bt248.1 ≤ (y245.length : Int) then ((some (y245.take (bt248.1 : Int).toNat : List ByteArray)).bind fun y251 => (spec_l6Draw.l1 k x3 x4 y251 y251 (y251.length : Int) 0 x1000 bt248.2.1 bt248.2.2)) else (none)) else (none))))
def spec_l6Draw.l1 : Nat → List (S87) → List ByteArray → List ByteArray → List ByteArray → Int → Int → List Int → Int → Int → Option ((List (S87)) × Int × Int)
 | 0, _, _, _, _, _, _, _, _, _ => none
 | k + 1, x3, x4, x7, x36, x37, x38, x1000, x1001, x1002 => if x38 < x37 then (if 0 ≤ x38 then (if x38 < (x36.length : Int) then ((spec_l1Str.f x1000 x1001 x1002 x4).bind fun bt255 => ((spec_l6Nozzle.f x1000 bt255.2.1 bt255.2.2 (rdOf ByteArray.empty x36 x38) bt255.1).bind fun bt258 => ((spec_AddDevice.f k x3 bt258.1 bt258.2.1 bt258.2.2.1 bt258.2.2.2.1 bt258.2.2.2.2.1 bt258.2.2.2.2.2.1 bt258.2.2.2.2.2.2.1 bt258.2.2.2.2.2.2.2.1).bind fun bt268 => (spec_l6Draw.l1 k bt268.1 x4 x7 x36 x37 (wrap64 (x38 + 1)) x1000 bt258.2.2.2.2.2.2.2.2.1 bt258.2.2.2.2.2.2.2.2.2)))) else (none)) else (none)) else (if (x7.length : Int) > 0 then ((spec_l1Once.f x1000 x1001 x1002 2).bind fun bt272 => (spec_l6Draw.j2 k x3 x7 bt272.1 x1000 bt272.2.1 bt272.2.2)) else (spec_l6Draw.j2 k x3 x7 false x1000 x1001 x1002))
def spec_l6Draw.j2 : Nat → List (S87) → List ByteArray → Bool → List Int → Int → Int → Option ((List (S87)) × Int × Int)
 | 0, _, _, _, _, _, _ => none
 | k + 1, x3, x7, x60, x1000, x1001, x1002 => if x60 = true then ((spec_l1Str.f x1000 x1001 x1002 (([(⟨#[108, 97, 109, 112]⟩ : ByteArray), (⟨#[122]⟩ : ByteArray)] : List ByteArray))).bind fun bt278 => ((spec_l1Str.f x1000 bt278.2.1 bt278.2.2 x7).bind fun bt281 => ((spec_l2Draw.f x1000 bt281.2.1 bt281.2.2).bind fun bt284 => ((spec_AddDevice.f k x3 bt278.1 3 bt281.1 bt284.1 bt284.2.1 0 0 0).bind fun bt288 => (some (bt288.1, bt284.2.2.1, bt284.2.2.2)))))) else (some (x3, x1001, x1002))
end
def spec_l6Draw.f (k : Nat) (s0_0 : List Int) (s0_1 : Int) (s0_2 : Int) : Option ((List (S87)) × Int × Int) := (some (([(⟨#[112]⟩ : ByteArray), (⟨#[113]⟩ : ByteArray)] : List ByteArray) : List ByteArray)).bind fun y228 => ((spec_l1Below.f s0_0 s0_1 s0_2 2).bind fun bt231 => (if 0 ≤ (wrap64 (1 + bt231.1)) then (if (wrap64 (1 + bt231.1)) ≤ (y228.length : Int) then ((some (y228.take ((wrap64 (1 + bt231.1)) : Int).toNat : List ByteArray)).bind fun y234 => (spec_l6Draw.l0 k (([] : List (S87))) y234 y234 (y234.length : Int) 0 s0_0 bt231.2.1 bt231.2.2)) else (none)) else (none)))
theorem spec_l6Draw.mono_l : ∀ k, (∀ y0 y1 y2 y3 y4 y5 y6 y7, LeO (spec_l6Draw.l0 k y0 y1 y2 y3 y4 y5 y6 y7) (spec_l6Draw.l0 (k + 1) y0 y1 y2 y3 y4 y5 y6 y7)) ∧ (∀ y0 y1 y2 y3 y4 y5 y6 y7 y8, LeO (spec_l6Draw.l1 k y0 y1 y2 y3 y4 y5 y6 y7 y8) (spec_l6Draw.l1 (k + 1) y0 y1 y2 y3 y4 y5 y6 y7 y8)) ∧ (∀ y0 y1 y2 y3 y4 y5, LeO (spec_l6Draw.j2 k y0 y1 y2 y3 y4 y5) (spec_l6Draw.j2 (k + 1) y0 y1 y2 y3 y4 y5))
 | 0 => ⟨fun _ _ _ _ _ _ _ _ r h => by simp [spec_l6Draw.l0] at h, fun _ _ _ _ _ _ _ _ _ r h => by simp [spec_l6Draw.l1] at h, fun _ _ _ _ _ _ r h => by simp [spec_l6Draw.j2] at h⟩
 | k + 1 => by
  obtain ⟨ih0, ih1, ih2⟩ := spec_l6Draw.mono_l k
  refine ⟨?_, ?_, ?_⟩
  ·intro y0 y1 y2 y3 y4 y5 y6 y7
   unfold spec_l6Draw.l0
   repeat' first
   | (with_reducible exact ih0 _ _ _ _ _ _ _ _)
   | (with_reducible exact ih1 _ _ _ _ _ _ _ _ _)
   | (with_reducible exact ih2 _ _ _ _ _ _)
   | (with_reducible exact spec_AddDevice.mono _ _ _ _ _ _ _ _ _ _)
   | (with_reducible exact LeO.refl _)
   | (with_reducible exact LeO.none _)
   | (with_reducible refine LeO.ite ?_ ?_)
   | (with_reducible refine LeO.bind ?_ (fun _ => ?_))
  ·intro y0 y1 y2 y3 y4 y5 y6 y7 y8
   unfold spec_l6Draw.l1
   repeat' first
   | (with_reducible exact ih0 _ _ _ _ _ _ _ _)
   | (with_reducible exact ih1 _ _ _ _ _ _ _ _ _)
   | (with_reducible exact ih2 _ _ _ _ _ _)
   | (with_reducible exact spec_AddDevice.mono _ _ _ _ _ _ _ _ _ _)
   | (with_reducible exact LeO.refl _)
   | (with_reducible exact LeO.none _)
   | (with_reducible refine LeO.ite ?_ ?_)
   | (with_reducible refine LeO.bind ?_ (fun _ => ?_))
  ·intro y0 y1 y2 y3 y4 y5
   unfold spec_l6Draw.j2
   repeat' first
   | (with_reducible exact ih0 _ _ _ _ _ _ _ _)
   | (with_reducible exact ih1 _ _ _ _ _ _ _ _ _)
   | (with_reducible exact ih2 _ _ _ _ _ _)
   | (with_reducible exact spec_AddDevice.mono _ _ _ _ _ _ _ _ _ _)
   | (with_reducible exact LeO.refl _)
   | (with_reducible exact LeO.none _)
   | (with_reducible refine LeO.ite ?_ ?_)
   | (with_reducible refine LeO.bind ?_ (fun _ => ?_))
theorem spec_l6Draw.mono : ∀ a0 a1 a2 k, LeO (spec_l6Draw.f k a0 a1 a2) (spec_l6Draw.f (k + 1) a0 a1 a2) := by
 intro a0 a1 a2 k
 obtain ⟨ih0, ih1, ih2⟩ := spec_l6Draw.mono_l k
 unfold spec_l6Draw.f
 repeat' first
   | (with_reducible exact ih0 _ _ _ _ _ _ _ _)
   | (with_reducible exact ih1 _ _ _ _ _ _ _ _ _)
   | (with_reducible exact ih2 _ _ _ _ _ _)
   | (with_reducible exact spec_AddDevice.mono _ _ _ _ _ _ _ _ _ _)
   | (with_reducible exact LeO.refl _)
   | (with_reducible exact LeO.none _)
   | (with_reducible refine LeO.ite ?_ ?_)
   | (with_reducible refine LeO.bind ?_ (fun _ => ?_))
set_option maxHeartbeats 8000000 in
set_option maxRecDepth 100000 in
theorem spec_l6Draw.calls (k : Nat) (g : Nat) (s0_0 : List Int) (s0_1 : Int) (s0_2 : Int) (r1 : List (S87)) (r2 : Int) (r3 : Int) (w0 w : World) (hI : IsS133 w0 w g s0_0 s0_1 s0_2) (hB : Below w0.heap.size w0 w) (h : spec_l6Draw.f k s0_0 s0_1 s0_2 = some (r1, r2, r3)) :
  Calls Try.prog 88 #[.pointer (some ⟨g, 0, none⟩)] w fun e w' => ∃ v0_ : Value, e = .returned (v0_) ∧ Kd.R k87 87 w' w.heap.size (fun _ => True) v0_ r1 ∧ IsS133 w0 w' g s0_0 r2 r3 ∧ Below w0.heap.size w0 w' ∧ KeepBut w w' g none := by
 have hu87 := Try.underlying87
 have HI0 := am hI
 have HK := am (KeepBut.refl w g none)
 have HL := am hB.size
 clear hI
 have HW0 := am hB.size
 have HB := am hB
 clear hB
 have H : ((some (([(⟨#[112]⟩ : ByteArray), (⟨#[113]⟩ : ByteArray)] : List ByteArray) : List ByteArray)).bind fun y228 => ((spec_l1Below.f s0_0 s0_1 s0_2 2).bind fun bt231 => (if 0 ≤ (wrap64 (1 + bt231.1)) then (if (wrap64 (1 + bt231.1)) ≤ (y228.length : Int) then ((some (y228.take ((wrap64 (1 + bt231.1)) : Int).toNat : List ByteArray)).bind fun y234 => (spec_l6Draw.l0 k (([] : List (S87))) y234 y234 (y234.length : Int) 0 s0_0 bt231.2.1 bt231.2.2)) else (none)) else (none)))) = some (r1, r2, r3) := h
 clear h
 obtain ⟨y225, hy225⟩ : ∃ y_ : List (S87), y_ = (([] : List (S87))) := ⟨_, rfl⟩
 replace H : ((some (([(⟨#[112]⟩ : ByteArray), (⟨#[113]⟩ : ByteArray)] : List ByteArray) : List ByteArray)).bind fun y228 => ((spec_l1Below.f s0_0 s0_1 s0_2 2).bind fun bt231 => (if 0 ≤ (wrap64 (1 + bt231.1)) then (if (wrap64 (1 + bt231.1)) ≤ (y228.length : Int) then ((some (y228.take ((wrap64 (1 + bt231.1)) : Int).toNat : List ByteArray)).bind fun y234 => (spec_l6Draw.l0 k y225 y234 y234 (y234.length : Int) 0 s0_0 bt231.2.1 bt231.2.2)) else (none)) else (none)))) = some (r1, r2, r3) := by first | (rw [hy225]; with_reducible exact H) | (have H2_ := (Option.bind_some _ _).symm.trans H; rw [hy225]; with_reducible exact H2_) | (have H2_ := (Option.bind_some _ _).symm.trans H; with_reducible exact H2_) | with_reducible exact H | (rw [hy225]; exact H) | exact H
 have Ny225 := am hy225
 clear hy225
 obtain ⟨y228, hy228⟩ : ∃ y_ : List ByteArray, y_ = (([(⟨#[112]⟩ : ByteArray), (⟨#[113]⟩ : ByteArray)] : List ByteArray)) := ⟨_, rfl⟩
 replace H : ((spec_l1Below.f s0_0 s0_1 s0_2 2).bind fun bt231 => (if 0 ≤ (wrap64 (1 + bt231.1)) then (if (wrap64 (1 + bt231.1)) ≤ (y228.length : Int) then ((some (y228.take ((wrap64 (1 + bt231.1)) : Int).toNat : List ByteArray)).bind fun y234 => (spec_l6Draw.l0 k y225 y234 y234 (y234.length : Int) 0 s0_0 bt231.2.1 bt231.2.2)) else (none)) else (none))) = some (r1, r2, r3) := by first | (rw [hy228]; with_reducible exact H) | (have H2_ := (Option.bind_some _ _).symm.trans H; rw [hy228]; with_reducible exact H2_) | (have H2_ := (Option.bind_some _ _).symm.trans H; with_reducible exact H2_) | with_reducible exact H | (rw [hy228]; exact H) | exact H
 have Ny228 := am hy228
 clear hy228
 replace H := Option.bind_eq_some_iff.mp H
 obtain ⟨⟨t231, t232, t233⟩, A20, H⟩ := H
 replace H : (if 0 ≤ (wrap64 (1 + t231)) then (if (wrap64 (1 + t231)) ≤ (y228.length : Int) then ((some (y228.take ((wrap64 (1 + t231)) : Int).toNat : List ByteArray)).bind fun y234 => (spec_l6Draw.l0 k y225 y234 y234 (y234.length : Int) 0 s0_0 t232 t233)) else (none)) else (none)) = some (r1, r2, r3) := H
 have A2 := am A20
 clear A20
 obtain ⟨ji3, hji3⟩ : ∃ j_ : Int, (wrap64 (1 + t231)) = j_ := ⟨_, rfl⟩
 replace H : (if 0 ≤ (ji3) then (if (ji3) ≤ (y228.length : Int) then ((some (y228.take ((ji3) : Int).toNat : List ByteArray)).bind fun y234 => (spec_l6Draw.l0 k y225 y234 y234 (y234.length : Int) 0 s0_0 t232 t233)) else (none)) else (none)) = some (r1, r2, r3) := by first | (rw [hji3] at H; exact H) | (simp only [hji3] at H ⊢; exact H)
 (try rw [hji3] at A2)
 have hji3w : (IntKind.i64.wrap (1 + t231)) = ji3 := (i64_w _).trans hji3
 by_cases c4 : 0 ≤ (ji3)
 ·rw [if_pos c4] at H
  have c4b0 := eq_true c4
  have c4b1 : decide (0 ≤ (ji3)) = true := decide_eq_true c4
  clear c4
  by_cases c5 : (ji3) ≤ (y228.length : Int)
  ·rw [if_pos c5] at H
   have c5b0 := eq_true c5
   have c5b1 : decide ((ji3) ≤ (y228.length : Int)) = true := decide_eq_true c5
   clear c5
   obtain ⟨y234, hy234⟩ : ∃ y_ : List ByteArray, y_ = (y228.take ((ji3) : Int).toNat) := ⟨_, rfl⟩
   replace H : (spec_l6Draw.l0 k y225 y234 y234 (y234.length : Int) 0 s0_0 t232 t233) = some (r1, r2, r3) := by first | (rw [hy234]; with_reducible exact H) | (have H2_ := (Option.bind_some _ _).symm.trans H; rw [hy234]; with_reducible exact H2_) | (have H2_ := (Option.bind_some _ _).symm.trans H; with_reducible exact H2_) | with_reducible exact H | (rw [hy234]; exact H) | exact H
   have Ny234 := am hy234
   clear hy234
   have H' := am H
   clear H
   go_enter Try.func88, Try.ntmps88
   go_wp2_with (first | ((with_reducible refine gate_dst (N := 10) rfl ?_); refine Kd.R_lit k87 _ 87 ?hg (N := 10) ?hd (xs := ([] : List (S87))) (inner := []) (ok := fun _ => True) (okp := fun _ => True) ?hr ?hp (fun _ hk => hk) trivial (Below.refl _ _) (Nat.le_refl _) (by simp) ?_; (case hd => rfl); (case hg => rfl); (case hr => exact gq); (case hp => exact (Reps.none _ _)); intro v226 w6 ho7 hb hg_ hnew_; clear hg_ hnew_; (first | rw [← Ny225.out] at ho7 | (simp only [Int.reduceToNat] at ho7; rw [← Ny225.out] at ho7)); have n0_ := am (Kd.R_lower ho7 (keep_size (w := w) (g := g) (row := none) u7_0)); have n1_ := am (IsS133.below u7_2 hb); have n2_ := am (KeepBut.trans u7_0 (KeepBut.of_below hb g none) (.inl rfl)); have n3_ := am (below_step u7_3 hb); clear HI0 HK HB; have HO227 := n0_; have HI0 := n1_; have HK := n2_; have HB := n3_; clear n0_ n1_ n2_ n3_ hb ho7) | ((with_reducible refine gate_dst (N := 11) rfl ?_); refine Kd.R_lit Kd.string _ 9 ?hg (N := 11) ?hd (xs := ([(⟨#[112]⟩ : ByteArray), (⟨#[113]⟩ : ByteArray)] : List ByteArray)) (inner := [.string (⟨#[112]⟩ : ByteArray), .string (⟨#[113]⟩ : ByteArray)]) (ok := fun _ => True) (okp := fun _ => True) ?hr ?hp (fun _ hk => hk) trivial (Below.refl _ _) (Nat.le_refl _) (by simp) ?_; (case hd => rfl); (case hg => rfl); (case hr => exact gq); (case hp => exact (Reps.one (show Kd.M Kd.string _ _ _ (⟨#[112]⟩ : ByteArray) [.string (⟨#[112]⟩ : ByteArray)] from rfl) (Reps.one (show Kd.M Kd.string _ _ _ (⟨#[113]⟩ : ByteArray) [.string (⟨#[113]⟩ : ByteArray)] from rfl) (Reps.none _ _)))); intro v229 w8 ho9 hb hg_ hnew_; clear hg_ hnew_; (first | rw [← Ny228.out] at ho9 | (simp only [Int.reduceToNat] at ho9; rw [← Ny228.out] at ho9)); have n0_ := am (Kd.R_below (by (with_reducible repeat (first | apply Kd.R_alloc | apply Kd.R_drewN | apply Kd.R_drew)); exact HO227.out) hb); have n1_ := am (Kd.R_lower ho9 (keep_size (w := w) (g := g) (row := none) u7_0)); have n2_ := am (IsS133.below u7_2 hb); have n3_ := am (KeepBut.trans u7_0 (KeepBut.of_below hb g none) (.inl rfl)); have n4_ := am (below_step u7_3 hb); clear HO227 HI0 HK HB; have HO227 := n0_; have HO230 := n1_; have HI0 := n2_; have HK := n3_; have HB := n4_; clear n0_ n1_ n2_ n3_ n4_ hb ho9) | ((with_reducible refine gate_callee (f := 110) rfl ?_); refine goesL_ (some 13) rfl rfl Try.func110 (by kernel_rfl) rfl #[.pointer (some ⟨g, 0, none⟩), .int .i64 2] rfl u7_1 ?_; (with_reducible refine (spec_l1Below.calls g s0_0 s0_1 s0_2 2 t231 t232 t233 w0 _ ?side1 ?side2 A2.out).mono ?_); (case side1 => exact s7_4); (case side2 => exact s7_5); rintro e w10 ⟨rfl, hi, hb, hk⟩; refine ⟨_, rfl, ?_⟩; have n0_ := am (Kd.R_mono (Kd.R_keep (IsS133.apart (show IsS133 w0 _ g s0_0 s0_1 s0_2 from by repeat (first | (with_reducible first | exact HI0.out | apply IsS133.alloc | apply IsS133.drewN | apply IsS133.drew | apply IsS133.set_1 | apply IsS133.set_2) | exact HI0.out)) (by (with_reducible repeat (first | apply Kd.R_alloc | apply Kd.R_drewN | apply Kd.R_drew)); exact HO227.out) u7_12) hk (fun _ h => h.2)) (fun _ h => h.1)); have n1_ := am (Kd.R_mono (Kd.R_keep (IsS133.apart (show IsS133 w0 _ g s0_0 s0_1 s0_2 from by repeat (first | (with_reducible first | exact HI0.out | apply IsS133.alloc | apply IsS133.drewN | apply IsS133.drew | apply IsS133.set_1 | apply IsS133.set_2) | exact HI0.out)) (by (with_reducible repeat (first | apply Kd.R_alloc | apply Kd.R_drewN | apply Kd.R_drew)); exact HO230.out) u7_12) hk (fun _ h => h.2)) (fun _ h => h.1)); have n2_ := am (KeepBut.trans u7_0 hk (.inl rfl)); have n3_ := am (hb); have n4_ := am (hi); clear HO227 HO230 HK HB HI0; have HO227 := n0_; have HO230 := n1_; have HK := n2_; have HB := n3_; have HI0 := n4_; clear n0_ n1_ n2_ n3_ n4_; (try clear hb); (try clear hb2); (try clear hk); (try clear hi); obtain ⟨Ao11, co11, eo11⟩ := Kd.R_slice HO230.out; subst eo11; have q12 : ((ji3) : Int) ≤ ((y228.length : Int) : Int) := od (by assumption); obtain ⟨i012, hi012, _, hsz12, _⟩ := info_parts info9; have hcut12 := cut_to (P := Try.prog) 23 9 .i64 Try.underlying23 hi012 Ao11 y228.length co11 (ji3) (od (by assumption)) q12 (Kd.R_reads' HO230.out).2.1; have hr12 := Kd.R_take (m := ((ji3) : Int).toNat) HO230.out (by omega); have hy12 : y234.length = ((ji3) : Int).toNat := (by rw [Ny234.out, List.length_take]; omega); rw [← Ny234.out] at hr12; rw [← hy12] at hr12 hcut12; clear hy12 hi012 hsz12 HO230; have HO236 := am hr12; clear hr12; replace q12 := eq_true q12))
   go_loopg [3, 18] k (fun kq v3 v18 w' => ∃ (x3_1 : List (S87)) (x18_1 : Int) (x1001_1 : Int) (x1002_1 : Int), v18 = .int .i64 x18_1 ∧ Aside0 (spec_l6Draw.l0 kq x3_1 y234 y234 (y234.length : Int) x18_1 s0_0 x1001_1 x1002_1 = some (r1, r2, r3)) ∧ Aside0 (kq ≤ k) ∧ Aside0 (Kd.R k87 87 w' w.heap.size (fun _ => True) v3 x3_1) ∧ Aside0 (Kd.R Kd.string 9 w' w.heap.size (fun _ => True) (.slice Ao11 y234.length co11) y234) ∧ Aside0 (Kd.R Kd.string 9 w' w.heap.size (fun _ => True) (.slice Ao11 y234.length co11) y234) ∧ Aside0 (IsS133 w0 w' g s0_0 x1001_1 x1002_1) ∧ Aside0 (KeepBut w w' g none) ∧ Aside0 (Below w0.heap.size w0 w'))
   case atStart => exact ⟨(y225), (0), (t232), (t233), u7_13, H', ⟨Nat.le_refl _⟩, ⟨by (with_reducible repeat (first | apply Kd.R_alloc | apply Kd.R_drewN | apply Kd.R_drew)); exact HO227.out⟩, ⟨by (with_reducible repeat (first | apply Kd.R_alloc | apply Kd.R_drewN | apply Kd.R_drew)); exact HO236.out⟩, ⟨by (with_reducible repeat (first | apply Kd.R_alloc | apply Kd.R_drewN | apply Kd.R_drew)); exact HO236.out⟩, ⟨s7_4⟩, ⟨s7_6⟩, ⟨s7_5⟩⟩
   case round =>
    clear H'
    try clear c1
    try clear q1
    try clear p2
    try clear c4
    try clear c4b0
    try clear c4b1
    try clear c5
    try clear c5b0
    try clear c5b1
    try clear p6
    try clear c8
    try clear c11
    try clear q12
    try clear q12
    obtain ⟨x3_1, x18_1, x1001_1, x1002_1, rfl, HA, HK1, HO_3, HO_4, HO_16, HI0, HK, HB⟩ := hrel
    cases gk with
    | zero => exact absurd HA.out (by simp [spec_l6Draw.l0])
    | succ k1 =>
     have H := HA.out
     clear HA
     simp only [spec_l6Draw.l0] at H
     by_cases c13 : x18_1 < (y234.length : Int)
     ·rw [if_pos c13] at H
      have c13b0 : decide (x18_1 < (y234.length : Int)) = true := decide_eq_true c13
      clear c13
      by_cases c14 : 0 ≤ x18_1
      ·rw [if_pos c14] at H
       have c14b0 : decide (0 ≤ x18_1) = true := decide_eq_true c14
       clear c14
       by_cases c15 : x18_1 < (y234.length : Int)
       ·rw [if_pos c15] at H
        have c15b0 : decide (x18_1 < (y234.length : Int)) = true := decide_eq_true c15
        clear c15
        replace H := Option.bind_eq_some_iff.mp H
        obtain ⟨⟨t238, t239, t240⟩, A160, H⟩ := H
        replace H : ((spec_AddDevice.f k1 x3_1 (rdOf ByteArray.empty y234 x18_1) 1 (⟨#[]⟩ : ByteArray) 0 0 0 0 t238).bind fun bt241 => (spec_l6Draw.l0 k1 bt241.1 y234 y234 (y234.length : Int) (wrap64 (x18_1 + 1)) s0_0 t239 t240)) = some (r1, r2, r3) := H
        have A16 := am A160
        clear A160
        replace H := Option.bind_eq_some_iff.mp H
        obtain ⟨⟨t241, t244⟩, A170, H⟩ := H
        replace H : (spec_l6Draw.l0 k1 t241 y234 y234 (y234.length : Int) (wrap64 (x18_1 + 1)) s0_0 t239 t240) = some (r1, r2, r3) := H
        have A17 := am A170
        clear A170
        have H' := am H
        clear H
        have p237 : 0 ≤ (x18_1 : Int) := od (by assumption)
        have q237 : x18_1 < (y234.length : Int) := od (by assumption)
        obtain ⟨ad237, e237, hx237_0⟩ := Kd.at_string (Kd.R_reads' HO_16.out).2.2 x18_1 p237 q237
        cases e237
        replace p237 := eq_true p237
        replace q237 := eq_true q237
        go_wp2_with (first | ((with_reducible refine gate_callee (f := 110) rfl ?_); refine goesL_ (some 26) rfl rfl Try.func110 (by kernel_rfl) rfl #[.pointer (some ⟨g, 0, none⟩), .int .i64 80] rfl u7_1 ?_; (with_reducible refine (spec_l1Below.calls g s0_0 x1001_1 x1002_1 80 t238 t239 t240 w0 _ ?side1 ?side2 A16.out).mono ?_); (case side1 => exact s7_4); (case side2 => exact s7_5); rintro e w18 ⟨rfl, hi, hb, hk⟩; refine ⟨_, rfl, ?_⟩; have n0_ := am (Kd.R_mono (Kd.R_keep (IsS133.apart (show IsS133 w0 _ g s0_0 x1001_1 x1002_1 from by repeat (first | (with_reducible first | exact HI0.out | apply IsS133.alloc | apply IsS133.drewN | apply IsS133.drew | apply IsS133.set_1 | apply IsS133.set_2) | exact HI0.out)) u7_4 u7_12) hk (fun _ h => h.2)) (fun _ h => h.1)); have n1_ := am (Kd.R_mono (Kd.R_keep (IsS133.apart (show IsS133 w0 _ g s0_0 x1001_1 x1002_1 from by repeat (first | (with_reducible first | exact HI0.out | apply IsS133.alloc | apply IsS133.drewN | apply IsS133.drew | apply IsS133.set_1 | apply IsS133.set_2) | exact HI0.out)) u7_6 u7_12) hk (fun _ h => h.2)) (fun _ h => h.1)); have n2_ := am (Kd.R_mono (Kd.R_keep (IsS133.apart (show IsS133 w0 _ g s0_0 x1001_1 x1002_1 from by repeat (first | (with_reducible first | exact HI0.out | apply IsS133.alloc | apply IsS133.drewN | apply IsS133.drew | apply IsS133.set_1 | apply IsS133.set_2) | exact HI0.out)) u7_9 u7_12) hk (fun _ h => h.2)) (fun _ h => h.1)); have n3_ := am (KeepBut.trans u7_0 hk (.inl rfl)); have n4_ := am (hb); have n5_ := am (hi); clear HO_3 HO_4 HO_16 HK HB HI0; have HO_3 := n0_; have HO_4 := n1_; have HO_16 := n2_; have HK := n3_; have HB := n4_; have HI0 := n5_; clear n0_ n1_ n2_ n3_ n4_ n5_; (try clear hb); (try clear hb2); (try clear hk); (try clear hi); obtain ⟨Ao19, co19, eo19⟩ := Kd.R_slice HO_3.out; subst eo19) | ((with_reducible refine gate_callee (f := 126) rfl ?_); refine goesL_ (some 28) rfl rfl Try.func126 (by kernel_rfl) rfl #[.slice Ao19 x3_1.length co19, .agg #[.string (rdOf ByteArray.empty y234 x18_1), .int .i64 1, .string (⟨#[]⟩ : ByteArray), .int .i64 0, .int .i64 0, .int .i64 0, .int .i64 0, .int .i64 t238]] rfl u7_1 ?_; (with_reducible refine (spec_AddDevice.calls k1 _ _ x3_1 (rdOf ByteArray.empty y234 x18_1) 1 (⟨#[]⟩ : ByteArray) 0 0 0 0 t238 t241 t244 _ ?side1 ?side2 A17.out).mono ?_); (case side1 => exact y7_0); (case side2 => exact (Kd.R_reads' HO_3.out).2.1); rintro e w20 ⟨v242, rfl, ho0, hb⟩; refine ⟨_, rfl, ?_⟩; have n0_ := am (Kd.R_elder' u7_4 (Kd.R_base ho0) hb); have n1_ := am (Kd.R_below u7_6 hb); have n2_ := am (Kd.R_below u7_9 hb); have n3_ := am (Kd.R_lower (Kd.R_new' ho0 (Kd.R_lt u7_4)) (keep_size (w := w) (g := g) (row := none) u7_0)); have n4_ := am (IsS133.below u7_2 hb); have n5_ := am (KeepBut.trans u7_0 (KeepBut.of_below hb g none) (.inl rfl)); have n6_ := am (below_step u7_3 hb); clear HO_3 HO_4 HO_16 HI0 HK HB; have HO_3 := n0_; have HO_4 := n1_; have HO_16 := n2_; have HO243 := n3_; have HI0 := n4_; have HK := n5_; have HB := n6_; clear n0_ n1_ n2_ n3_ n4_ n5_ n6_; (try clear hb); (try clear hb2); (try clear hk); (try clear hi); (try clear ho0)))
        go_roundg k1
        case measure => have := HK1.out; omega
        case rel => exact ⟨(t241), (wrap64 (x18_1 + 1)), (t239), (t240), u7_13, H', ⟨by have := HK1.out; omega⟩, ⟨by (with_reducible repeat (first | apply Kd.R_alloc | apply Kd.R_drewN | apply Kd.R_drew)); exact Kd.R_mono HO243.out (fun _ hk => trivial)⟩, ⟨by (with_reducible repeat (first | apply Kd.R_alloc | apply Kd.R_drewN | apply Kd.R_drew)); exact HO_4.out⟩, ⟨by (with_reducible repeat (first | apply Kd.R_alloc | apply Kd.R_drewN | apply Kd.R_drew)); exact HO_16.out⟩, ⟨s7_4⟩, ⟨s7_6⟩, ⟨s7_5⟩⟩
       ·rw [if_neg c15] at H
        exact absurd H (by simp)
      ·rw [if_neg c14] at H
       exact absurd H (by simp)
     ·rw [if_neg c13] at H
      have c13b0 : decide (x18_1 < (y234.length : Int)) = false := decide_eq_false c13
      clear c13
      obtain ⟨y245, hy245⟩ : ∃ y_ : List ByteArray, y_ = (([(⟨#[97]⟩ : ByteArray), (⟨#[98]⟩ : ByteArray), (⟨#[99]⟩ : ByteArray), (⟨#[114]⟩ : ByteArray)] : List ByteArray)) := ⟨_, rfl⟩
      replace H : ((spec_l1Below.f s0_0 x1001_1 x1002_1 5).bind fun bt248 => (if 0 ≤ bt248.1 then (if bt248.1 ≤ (y245.length : Int) then ((some (y245.take (bt248.1 : Int).toNat : List ByteArray)).bind fun y251 => (spec_l6Draw.l1 k1 x3_1 y234 y251 y251 (y251.length : Int) 0 s0_0 bt248.2.1 bt248.2.2)) else (none)) else (none))) = some (r1, r2, r3) := by first | (rw [hy245]; with_reducible exact H) | (have H2_ := (Option.bind_some _ _).symm.trans H; rw [hy245]; with_reducible exact H2_) | (have H2_ := (Option.bind_some _ _).symm.trans H; with_reducible exact H2_) | with_reducible exact H | (rw [hy245]; exact H) | exact H
      have Ny245 := am hy245
      clear hy245
      replace H := Option.bind_eq_some_iff.mp H
      obtain ⟨⟨t248, t249, t250⟩, A210, H⟩ := H
      replace H : (if 0 ≤ t248 then (if t248 ≤ (y245.length : Int) then ((some (y245.take (t248 : Int).toNat : List ByteArray)).bind fun y251 => (spec_l6Draw.l1 k1 x3_1 y234 y251 y251 (y251.length : Int) 0 s0_0 t249 t250)) else (none)) else (none)) = some (r1, r2, r3) := H
      have A21 := am A210
      clear A210
      by_cases c22 : 0 ≤ t248
      ·rw [if_pos c22] at H
       have c22b0 := eq_true c22
       have c22b1 : decide (0 ≤ t248) = true := decide_eq_true c22
       clear c22
       by_cases c23 : t248 ≤ (y245.length : Int)
       ·rw [if_pos c23] at H
        have c23b0 := eq_true c23
        have c23b1 : decide (t248 ≤ (y245.length : Int)) = true := decide_eq_true c23
        clear c23
        obtain ⟨y251, hy251⟩ : ∃ y_ : List ByteArray, y_ = (y245.take (t248 : Int).toNat) := ⟨_, rfl⟩
        replace H : (spec_l6Draw.l1 k1 x3_1 y234 y251 y251 (y251.length : Int) 0 s0_0 t249 t250) = some (r1, r2, r3) := by first | (rw [hy251]; with_reducible exact H) | (have H2_ := (Option.bind_some _ _).symm.trans H; rw [hy251]; with_reducible exact H2_) | (have H2_ := (Option.bind_some _ _).symm.trans H; with_reducible exact H2_) | with_reducible exact H | (rw [hy251]; exact H) | exact H
        have Ny251 := am hy251
        clear hy251
        have H' := am H
        clear H
        go_wp2_with (first | ((with_reducible refine gate_dst (N := 32) rfl ?_); refine Kd.R_lit Kd.string _ 9 ?hg (N := 32) ?hd (xs := ([(⟨#[97]⟩ : ByteArray), (⟨#[98]⟩ : ByteArray), (⟨#[99]⟩ : ByteArray), (⟨#[114]⟩ : ByteArray)] : List ByteArray)) (inner := [.string (⟨#[97]⟩ : ByteArray), .string (⟨#[98]⟩ : ByteArray), .string (⟨#[99]⟩ : ByteArray), .string (⟨#[114]⟩ : ByteArray)]) (ok := fun _ => True) (okp := fun _ => True) ?hr ?hp (fun _ hk => hk) trivial (Below.refl _ _) (Nat.le_refl _) (by simp) ?_; (case hd => rfl); (case hg => rfl); (case hr => exact gq); (case hp => exact (Reps.one (show Kd.M Kd.string _ _ _ (⟨#[97]⟩ : ByteArray) [.string (⟨#[97]⟩ : ByteArray)] from rfl) (Reps.one (show Kd.M Kd.string _ _ _ (⟨#[98]⟩ : ByteArray) [.string (⟨#[98]⟩ : ByteArray)] from rfl) (Reps.one (show Kd.M Kd.string _ _ _ (⟨#[99]⟩ : ByteArray) [.string (⟨#[99]⟩ : ByteArray)] from rfl) (Reps.one (show Kd.M Kd.string _ _ _ (⟨#[114]⟩ : ByteArray) [.string (⟨#[114]⟩ : ByteArray)] from rfl) (Reps.none _ _)))))); intro v246 w24 ho25 hb hg_ hnew_; clear hg_ hnew_; (first | rw [← Ny245.out] at ho25 | (simp only [Int.reduceToNat] at ho25; rw [← Ny245.out] at ho25)); have n0_ := am (Kd.R_below u7_4 hb); have n1_ := am (Kd.R_elder' u7_6 (Kd.R_base ho25) hb); have n2_ := am (Kd.R_elder' u7_9 (Kd.R_base ho25) hb); have n3_ := am (Kd.R_lower (Kd.R_new' (Kd.R_new' ho25 (Kd.R_lt u7_6)) (Kd.R_lt u7_9)) (keep_size (w := w) (g := g) (row := none) u7_0)); have n4_ := am (IsS133.below u7_2 hb); have n5_ := am (KeepBut.trans u7_0 (KeepBut.of_below hb g none) (.inl rfl)); have n6_ := am (below_step u7_3 hb); clear HO_3 HO_4 HO_16 HI0 HK HB; have HO_3 := n0_; have HO_4 := n1_; have HO_16 := n2_; have HO247 := n3_; have HI0 := n4_; have HK := n5_; have HB := n6_; clear n0_ n1_ n2_ n3_ n4_ n5_ n6_ hb ho25) | ((with_reducible refine gate_callee (f := 110) rfl ?_); refine goesL_ (some 34) rfl rfl Try.func110 (by kernel_rfl) rfl #[.pointer (some ⟨g, 0, none⟩), .int .i64 5] rfl u7_1 ?_; (with_reducible refine (spec_l1Below.calls g s0_0 x1001_1 x1002_1 5 t248 t249 t250 w0 _ ?side1 ?side2 A21.out).mono ?_); (case side1 => exact s7_4); (case side2 => exact s7_5); rintro e w26 ⟨rfl, hi, hb, hk⟩; refine ⟨_, rfl, ?_⟩; have n0_ := am (Kd.R_mono (Kd.R_keep (IsS133.apart (show IsS133 w0 _ g s0_0 x1001_1 x1002_1 from by repeat (first | (with_reducible first | exact HI0.out | apply IsS133.alloc | apply IsS133.drewN | apply IsS133.drew | apply IsS133.set_1 | apply IsS133.set_2) | exact HI0.out)) u7_4 u7_12) hk (fun _ h => h.2)) (fun _ h => h.1)); have n1_ := am (Kd.R_mono (Kd.R_keep (IsS133.apart (show IsS133 w0 _ g s0_0 x1001_1 x1002_1 from by repeat (first | (with_reducible first | exact HI0.out | apply IsS133.alloc | apply IsS133.drewN | apply IsS133.drew | apply IsS133.set_1 | apply IsS133.set_2) | exact HI0.out)) u7_6 u7_12) hk (fun _ h => h.2)) (fun _ h => h.1)); have n2_ := am (Kd.R_mono (Kd.R_keep (IsS133.apart (show IsS133 w0 _ g s0_0 x1001_1 x1002_1 from by repeat (first | (with_reducible first | exact HI0.out | apply IsS133.alloc | apply IsS133.drewN | apply IsS133.drew | apply IsS133.set_1 | apply IsS133.set_2) | exact HI0.out)) u7_9 u7_12) hk (fun _ h => h.2)) (fun _ h => h.1)); have n3_ := am (Kd.R_mono (Kd.R_keep (IsS133.apart (show IsS133 w0 _ g s0_0 x1001_1 x1002_1 from by repeat (first | (with_reducible first | exact HI0.out | apply IsS133.alloc | apply IsS133.drewN | apply IsS133.drew | apply IsS133.set_1 | apply IsS133.set_2) | exact HI0.out)) (by (with_reducible repeat (first | apply Kd.R_alloc | apply Kd.R_drewN | apply Kd.R_drew)); exact HO247.out) u7_12) hk (fun _ h => h.2)) (fun _ h => h.1)); have n4_ := am (KeepBut.trans u7_0 hk (.inl rfl)); have n5_ := am (hb); have n6_ := am (hi); clear HO_3 HO_4 HO_16 HO247 HK HB HI0; have HO_3 := n0_; have HO_4 := n1_; have HO_16 := n2_; have HO247 := n3_; have HK := n4_; have HB := n5_; have HI0 := n6_; clear n0_ n1_ n2_ n3_ n4_ n5_ n6_; (try clear hb); (try clear hb2); (try clear hk); (try clear hi); obtain ⟨Ao27, co27, eo27⟩ := Kd.R_slice HO247.out; subst eo27; have q28 : (t248 : Int) ≤ ((y245.length : Int) : Int) := od (by assumption); obtain ⟨i028, hi028, _, hsz28, _⟩ := info_parts info9; have hcut28 := cut_to (P := Try.prog) 23 9 .i64 Try.underlying23 hi028 Ao27 y245.length co27 t248 (od (by assumption)) q28 (Kd.R_reads' HO247.out).2.1; have hr28 := Kd.R_take (m := (t248 : Int).toNat) HO247.out (by omega); have hy28 : y251.length = (t248 : Int).toNat := (by rw [Ny251.out, List.length_take]; omega); rw [← Ny251.out] at hr28; rw [← hy28] at hr28 hcut28; clear hy28 hi028 hsz28 HO247; have HO253 := am hr28; clear hr28; replace q28 := eq_true q28))
        go_loopg [3, 38] k1 (fun kq v3 v38 w' => ∃ (x3_2 : List (S87)) (x38_2 : Int) (x1001_2 : Int) (x1002_2 : Int), v38 = .int .i64 x38_2 ∧ Aside0 (spec_l6Draw.l1 kq x3_2 y234 y251 y251 (y251.length : Int) x38_2 s0_0 x1001_2 x1002_2 = some (r1, r2, r3)) ∧ Aside0 (kq ≤ k1) ∧ Aside0 (Kd.R k87 87 w' w.heap.size (fun _ => True) v3 x3_2) ∧ Aside0 (Kd.R Kd.string 9 w' w.heap.size (fun k_ => some k_ ≠ ((.slice Ao27 y251.length co27) : Value).ownBlock ∧ some k_ ≠ ((.slice Ao27 y251.length co27) : Value).ownBlock) (.slice Ao11 y234.length co11) y234) ∧ Aside0 (Kd.R Kd.string 9 w' w.heap.size (fun k_ => some k_ ≠ ((.slice Ao11 y234.length co11) : Value).ownBlock) (.slice Ao27 y251.length co27) y251) ∧ Aside0 (Kd.R Kd.string 9 w' w.heap.size (fun k_ => some k_ ≠ ((.slice Ao11 y234.length co11) : Value).ownBlock) (.slice Ao27 y251.length co27) y251) ∧ Aside0 (IsS133 w0 w' g s0_0 x1001_2 x1002_2) ∧ Aside0 (KeepBut w w' g none) ∧ Aside0 (Below w0.heap.size w0 w'))
        case atStart => exact ⟨(x3_1), (0), (t249), (t250), u7_13, H', ⟨Nat.le_refl _⟩, ⟨by (with_reducible repeat (first | apply Kd.R_alloc | apply Kd.R_drewN | apply Kd.R_drew)); exact HO_3.out⟩, ⟨by (with_reducible repeat (first | apply Kd.R_alloc | apply Kd.R_drewN | apply Kd.R_drew)); exact Kd.R_mono HO_4.out (fun _ hk => ⟨fun e_ => hk.2 (e_.trans obk), fun e_ => hk.2 (e_.trans obk)⟩)⟩, ⟨by (with_reducible repeat (first | apply Kd.R_alloc | apply Kd.R_drewN | apply Kd.R_drew)); exact Kd.R_mono HO253.out (fun _ hk => hk.1.2)⟩, ⟨by (with_reducible repeat (first | apply Kd.R_alloc | apply Kd.R_drewN | apply Kd.R_drew)); exact Kd.R_mono HO253.out (fun _ hk => hk.1.2)⟩, ⟨s7_4⟩, ⟨s7_6⟩, ⟨s7_5⟩⟩
        case round =>
         clear H'
         try clear c1
         try clear q1
         try clear c2
         try clear p2
         try clear q2
         try clear hx2
         try clear c4
         try clear c4b0
         try clear c4b1
         try clear c5
         try clear c5b0
         try clear c5b1
         try clear p6
         try clear c8
         try clear c11
         try clear c12
         try clear q12
         try clear c13
         try clear c13b0
         try clear c14
         try clear c14b0
         try clear c15
         try clear c15b0
         try clear c22
         try clear c22b0
         try clear c22b1
         try clear c23
         try clear c23b0
         try clear c23b1
         try clear p23
         try clear q23
         try clear hx23
         try clear q28
         try clear hx237_0
         try clear p2
         try clear p237
         try clear p6
         try clear q1
         try clear q12
         try clear q237
         try clear q28
         obtain ⟨x3_2, x38_2, x1001_2, x1002_2, rfl, HA, HK2, HO_3, HO_4, HO_7, HO_36, HI0, HK, HB⟩ := hrel
         cases gk with
         | zero => exact absurd HA.out (by simp [spec_l6Draw.l1])
         | succ k2 =>
          have H := HA.out
          clear HA
          simp only [spec_l6Draw.l1] at H
          by_cases c29 : x38_2 < (y251.length : Int)
          ·rw [if_pos c29] at H
           have c29b0 : decide (x38_2 < (y251.length : Int)) = true := decide_eq_true c29
           clear c29
           by_cases c30 : 0 ≤ x38_2
           ·rw [if_pos c30] at H
            have c30b0 : decide (0 ≤ x38_2) = true := decide_eq_true c30
            clear c30
            by_cases c31 : x38_2 < (y251.length : Int)
            ·rw [if_pos c31] at H
             have c31b0 : decide (x38_2 < (y251.length : Int)) = true := decide_eq_true c31
             clear c31
             replace H := Option.bind_eq_some_iff.mp H
             obtain ⟨⟨t255, t256, t257⟩, A320, H⟩ := H
             replace H : ((spec_l6Nozzle.f s0_0 t256 t257 (rdOf ByteArray.empty y251 x38_2) t255).bind fun bt258 => ((spec_AddDevice.f k2 x3_2 bt258.1 bt258.2.1 bt258.2.2.1 bt258.2.2.2.1 bt258.2.2.2.2.1 bt258.2.2.2.2.2.1 bt258.2.2.2.2.2.2.1 bt258.2.2.2.2.2.2.2.1).bind fun bt268 => (spec_l6Draw.l1 k2 bt268.1 y234 y251 y251 (y251.length : Int) (wrap64 (x38_2 + 1)) s0_0 bt258.2.2.2.2.2.2.2.2.1 bt258.2.2.2.2.2.2.2.2.2))) = some (r1, r2, r3) := H
             have A32 := am A320
             clear A320
             replace H := Option.bind_eq_some_iff.mp H
             obtain ⟨⟨t258, t259, t260, t261, t262, t263, t264, t265, t266, t267⟩, A330, H⟩ := H
             replace H : ((spec_AddDevice.f k2 x3_2 t258 t259 t260 t261 t262 t263 t264 t265).bind fun bt268 => (spec_l6Draw.l1 k2 bt268.1 y234 y251 y251 (y251.length : Int) (wrap64 (x38_2 + 1)) s0_0 t266 t267)) = some (r1, r2, r3) := H
             have A33 := am A330
             clear A330
             replace H := Option.bind_eq_some_iff.mp H
             obtain ⟨⟨t268, t271⟩, A340, H⟩ := H
             replace H : (spec_l6Draw.l1 k2 t268 y234 y251 y251 (y251.length : Int) (wrap64 (x38_2 + 1)) s0_0 t266 t267) = some (r1, r2, r3) := H
             have A34 := am A340
             clear A340
             have H' := am H
             clear H
             have p254 : 0 ≤ (x38_2 : Int) := od (by assumption)
             have q254 : x38_2 < (y251.length : Int) := od (by assumption)
             obtain ⟨ad254, e254, hx254_0⟩ := Kd.at_string (Kd.R_reads' HO_36.out).2.2 x38_2 p254 q254
             cases e254
             replace p254 := eq_true p254
             replace q254 := eq_true q254
             go_wp2_with (first | ((with_reducible refine gate_callee (f := 118) rfl ?_); refine goesL_ (some 48) rfl rfl Try.func118 (by kernel_rfl) rfl #[.pointer (some ⟨g, 0, none⟩), .slice Ao11 y234.length co11] rfl u7_1 ?_; (with_reducible refine (spec_l1Str.calls g s0_0 x1001_2 x1002_2 _ _ y234 t255 t256 t257 w0 _ ?side1 ?side2 ?side3 ?side4 ?side5 A32.out).mono ?_); (case side1 => exact s7_4); (case side2 => exact s7_5); (case side3 => repeat (first | exact (Kd.R_reads' HO_4.out).2.2 | (with_reducible refine Kd.C_alloc ?_ _) | (with_reducible refine Kd.C_drewN ?_ _) | (with_reducible refine Kd.C_drew ?_))); (case side4 => exact (Kd.R_reads' HO_4.out).2.1); (case side5 => exact far_slice (IsS133.own_ne HI0.out HO_4.out u7_12)); rintro e w35 ⟨rfl, hi, hb, hk⟩; refine ⟨_, rfl, ?_⟩; have n0_ := am (Kd.R_mono (Kd.R_keep (IsS133.apart (show IsS133 w0 _ g s0_0 x1001_2 x1002_2 from by repeat (first | (with_reducible first | exact HI0.out | apply IsS133.alloc | apply IsS133.drewN | apply IsS133.drew | apply IsS133.set_1 | apply IsS133.set_2) | exact HI0.out)) u7_4 u7_12) hk (fun _ h => h.2)) (fun _ h => h.1)); have n1_ := am (Kd.R_mono (Kd.R_keep (IsS133.apart (show IsS133 w0 _ g s0_0 x1001_2 x1002_2 from by repeat (first | (with_reducible first | exact HI0.out | apply IsS133.alloc | apply IsS133.drewN | apply IsS133.drew | apply IsS133.set_1 | apply IsS133.set_2) | exact HI0.out)) u7_6 u7_12) hk (fun _ h => h.2)) (fun _ h => h.1)); have n2_ := am (Kd.R_mono (Kd.R_keep (IsS133.apart (show IsS133 w0 _ g s0_0 x1001_2 x1002_2 from by repeat (first | (with_reducible first | exact HI0.out | apply IsS133.alloc | apply IsS133.drewN | apply IsS133.drew | apply IsS133.set_1 | apply IsS133.set_2) | exact HI0.out)) u7_5 u7_12) hk (fun _ h => h.2)) (fun _ h => h.1)); have n3_ := am (Kd.R_mono (Kd.R_keep (IsS133.apart (show IsS133 w0 _ g s0_0 x1001_2 x1002_2 from by repeat (first | (with_reducible first | exact HI0.out | apply IsS133.alloc | apply IsS133.drewN | apply IsS133.drew | apply IsS133.set_1 | apply IsS133.set_2) | exact HI0.out)) u7_10 u7_12) hk (fun _ h => h.2)) (fun _ h => h.1)); have n4_ := am (KeepBut.trans u7_0 hk (.inl rfl)); have n5_ := am (hb); have n6_ := am (hi); clear HO_3 HO_4 HO_7 HO_36 HK HB HI0; have HO_3 := n0_; have HO_4 := n1_; have HO_7 := n2_; have HO_36 := n3_; have HK := n4_; have HB := n5_; have HI0 := n6_; clear n0_ n1_ n2_ n3_ n4_ n5_ n6_; (try clear hb); (try clear hb2); (try clear hk); (try clear hi)) | ((with_reducible refine gate_callee (f := 127) rfl ?_); refine goesL_ (some 49) rfl rfl Try.func127 (by kernel_rfl) rfl #[.pointer (some ⟨g, 0, none⟩), .string (rdOf ByteArray.empty y251 x38_2), .string t255] rfl u7_1 ?_; (with_reducible refine (spec_l6Nozzle.calls g s0_0 t256 t257 (rdOf ByteArray.empty y251 x38_2) t255 t258 t259 t260 t261 t262 t263 t264 t265 t266 t267 w0 _ ?side1 ?side2 A33.out).mono ?_); (case side1 => exact s7_4); (case side2 => exact s7_5); rintro e w36 ⟨rfl, hi, hb, hk⟩; refine ⟨_, rfl, ?_⟩; have n0_ := am (Kd.R_mono (Kd.R_keep (IsS133.apart (show IsS133 w0 _ g s0_0 t256 t257 from by repeat (first | (with_reducible first | exact HI0.out | apply IsS133.alloc | apply IsS133.drewN | apply IsS133.drew | apply IsS133.set_1 | apply IsS133.set_2) | exact HI0.out)) u7_4 u7_12) hk (fun _ h => h.2)) (fun _ h => h.1)); have n1_ := am (Kd.R_mono (Kd.R_keep (IsS133.apart (show IsS133 w0 _ g s0_0 t256 t257 from by repeat (first | (with_reducible first | exact HI0.out | apply IsS133.alloc | apply IsS133.drewN | apply IsS133.drew | apply IsS133.set_1 | apply IsS133.set_2) | exact HI0.out)) u7_6 u7_12) hk (fun _ h => h.2)) (fun _ h => h.1)); have n2_ := am (Kd.R_mono (Kd.R_keep (IsS133.apart (show IsS133 w0 _ g s0_0 t256 t257 from by repeat (first | (with_reducible first | exact HI0.out | apply IsS133.alloc | apply IsS133.drewN | apply IsS133.drew | apply IsS133.set_1 | apply IsS133.set_2) | exact HI0.out)) u7_5 u7_12) hk (fun _ h => h.2)) (fun _ h => h.1)); have n3_ := am (Kd.R_mono (Kd.R_keep (IsS133.apart (show IsS133 w0 _ g s0_0 t256 t257 from by repeat (first | (with_reducible first | exact HI0.out | apply IsS133.alloc | apply IsS133.drewN | apply IsS133.drew | apply IsS133.set_1 | apply IsS133.set_2) | exact HI0.out)) u7_10 u7_12) hk (fun _ h => h.2)) (fun _ h => h.1)); have n4_ := am (KeepBut.trans u7_0 hk (.inl rfl)); have n5_ := am (hb); have n6_ := am (hi); clear HO_3 HO_4 HO_7 HO_36 HK HB HI0; have HO_3 := n0_; have HO_4 := n1_; have HO_7 := n2_; have HO_36 := n3_; have HK := n4_; have HB := n5_; have HI0 := n6_; clear n0_ n1_ n2_ n3_ n4_ n5_ n6_; (try clear hb); (try clear hb2); (try clear hk); (try clear hi); obtain ⟨Ao37, co37, eo37⟩ := Kd.R_slice HO_3.out; subst eo37) | ((with_reducible refine gate_callee (f := 126) rfl ?_); refine goesL_ (some 50) rfl rfl Try.func126 (by kernel_rfl) rfl #[.slice Ao37 x3_2.length co37, .agg #[.string t258, .int .i64 t259, .string t260, .int .i64 t261, .int .i64 t262, .int .i64 t263, .int .i64 t264, .int .i64 t265]] rfl u7_1 ?_; (with_reducible refine (spec_AddDevice.calls k2 _ _ x3_2 t258 t259 t260 t261 t262 t263 t264 t265 t268 t271 _ ?side1 ?side2 A34.out).mono ?_); (case side1 => exact y7_0); (case side2 => exact (Kd.R_reads' HO_3.out).2.1); rintro e w38 ⟨v269, rfl, ho0, hb⟩; refine ⟨_, rfl, ?_⟩; have n0_ := am (Kd.R_elder' u7_4 (Kd.R_base ho0) hb); have n1_ := am (Kd.R_below u7_6 hb); have n2_ := am (Kd.R_below u7_5 hb); have n3_ := am (Kd.R_below u7_10 hb); have n4_ := am (Kd.R_lower (Kd.R_new' ho0 (Kd.R_lt u7_4)) (keep_size (w := w) (g := g) (row := none) u7_0)); have n5_ := am (IsS133.below u7_2 hb); have n6_ := am (KeepBut.trans u7_0 (KeepBut.of_below hb g none) (.inl rfl)); have n7_ := am (below_step u7_3 hb); clear HO_3 HO_4 HO_7 HO_36 HI0 HK HB; have HO_3 := n0_; have HO_4 := n1_; have HO_7 := n2_; have HO_36 := n3_; have HO270 := n4_; have HI0 := n5_; have HK := n6_; have HB := n7_; clear n0_ n1_ n2_ n3_ n4_ n5_ n6_ n7_; (try clear hb); (try clear hb2); (try clear hk); (try clear hi); (try clear ho0)))
             go_roundg k2
             case measure => have := HK1.out; have := HK2.out; omega
             case rel => exact ⟨(t268), (wrap64 (x38_2 + 1)), (t266), (t267), u7_13, H', ⟨by have := HK1.out; have := HK2.out; omega⟩, ⟨by (with_reducible repeat (first | apply Kd.R_alloc | apply Kd.R_drewN | apply Kd.R_drew)); exact Kd.R_mono HO270.out (fun _ hk => trivial)⟩, ⟨by (with_reducible repeat (first | apply Kd.R_alloc | apply Kd.R_drewN | apply Kd.R_drew)); exact HO_4.out⟩, ⟨by (with_reducible repeat (first | apply Kd.R_alloc | apply Kd.R_drewN | apply Kd.R_drew)); exact HO_7.out⟩, ⟨by (with_reducible repeat (first | apply Kd.R_alloc | apply Kd.R_drewN | apply Kd.R_drew)); exact HO_36.out⟩, ⟨s7_4⟩, ⟨s7_6⟩, ⟨s7_5⟩⟩
            ·rw [if_neg c31] at H
             exact absurd H (by simp)
           ·rw [if_neg c30] at H
            exact absurd H (by simp)
          ·rw [if_neg c29] at H
           have c29b0 : decide (x38_2 < (y251.length : Int)) = false := decide_eq_false c29
           clear c29
           have HC39 := am H
           clear H
           go_upto_region 14 with (fail)
           go_cut [60] (fun v60 wc => ∃ (kq : Nat) (x60_38 : Bool) (x1001_38 : Int) (x1002_38 : Int), v60 = .bool x60_38 ∧ Aside0 (spec_l6Draw.j2 kq x3_2 y251 x60_38 s0_0 x1001_38 x1002_38 = some (r1, r2, r3)) ∧ Aside0 (kq ≤ k2) ∧ Aside0 (Kd.R k87 87 wc w.heap.size (fun _ => True) u3 x3_2) ∧ Aside0 (Kd.R Kd.string 9 wc w.heap.size (fun _ => True) (.slice Ao27 y251.length co27) y251) ∧ Aside0 (IsS133 w0 wc g s0_0 x1001_38 x1002_38) ∧ Aside0 (KeepBut w wc g none) ∧ Aside0 (Below w0.heap.size w0 wc))
           case first =>
            have H := HC39.out
            clear HC39
            by_cases c40 : (y251.length : Int) > 0
            ·rw [if_pos c40] at H
             have c40b0 : decide (0 < (y251.length : Int)) = true := decide_eq_true c40
             have c40b1 : decide (0 < y251.length) = true := decide_eq_true (by omega)
             clear c40
             (first | rw [c40b0] | (simp only [i64_w, i32_w]; rw [c40b0]) | skip)
             replace H := Option.bind_eq_some_iff.mp H
             obtain ⟨⟨t272, t273, t274⟩, A410, H⟩ := H
             replace H : (spec_l6Draw.j2 k2 x3_2 y251 t272 s0_0 t273 t274) = some (r1, r2, r3) := H
             have A41 := am A410
             clear A410
             have H' := am H
             clear H
             go_wp2_with (first | (go_at_call 128; (with_reducible refine (spec_l1Once.calls g s0_0 x1001_2 x1002_2 2 t272 t273 t274 w0 _ ?side1 ?side2 A41.out).mono ?_); (case side1 => exact s7_4); (case side2 => exact s7_5); rintro e w42 ⟨rfl, hi, hb, hk⟩; have n0_ := am (Kd.R_mono (Kd.R_keep (IsS133.apart (show IsS133 w0 _ g s0_0 x1001_2 x1002_2 from by repeat (first | (with_reducible first | exact HI0.out | apply IsS133.alloc | apply IsS133.drewN | apply IsS133.drew | apply IsS133.set_1 | apply IsS133.set_2) | exact HI0.out)) u7_4 u7_12) hk (fun _ h => h.2)) (fun _ h => h.1)); have n1_ := am (Kd.R_mono (Kd.R_keep (IsS133.apart (show IsS133 w0 _ g s0_0 x1001_2 x1002_2 from by repeat (first | (with_reducible first | exact HI0.out | apply IsS133.alloc | apply IsS133.drewN | apply IsS133.drew | apply IsS133.set_1 | apply IsS133.set_2) | exact HI0.out)) u7_6 u7_12) hk (fun _ h => h.2)) (fun _ h => h.1)); have n2_ := am (Kd.R_mono (Kd.R_keep (IsS133.apart (show IsS133 w0 _ g s0_0 x1001_2 x1002_2 from by repeat (first | (with_reducible first | exact HI0.out | apply IsS133.alloc | apply IsS133.drewN | apply IsS133.drew | apply IsS133.set_1 | apply IsS133.set_2) | exact HI0.out)) u7_5 u7_12) hk (fun _ h => h.2)) (fun _ h => h.1)); have n3_ := am (Kd.R_mono (Kd.R_keep (IsS133.apart (show IsS133 w0 _ g s0_0 x1001_2 x1002_2 from by repeat (first | (with_reducible first | exact HI0.out | apply IsS133.alloc | apply IsS133.drewN | apply IsS133.drew | apply IsS133.set_1 | apply IsS133.set_2) | exact HI0.out)) u7_10 u7_12) hk (fun _ h => h.2)) (fun _ h => h.1)); have n4_ := am (KeepBut.trans u7_0 hk (.inl rfl)); have n5_ := am (hb); have n6_ := am (hi); clear HO_3 HO_4 HO_7 HO_36 HK HB HI0; have HO_3 := n0_; have HO_4 := n1_; have HO_7 := n2_; have HO_36 := n3_; have HK := n4_; have HB := n5_; have HI0 := n6_; clear n0_ n1_ n2_ n3_ n4_ n5_ n6_; (try clear hb); (try clear hb2); (try clear hk); (try clear hi)))
             go_meet
             case rel => exact ⟨_, (t272), (t273), (t274), u7_13, H', ⟨by have := HK1.out; have := HK2.out; first | omega | exact Nat.le_refl _⟩, ⟨by (with_reducible repeat (first | apply Kd.R_alloc | apply Kd.R_drewN | apply Kd.R_drew)); exact HO_3.out⟩, ⟨by (with_reducible repeat (first | apply Kd.R_alloc | apply Kd.R_drewN | apply Kd.R_drew)); exact Kd.R_mono HO_7.out (fun _ hk => trivial)⟩, ⟨s7_4⟩, ⟨s7_6⟩, ⟨s7_5⟩⟩
            ·rw [if_neg c40] at H
             have c40b0 : decide (0 < (y251.length : Int)) = false := decide_eq_false c40
             have c40b1 : decide (0 < y251.length) = false := decide_eq_false (by omega)
             clear c40
             (first | rw [c40b0] | (simp only [i64_w, i32_w]; rw [c40b0]) | skip)
             have H' := am H
             clear H
             go_wp2
             go_meet
             case rel => exact ⟨_, (false), (x1001_2), (x1002_2), u7_13, H', ⟨by have := HK1.out; have := HK2.out; first | omega | exact Nat.le_refl _⟩, ⟨by (with_reducible repeat (first | apply Kd.R_alloc | apply Kd.R_drewN | apply Kd.R_drew)); exact HO_3.out⟩, ⟨by (with_reducible repeat (first | apply Kd.R_alloc | apply Kd.R_drewN | apply Kd.R_drew)); exact Kd.R_mono HO_7.out (fun _ hk => trivial)⟩, ⟨s7_4⟩, ⟨s7_6⟩, ⟨s7_5⟩⟩
           case rest =>
            clear HC39
            try clear c1
            try clear q1
            try clear c2
            try clear p2
            try clear q2
            try clear hx2
            try clear c3
            try clear c4
            try clear c4b0
            try clear c4b1
            try clear c5
            try clear c5b0
            try clear c5b1
            try clear p6
            try clear c8
            try clear c11
            try clear c12
            try clear q12
            try clear c13
            try clear c13b0
            try clear c14
            try clear c14b0
            try clear c15
            try clear c15b0
            try clear c22
            try clear c22b0
            try clear c22b1
            try clear c23
            try clear c23b0
            try clear c23b1
            try clear p23
            try clear q23
            try clear hx23
            try clear p25
            try clear q25
            try clear hx25
            try clear q28
            try clear c29
            try clear c29b0
            try clear c30
            try clear c30b0
            try clear c31
            try clear c31b0
            try clear c40
            try clear c40b0
            try clear c40b1
            try clear hx237_0
            try clear hx254_0
            try clear p2
            try clear p23
            try clear p237
            try clear p254
            try clear p6
            try clear q1
            try clear q12
            try clear q2
            try clear q23
            try clear q237
            try clear q254
            try clear q28
            obtain ⟨kq, x60_38, x1001_38, x1002_38, rfl, HA, HJ38, HO_3, HO_7, HI0, HK, HB⟩ := hcut
            cases kq with
            | zero => exact absurd HA.out (by simp [spec_l6Draw.j2])
            | succ kj38 =>
             have H := HA.out
             clear HA
             simp only [spec_l6Draw.j2] at H
             by_cases c43 : x60_38 = true
             ·subst c43
              have H1 : ((spec_l1Str.f s0_0 x1001_38 x1002_38 (([(⟨#[108, 97, 109, 112]⟩ : ByteArray), (⟨#[122]⟩ : ByteArray)] : List ByteArray))).bind fun bt278 => ((spec_l1Str.f s0_0 bt278.2.1 bt278.2.2 y251).bind fun bt281 => ((spec_l2Draw.f s0_0 bt281.2.1 bt281.2.2).bind fun bt284 => ((spec_AddDevice.f kj38 x3_2 bt278.1 3 bt281.1 bt284.1 bt284.2.1 0 0 0).bind fun bt288 => (some (bt288.1, bt284.2.2.1, bt284.2.2.2)))))) = some (r1, r2, r3) := by rw [if_pos rfl] at H; exact H
              clear H
              have H := H1
              clear H1
              obtain ⟨y275, hy275⟩ : ∃ y_ : List ByteArray, y_ = (([(⟨#[108, 97, 109, 112]⟩ : ByteArray), (⟨#[122]⟩ : ByteArray)] : List ByteArray)) := ⟨_, rfl⟩
              replace H : ((spec_l1Str.f s0_0 x1001_38 x1002_38 y275).bind fun bt278 => ((spec_l1Str.f s0_0 bt278.2.1 bt278.2.2 y251).bind fun bt281 => ((spec_l2Draw.f s0_0 bt281.2.1 bt281.2.2).bind fun bt284 => ((spec_AddDevice.f kj38 x3_2 bt278.1 3 bt281.1 bt284.1 bt284.2.1 0 0 0).bind fun bt288 => (some (bt288.1, bt284.2.2.1, bt284.2.2.2)))))) = some (r1, r2, r3) := by first | (rw [hy275]; with_reducible exact H) | (have H2_ := (Option.bind_some _ _).symm.trans H; rw [hy275]; with_reducible exact H2_) | (have H2_ := (Option.bind_some _ _).symm.trans H; with_reducible exact H2_) | with_reducible exact H | (rw [hy275]; exact H) | exact H
              have Ny275 := am hy275
              clear hy275
              replace H := Option.bind_eq_some_iff.mp H
              obtain ⟨⟨t278, t279, t280⟩, A440, H⟩ := H
              replace H : ((spec_l1Str.f s0_0 t279 t280 y251).bind fun bt281 => ((spec_l2Draw.f s0_0 bt281.2.1 bt281.2.2).bind fun bt284 => ((spec_AddDevice.f kj38 x3_2 t278 3 bt281.1 bt284.1 bt284.2.1 0 0 0).bind fun bt288 => (some (bt288.1, bt284.2.2.1, bt284.2.2.2))))) = some (r1, r2, r3) := H
              have A44 := am A440
              clear A440
              replace H := Option.bind_eq_some_iff.mp H
              obtain ⟨⟨t281, t282, t283⟩, A450, H⟩ := H
              replace H : ((spec_l2Draw.f s0_0 t282 t283).bind fun bt284 => ((spec_AddDevice.f kj38 x3_2 t278 3 t281 bt284.1 bt284.2.1 0 0 0).bind fun bt288 => (some (bt288.1, bt284.2.2.1, bt284.2.2.2)))) = some (r1, r2, r3) := H
              have A45 := am A450
              clear A450
              replace H := Option.bind_eq_some_iff.mp H
              obtain ⟨⟨t284, t285, t286, t287⟩, A460, H⟩ := H
              replace H : ((spec_AddDevice.f kj38 x3_2 t278 3 t281 t284 t285 0 0 0).bind fun bt288 => (some (bt288.1, t286, t287))) = some (r1, r2, r3) := H
              have A46 := am A460
              clear A460
              replace H := Option.bind_eq_some_iff.mp H
              obtain ⟨⟨t288, t291⟩, A470, H⟩ := H
              replace H : (some (t288, t286, t287)) = some (r1, r2, r3) := H
              have A47 := am A470
              clear A470
              simp only [Option.some.injEq, Prod.mk.injEq] at H
              obtain ⟨rfl, rfl, rfl⟩ := H
              go_wp2_with (first | ((with_reducible refine gate_dst (N := 64) rfl ?_); refine Kd.R_lit Kd.string _ 9 ?hg (N := 64) ?hd (xs := ([(⟨#[108, 97, 109, 112]⟩ : ByteArray), (⟨#[122]⟩ : ByteArray)] : List ByteArray)) (inner := [.string (⟨#[108, 97, 109, 112]⟩ : ByteArray), .string (⟨#[122]⟩ : ByteArray)]) (ok := fun _ => True) (okp := fun _ => True) ?hr ?hp (fun _ hk => hk) trivial (Below.refl _ _) (Nat.le_refl _) (by simp) ?_; (case hd => rfl); (case hg => rfl); (case hr => exact gq); (case hp => exact (Reps.one (show Kd.M Kd.string _ _ _ (⟨#[108, 97, 109, 112]⟩ : ByteArray) [.string (⟨#[108, 97, 109, 112]⟩ : ByteArray)] from rfl) (Reps.one (show Kd.M Kd.string _ _ _ (⟨#[122]⟩ : ByteArray) [.string (⟨#[122]⟩ : ByteArray)] from rfl) (Reps.none _ _)))); intro v276 w48 ho49 hb hg_ hnew_; clear hg_ hnew_; (first | rw [← Ny275.out] at ho49 | (simp only [Int.reduceToNat] at ho49; rw [← Ny275.out] at ho49)); have n0_ := am (Kd.R_below u7_4 hb); have n1_ := am (Kd.R_elder' u7_5 (Kd.R_base ho49) hb); have n2_ := am (Kd.R_lower (Kd.R_new' ho49 (Kd.R_lt u7_5)) (keep_size (w := w) (g := g) (row := none) u7_0)); have n3_ := am (IsS133.below u7_2 hb); have n4_ := am (KeepBut.trans u7_0 (KeepBut.of_below hb g none) (.inl rfl)); have n5_ := am (below_step u7_3 hb); clear HO_3 HO_7 HI0 HK HB; have HO_3 := n0_; have HO_7 := n1_; have HO277 := n2_; have HI0 := n3_; have HK := n4_; have HB := n5_; clear n0_ n1_ n2_ n3_ n4_ n5_ hb ho49; obtain ⟨Ao50, co50, eo50⟩ := Kd.R_slice HO277.out; subst eo50) | ((with_reducible refine gate_callee (f := 118) rfl ?_); refine goesL_ (some 65) rfl rfl Try.func118 (by kernel_rfl) rfl #[.pointer (some ⟨g, 0, none⟩), .slice Ao50 y275.length co50] rfl u7_1 ?_; (with_reducible refine (spec_l1Str.calls g s0_0 x1001_38 x1002_38 _ _ y275 t278 t279 t280 w0 _ ?side1 ?side2 ?side3 ?side4 ?side5 A44.out).mono ?_); (case side1 => exact s7_4); (case side2 => exact s7_5); (case side3 => repeat (first | exact (Kd.R_reads' HO277.out).2.2 | (with_reducible refine Kd.C_alloc ?_ _) | (with_reducible refine Kd.C_drewN ?_ _) | (with_reducible refine Kd.C_drew ?_))); (case side4 => exact (Kd.R_reads' HO277.out).2.1); (case side5 => exact far_slice (IsS133.own_ne HI0.out HO277.out u7_12)); rintro e w51 ⟨rfl, hi, hb, hk⟩; refine ⟨_, rfl, ?_⟩; have n0_ := am (Kd.R_mono (Kd.R_keep (IsS133.apart (show IsS133 w0 _ g s0_0 x1001_38 x1002_38 from by repeat (first | (with_reducible first | exact HI0.out | apply IsS133.alloc | apply IsS133.drewN | apply IsS133.drew | apply IsS133.set_1 | apply IsS133.set_2) | exact HI0.out)) u7_4 u7_12) hk (fun _ h => h.2)) (fun _ h => h.1)); have n1_ := am (Kd.R_mono (Kd.R_keep (IsS133.apart (show IsS133 w0 _ g s0_0 x1001_38 x1002_38 from by repeat (first | (with_reducible first | exact HI0.out | apply IsS133.alloc | apply IsS133.drewN | apply IsS133.drew | apply IsS133.set_1 | apply IsS133.set_2) | exact HI0.out)) u7_5 u7_12) hk (fun _ h => h.2)) (fun _ h => h.1)); have n2_ := am (Kd.R_mono (Kd.R_keep (IsS133.apart (show IsS133 w0 _ g s0_0 x1001_38 x1002_38 from by repeat (first | (with_reducible first | exact HI0.out | apply IsS133.alloc | apply IsS133.drewN | apply IsS133.drew | apply IsS133.set_1 | apply IsS133.set_2) | exact HI0.out)) u7_11 u7_12) hk (fun _ h => h.2)) (fun _ h => h.1)); have n3_ := am (KeepBut.trans u7_0 hk (.inl rfl)); have n4_ := am (hb); have n5_ := am (hi); clear HO_3 HO_7 HO277 HK HB HI0; have HO_3 := n0_; have HO_7 := n1_; have HO277 := n2_; have HK := n3_; have HB := n4_; have HI0 := n5_; clear n0_ n1_ n2_ n3_ n4_ n5_; (try clear hb); (try clear hb2); (try clear hk); (try clear hi)) | ((with_reducible refine gate_callee (f := 118) rfl ?_); refine goesL_ (some 68) rfl rfl Try.func118 (by kernel_rfl) rfl #[.pointer (some ⟨g, 0, none⟩), .slice Ao27 y251.length co27] rfl u7_1 ?_; (with_reducible refine (spec_l1Str.calls g s0_0 t279 t280 _ _ y251 t281 t282 t283 w0 _ ?side1 ?side2 ?side3 ?side4 ?side5 A45.out).mono ?_); (case side1 => exact s7_4); (case side2 => exact s7_5); (case side3 => repeat (first | exact (Kd.R_reads' HO_7.out).2.2 | (with_reducible refine Kd.C_alloc ?_ _) | (with_reducible refine Kd.C_drewN ?_ _) | (with_reducible refine Kd.C_drew ?_))); (case side4 => exact (Kd.R_reads' HO_7.out).2.1); (case side5 => exact far_slice (IsS133.own_ne HI0.out HO_7.out u7_12)); rintro e w52 ⟨rfl, hi, hb, hk⟩; refine ⟨_, rfl, ?_⟩; have n0_ := am (Kd.R_mono (Kd.R_keep (IsS133.apart (show IsS133 w0 _ g s0_0 t279 t280 from by repeat (first | (with_reducible first | exact HI0.out | apply IsS133.alloc | apply IsS133.drewN | apply IsS133.drew | apply IsS133.set_1 | apply IsS133.set_2) | exact HI0.out)) u7_4 u7_12) hk (fun _ h => h.2)) (fun _ h => h.1)); have n1_ := am (Kd.R_mono (Kd.R_keep (IsS133.apart (show IsS133 w0 _ g s0_0 t279 t280 from by repeat (first | (with_reducible first | exact HI0.out | apply IsS133.alloc | apply IsS133.drewN | apply IsS133.drew | apply IsS133.set_1 | apply IsS133.set_2) | exact HI0.out)) u7_5 u7_12) hk (fun _ h => h.2)) (fun _ h => h.1)); have n2_ := am (Kd.R_mono (Kd.R_keep (IsS133.apart (show IsS133 w0 _ g s0_0 t279 t280 from by repeat (first | (with_reducible first | exact HI0.out | apply IsS133.alloc | apply IsS133.drewN | apply IsS133.drew | apply IsS133.set_1 | apply IsS133.set_2) | exact HI0.out)) u7_11 u7_12) hk (fun _ h => h.2)) (fun _ h => h.1)); have n3_ := am (KeepBut.trans u7_0 hk (.inl rfl)); have n4_ := am (hb); have n5_ := am (hi); clear HO_3 HO_7 HO277 HK HB HI0; have HO_3 := n0_; have HO_7 := n1_; have HO277 := n2_; have HK := n3_; have HB := n4_; have HI0 := n5_; clear n0_ n1_ n2_ n3_ n4_ n5_; (try clear hb); (try clear hb2); (try clear hk); (try clear hi)) | ((with_reducible refine gate_callee (f := 129) rfl ?_); refine goesL_ (some 70) rfl rfl Try.func129 (by kernel_rfl) rfl #[.pointer (some ⟨g, 0, none⟩)] rfl u7_1 ?_; (with_reducible refine (spec_l2Draw.calls g s0_0 t282 t283 t284 t285 t286 t287 w0 _ ?side1 ?side2 A46.out).mono ?_); (case side1 => exact s7_4); (case side2 => exact s7_5); rintro e w53 ⟨rfl, hi, hb, hk⟩; refine ⟨_, rfl, ?_⟩; have n0_ := am (Kd.R_mono (Kd.R_keep (IsS133.apart (show IsS133 w0 _ g s0_0 t282 t283 from by repeat (first | (with_reducible first | exact HI0.out | apply IsS133.alloc | apply IsS133.drewN | apply IsS133.drew | apply IsS133.set_1 | apply IsS133.set_2) | exact HI0.out)) u7_4 u7_12) hk (fun _ h => h.2)) (fun _ h => h.1)); have n1_ := am (Kd.R_mono (Kd.R_keep (IsS133.apart (show IsS133 w0 _ g s0_0 t282 t283 from by repeat (first | (with_reducible first | exact HI0.out | apply IsS133.alloc | apply IsS133.drewN | apply IsS133.drew | apply IsS133.set_1 | apply IsS133.set_2) | exact HI0.out)) u7_5 u7_12) hk (fun _ h => h.2)) (fun _ h => h.1)); have n2_ := am (Kd.R_mono (Kd.R_keep (IsS133.apart (show IsS133 w0 _ g s0_0 t282 t283 from by repeat (first | (with_reducible first | exact HI0.out | apply IsS133.alloc | apply IsS133.drewN | apply IsS133.drew | apply IsS133.set_1 | apply IsS133.set_2) | exact HI0.out)) u7_11 u7_12) hk (fun _ h => h.2)) (fun _ h => h.1)); have n3_ := am (KeepBut.trans u7_0 hk (.inl rfl)); have n4_ := am (hb); have n5_ := am (hi); clear HO_3 HO_7 HO277 HK HB HI0; have HO_3 := n0_; have HO_7 := n1_; have HO277 := n2_; have HK := n3_; have HB := n4_; have HI0 := n5_; clear n0_ n1_ n2_ n3_ n4_ n5_; (try clear hb); (try clear hb2); (try clear hk); (try clear hi); obtain ⟨Ao54, co54, eo54⟩ := Kd.R_slice HO_3.out; subst eo54) | ((with_reducible refine gate_callee (f := 126) rfl ?_); refine goesL_ (some 72) rfl rfl Try.func126 (by kernel_rfl) rfl #[.slice Ao54 x3_2.length co54, .agg #[.string t278, .int .i64 3, .string t281, .int .i64 t284, .int .i64 t285, .int .i64 0, .int .i64 0, .int .i64 0]] rfl u7_1 ?_; (with_reducible refine (spec_AddDevice.calls kj38 _ _ x3_2 t278 3 t281 t284 t285 0 0 0 t288 t291 _ ?side1 ?side2 A47.out).mono ?_); (case side1 => exact y7_0); (case side2 => exact (Kd.R_reads' HO_3.out).2.1); rintro e w55 ⟨v289, rfl, ho0, hb⟩; refine ⟨_, rfl, ?_⟩; have n0_ := am (Kd.R_elder' u7_4 (Kd.R_base ho0) hb); have n1_ := am (Kd.R_below u7_5 hb); have n2_ := am (Kd.R_below u7_11 hb); have n3_ := am (Kd.R_lower (Kd.R_new' ho0 (Kd.R_lt u7_4)) (keep_size (w := w) (g := g) (row := none) u7_0)); have n4_ := am (IsS133.below u7_2 hb); have n5_ := am (KeepBut.trans u7_0 (KeepBut.of_below hb g none) (.inl rfl)); have n6_ := am (below_step u7_3 hb); clear HO_3 HO_7 HO277 HI0 HK HB; have HO_3 := n0_; have HO_7 := n1_; have HO277 := n2_; have HO290 := n3_; have HI0 := n4_; have HK := n5_; have HB := n6_; clear n0_ n1_ n2_ n3_ n4_ n5_ n6_; (try clear hb); (try clear hb2); (try clear hk); (try clear hi); (try clear ho0)))
              go_ret
              exact ⟨_, by first | rfl | (simp [errW_none, errW_some] <;> rfl) | (simp only [← hji3]; first | rfl | (simp [errW_none, errW_some] <;> rfl)) | (simp [*, errW_none, errW_some] <;> rfl), by (with_reducible repeat (first | apply Kd.R_alloc | apply Kd.R_drewN | apply Kd.R_drew)); exact Kd.R_mono HO290.out (fun _ hk => trivial), s7_4, s7_5, s7_6⟩
             ·replace c43 := Bool.eq_false_iff.mpr c43
              subst c43
              have H1 : (some (x3_2, x1001_38, x1002_38)) = some (r1, r2, r3) := by rw [if_neg (show ¬ (false = true) by decide)] at H; exact H
              clear H
              have H := H1
              clear H1
              simp only [Option.some.injEq, Prod.mk.injEq] at H
              obtain ⟨rfl, rfl, rfl⟩ := H
              go_wp2
              go_ret
              exact ⟨_, by first | rfl | (simp [errW_none, errW_some] <;> rfl) | (simp only [← hji3]; first | rfl | (simp [errW_none, errW_some] <;> rfl)) | (simp [*, errW_none, errW_some] <;> rfl), by (with_reducible repeat (first | apply Kd.R_alloc | apply Kd.R_drewN | apply Kd.R_drew)); exact HO_3.out, s7_4, s7_5, s7_6⟩
       ·rw [if_neg c23] at H
        exact absurd H (by simp)
      ·rw [if_neg c22] at H
       exact absurd H (by simp)
  ·rw [if_neg c5] at H
   exact absurd H (by simp)
 ·rw [if_neg c4] at H
  exact absurd H (by simp)

def spec_DrawRig.f (k : Nat) (l0 : List Int) : Option ((List (S87))) := (spec_l1New.f k l0).bind fun bt292 => ((spec_l6Draw.f k bt292.1 bt292.2.1 bt292.2.2).bind fun bt296 => (some bt296.1))
theorem spec_DrawRig.mono : ∀ a0 k, LeO (spec_DrawRig.f k a0) (spec_DrawRig.f (k + 1) a0) := by
 intro a0 k
 unfold spec_DrawRig.f
 repeat' first
   | (with_reducible exact spec_l1New.mono _ _)
   | (with_reducible exact spec_l6Draw.mono _ _ _ _)
   | (with_reducible exact LeO.refl _)
   | (with_reducible exact LeO.none _)
   | (with_reducible refine LeO.ite ?_ ?_)
   | (with_reducible refine LeO.bind ?_ (fun _ => ?_))
set_option maxHeartbeats 8000000 in
set_option maxRecDepth 100000 in
theorem spec_DrawRig.calls (k : Nat) (A0 : Option Addr) (c0 : Nat) (l0 : List Int) (r : List (S87)) (w : World) (hr0 : Kd.C (Kd.int .u8) w A0 l0.length l0) (hc0 : l0.length ≤ c0) (h : spec_DrawRig.f k l0 = some r) :
  Calls Try.prog 47 #[.slice A0 l0.length c0] w fun e w' => ∃ v0_ : Value, e = .returned (v0_) ∧ Kd.R k87 87 w' w.heap.size (fun _ => True) v0_ r ∧ Below w.heap.size w w' := by
 have HR0 := am hr0
 have HC0 := am hc0
 clear hr0 hc0
 have HB := am (Below.refl w.heap.size w)
 have H : ((spec_l1New.f k l0).bind fun bt292 => ((spec_l6Draw.f k bt292.1 bt292.2.1 bt292.2.2).bind fun bt296 => (some bt296.1))) = some r := h
 clear h
 replace H := Option.bind_eq_some_iff.mp H
 obtain ⟨⟨t292, t293, t294⟩, A20, H⟩ := H
 replace H : ((spec_l6Draw.f k t292 t293 t294).bind fun bt296 => (some bt296.1)) = some r := H
 have A2 := am A20
 clear A20
 replace H := Option.bind_eq_some_iff.mp H
 obtain ⟨⟨t296, t299, t300⟩, A30, H⟩ := H
 replace H : (some t296) = some r := H
 have A3 := am A30
 clear A30
 obtain rfl := Option.some.inj H
 go_enter Try.func47, Try.ntmps47
 go_wp2_with (first | ((with_reducible refine gate_callee (f := 66) rfl ?_); refine goesL_ (some 4) rfl rfl Try.func66 (by kernel_rfl) rfl #[.slice A0 l0.length c0] rfl u7_1 ?_; (with_reducible refine (spec_l1New.calls k _ _ l0 t292 t293 t294 w _ ?side1 ?side2 ?side3 A2.out).mono ?_); (case side1 => repeat (first | (with_reducible first | exact HB.out | apply below_alloc | apply pw_below_drewN | apply below_drew1) | exact HB.out)); (case side2 => exact HR0.out); (case side3 => exact HC0.out); rintro e w4 ⟨g295, rfl, hi, hb, hb2⟩; refine ⟨_, rfl, ?_⟩; have n0_ := am (hb); have n1_ := am (hi); clear HB; have HB := n0_; have HI295 := n1_; clear n0_ n1_; (try clear hb); (try clear hb2); (try clear hk); (try clear hi)) | ((with_reducible refine gate_callee (f := 88) rfl ?_); refine goesL_ (some 5) rfl rfl Try.func88 (by kernel_rfl) rfl #[.pointer (some ⟨g295, 0, none⟩)] rfl u7_1 ?_; (with_reducible refine (spec_l6Draw.calls k g295 t292 t293 t294 t296 t299 t300 w _ ?side1 ?side2 A3.out).mono ?_); (case side1 => repeat (first | (with_reducible first | exact HI295.out | apply IsS133.alloc | apply IsS133.drewN | apply IsS133.drew | apply IsS133.set_1 | apply IsS133.set_2) | exact HI295.out)); (case side2 => exact s7_3); rintro e w5 ⟨v297, rfl, ho0, hi, hb, hk⟩; refine ⟨_, rfl, ?_⟩; have n0_ := am (Kd.R_lower ho0 (below_size (by repeat (first | (with_reducible first | exact HB.out | apply below_alloc | apply pw_below_drewN | apply below_drew1 | refine below_set ?_ (IsS133.ge HI295.out)) | exact HB.out)))); have n1_ := am (hb); have n2_ := am (hi); clear HB HI295; have HO298 := n0_; have HB := n1_; have HI295 := n2_; clear n0_ n1_ n2_; (try clear hb); (try clear hb2); (try clear hk); (try clear hi); (try clear ho0)))
 go_ret
 exact ⟨_, by first | rfl | (simp [*] <;> rfl), by (with_reducible repeat (first | apply Kd.R_alloc | apply Kd.R_drewN | apply Kd.R_drew)); exact HO298.out, s7_3⟩

def spec_l1Int.f (s0_0 : List Int) (s0_1 : Int) (s0_2 : Int) (l1 : List Int) : Option (Int × Int × Int) := (spec_l1Below.f s0_0 s0_1 s0_2 (l1.length : Int)).bind fun bt301 => (if 0 ≤ bt301.1 then (if bt301.1 < (l1.length : Int) then (some (rd l1 bt301.1, bt301.2.1, bt301.2.2)) else (none)) else (none))
set_option maxHeartbeats 8000000 in
set_option maxRecDepth 100000 in
theorem spec_l1Int.calls (g : Nat) (s0_0 : List Int) (s0_1 : Int) (s0_2 : Int) (A1 : Option Addr) (c1 : Nat) (l1 : List Int) (r1 : Int) (r2 : Int) (r3 : Int) (w0 w : World) (hI : IsS133 w0 w g s0_0 s0_1 s0_2) (hB : Below w0.heap.size w0 w) (hr1 : Kd.C (Kd.int .i64) w A1 l1.length l1) (hc1 : l1.length ≤ c1) (hf1 : ∀ ad, A1 = some ad → 0 < l1.length → ad.block ≠ g) (h : spec_l1Int.f s0_0 s0_1 s0_2 l1 = some (r1, r2, r3)) :
  Calls Try.prog 111 #[.pointer (some ⟨g, 0, none⟩), .slice A1 l1.length c1] w fun e w' => e = .returned (.int .i64 r1) ∧ IsS133 w0 w' g s0_0 r2 r3 ∧ Below w0.heap.size w0 w' ∧ KeepBut w w' g none := by
 have HR1 := am hr1
 have HC1 := am hc1
 clear hr1 hc1
 have HI0 := am hI
 have HK := am (KeepBut.refl w g none)
 have HL := am hB.size
 clear hI
 have HW0 := am hB.size
 have HB := am hB
 clear hB
 have H : ((spec_l1Below.f s0_0 s0_1 s0_2 (l1.length : Int)).bind fun bt301 => (if 0 ≤ bt301.1 then (if bt301.1 < (l1.length : Int) then (some (rd l1 bt301.1, bt301.2.1, bt301.2.2)) else (none)) else (none))) = some (r1, r2, r3) := h
 clear h
 replace H := Option.bind_eq_some_iff.mp H
 obtain ⟨⟨t301, t302, t303⟩, A30, H⟩ := H
 replace H : (if 0 ≤ t301 then (if t301 < (l1.length : Int) then (some (rd l1 t301, t302, t303)) else (none)) else (none)) = some (r1, r2, r3) := H
 have A3 := am A30
 clear A30
 by_cases c4 : 0 ≤ t301
 ·rw [if_pos c4] at H
  have c4b0 : decide (0 ≤ t301) = true := decide_eq_true c4
  clear c4
  by_cases c5 : t301 < (l1.length : Int)
  ·rw [if_pos c5] at H
   have c5b0 : decide (t301 < (l1.length : Int)) = true := decide_eq_true c5
   clear c5
   simp only [Option.some.injEq, Prod.mk.injEq] at H
   obtain ⟨rfl, rfl, rfl⟩ := H
   go_enter Try.func111, Try.ntmps111
   go_wp2_with (first | ((with_reducible refine gate_callee (f := 110) rfl ?_); refine goesL_ (some 9) rfl rfl Try.func110 (by kernel_rfl) rfl #[.pointer (some ⟨g, 0, none⟩), .int .i64 (l1.length : Int)] rfl u7_1 ?_; (with_reducible refine (spec_l1Below.calls g s0_0 s0_1 s0_2 (l1.length : Int) t301 t302 t303 w0 _ ?side1 ?side2 A3.out).mono ?_); (case side1 => exact s7_4); (case side2 => exact s7_5); rintro e w6 ⟨rfl, hi, hb, hk⟩; refine ⟨_, rfl, ?_⟩; have n0_ := am (KeepBut.trans u7_0 hk (.inl rfl)); have n1_ := am (hb); have n2_ := am (hi); clear HK HB HI0; have HK := n0_; have HB := n1_; have HI0 := n2_; clear n0_ n1_ n2_; (try clear hb); (try clear hb2); (try clear hk); (try clear hi); have p304 : 0 ≤ (t301 : Int) := od (by assumption); have q304 : t301 < (l1.length : Int) := od (by assumption); obtain ⟨ad304, e304, hx304_0⟩ := Kd.at_int HR1.out t301 p304 q304; cases e304; replace hx304_0 := keep_cell HK.out hx304_0 (by first | (rw [add_block]; exact hf1 _ rfl (by omega)) | exact hf1 _ rfl (by omega) | exact hf1 ad304 rfl (by omega)); replace p304 := eq_true p304; replace q304 := eq_true q304))
   go_ret
   exact ⟨by first | rfl | (simp [*] <;> rfl), s7_4, s7_5, s7_6⟩
  ·rw [if_neg c5] at H
   exact absurd H (by simp)
 ·rw [if_neg c4] at H
  exact absurd H (by simp)

def spec_l1Odd.f (s0_0 : List Int) (s0_1 : Int) (s0_2 : Int) : Option (Int × Int × Int) := (spec_l1Int.f s0_0 s0_1 s0_2 (([(-1), 0, 1, 2, 3, 7, 8, 9, 15, 16, 17, 63, 64, 65, 999, 1000, 4096, 4097, 9223372036854775807, (-9223372036854775808)] : List Int))).bind fun bt308 => (some (bt308.1, bt308.2.1, bt308.2.2))
set_option maxHeartbeats 8000000 in
set_option maxRecDepth 100000 in
theorem spec_l1Odd.calls (g : Nat) (s0_0 : List Int) (s0_1 : Int) (s0_2 : Int) (r1 : Int) (r2 : Int) (r3 : Int) (w0 w : World) (hI : IsS133 w0 w g s0_0 s0_1 s0_2) (hB : Below w0.heap.size w0 w) (h : spec_l1Odd.f s0_0 s0_1 s0_2 = some (r1, r2, r3)) :
  Calls Try.prog 113 #[.pointer (some ⟨g, 0, none⟩)] w fun e w' => e = .returned (.int .i64 r1) ∧ IsS133 w0 w' g s0_0 r2 r3 ∧ Below w0.heap.size w0 w' ∧ KeepBut w w' g none := by
 have HI0 := am hI
 have HK := am (KeepBut.refl w g none)
 have HL := am hB.size
 clear hI
 have HW0 := am hB.size
 have HB := am hB
 clear hB
 have H : ((spec_l1Int.f s0_0 s0_1 s0_2 (([(-1), 0, 1, 2, 3, 7, 8, 9, 15, 16, 17, 63, 64, 65, 999, 1000, 4096, 4097, 9223372036854775807, (-9223372036854775808)] : List Int))).bind fun bt308 => (some (bt308.1, bt308.2.1, bt308.2.2))) = some (r1, r2, r3) := h
 clear h
 obtain ⟨y305, hy305⟩ : ∃ y_ : List Int, y_ = (([(-1), 0, 1, 2, 3, 7, 8, 9, 15, 16, 17, 63, 64, 65, 999, 1000, 4096, 4097, 9223372036854775807, (-9223372036854775808)] : List Int)) := ⟨_, rfl⟩
 replace H : ((spec_l1Int.f s0_0 s0_1 s0_2 y305).bind fun bt308 => (some (bt308.1, bt308.2.1, bt308.2.2))) = some (r1, r2, r3) := by first | (rw [hy305]; with_reducible exact H) | (have H2_ := (Option.bind_some _ _).symm.trans H; rw [hy305]; with_reducible exact H2_) | (have H2_ := (Option.bind_some _ _).symm.trans H; with_reducible exact H2_) | with_reducible exact H | (rw [hy305]; exact H) | exact H
 have Ny305 := am hy305
 clear hy305
 replace H := Option.bind_eq_some_iff.mp H
 obtain ⟨⟨t308, t309, t310⟩, A20, H⟩ := H
 replace H : (some (t308, t309, t310)) = some (r1, r2, r3) := H
 have A2 := am A20
 clear A20
 simp only [Option.some.injEq, Prod.mk.injEq] at H
 obtain ⟨rfl, rfl, rfl⟩ := H
 go_enter Try.func113, Try.ntmps113
 go_wp2_with (first | ((with_reducible refine gate_dst (N := 4) rfl ?_); refine Kd.R_lit (Kd.int .i64) _ 3 ?hg (N := 4) ?hd (xs := ([(-1), 0, 1, 2, 3, 7, 8, 9, 15, 16, 17, 63, 64, 65, 999, 1000, 4096, 4097, 9223372036854775807, (-9223372036854775808)] : List Int)) (inner := [.int .i64 (-1), .int .i64 0, .int .i64 1, .int .i64 2, .int .i64 3, .int .i64 7, .int .i64 8, .int .i64 9, .int .i64 15, .int .i64 16, .int .i64 17, .int .i64 63, .int .i64 64, .int .i64 65, .int .i64 999, .int .i64 1000, .int .i64 4096, .int .i64 4097, .int .i64 9223372036854775807, .int .i64 (-9223372036854775808)]) (ok := fun _ => True) (okp := fun _ => True) ?hr ?hp (fun _ hk => hk) trivial (Below.refl _ _) (Nat.le_refl _) (by simp) ?_; (case hd => rfl); (case hg => rfl); (case hr => exact gq); (case hp => exact (Reps.one (show Kd.M (Kd.int .i64) _ _ _ (-1) [.int .i64 (-1)] from rfl) (Reps.one (show Kd.M (Kd.int .i64) _ _ _ 0 [.int .i64 0] from rfl) (Reps.one (show Kd.M (Kd.int .i64) _ _ _ 1 [.int .i64 1] from rfl) (Reps.one (show Kd.M (Kd.int .i64) _ _ _ 2 [.int .i64 2] from rfl) (Reps.one (show Kd.M (Kd.int .i64) _ _ _ 3 [.int .i64 3] from rfl) (Reps.one (show Kd.M (Kd.int .i64) _ _ _ 7 [.int .i64 7] from rfl) (Reps.one (show Kd.M (Kd.int .i64) _ _ _ 8 [.int .i64 8] from rfl) (Reps.one (show Kd.M (Kd.int .i64) _ _ _ 9 [.int .i64 9] from rfl) (Reps.one (show Kd.M (Kd.int .i64) _ _ _ 15 [.int .i64 15] from rfl) (Reps.one (show Kd.M (Kd.int .i64) _ _ _ 16 [.int .i64 16] from rfl) (Reps.one (show Kd.M (Kd.int .i64) _ _ _ 17 [.int .i64 17] from rfl) (Reps.one (show Kd.M (Kd.int .i64) _ _ _ 63 [.int .i64 63] from rfl) (Reps.one (show Kd.M (Kd.int .i64) _ _ _ 64 [.int .i64 64] from rfl) (Reps.one (show Kd.M (Kd.int .i64) _ _ _ 65 [.int .i64 65] from rfl) (Reps.one (show Kd.M (Kd.int .i64) _ _ _ 999 [.int .i64 999] from rfl) (Reps.one (show Kd.M (Kd.int .i64) _ _ _ 1000 [.int .i64 1000] from rfl) (Reps.one (show Kd.M (Kd.int .i64) _ _ _ 4096 [.int .i64 4096] from rfl) (Reps.one (show Kd.M (Kd.int .i64) _ _ _ 4097 [.int .i64 4097] from rfl) (Reps.one (show Kd.M (Kd.int .i64) _ _ _ 9223372036854775807 [.int .i64 9223372036854775807] from rfl) (Reps.one (show Kd.M (Kd.int .i64) _ _ _ (-9223372036854775808) [.int .i64 (-9223372036854775808)] from rfl) (Reps.none _ _)))))))))))))))))))))); intro v306 w3 ho4 hb hg_ hnew_; clear hg_ hnew_; (first | rw [← Ny305.out] at ho4 | (simp only [Int.reduceToNat] at ho4; rw [← Ny305.out] at ho4)); have n0_ := am (Kd.R_lower ho4 (keep_size (w := w) (g := g) (row := none) u7_0)); have n1_ := am (IsS133.below u7_2 hb); have n2_ := am (KeepBut.trans u7_0 (KeepBut.of_below hb g none) (.inl rfl)); have n3_ := am (below_step u7_3 hb); clear HI0 HK HB; have HO307 := n0_; have HI0 := n1_; have HK := n2_; have HB := n3_; clear n0_ n1_ n2_ n3_ hb ho4; obtain ⟨Ao5, co5, eo5⟩ := Kd.R_slice HO307.out; subst eo5) | ((with_reducible refine gate_callee (f := 111) rfl ?_); refine goesL_ (some 5) rfl rfl Try.func111 (by kernel_rfl) rfl #[.pointer (some ⟨g, 0, none⟩), .slice Ao5 y305.length co5] rfl u7_1 ?_; (with_reducible refine (spec_l1Int.calls g s0_0 s0_1 s0_2 _ _ y305 t308 t309 t310 w0 _ ?side1 ?side2 ?side3 ?side4 ?side5 A2.out).mono ?_); (case side1 => exact s7_4); (case side2 => exact s7_5); (case side3 => repeat (first | exact (Kd.R_reads' HO307.out).2.2 | (with_reducible refine Kd.C_alloc ?_ _) | (with_reducible refine Kd.C_drewN ?_ _) | (with_reducible refine Kd.C_drew ?_))); (case side4 => exact (Kd.R_reads' HO307.out).2.1); (case side5 => exact far_slice (IsS133.own_ne HI0.out HO307.out u7_12)); rintro e w6 ⟨rfl, hi, hb, hk⟩; refine ⟨_, rfl, ?_⟩; have n0_ := am (Kd.R_mono (Kd.R_keep (IsS133.apart (show IsS133 w0 _ g s0_0 s0_1 s0_2 from by repeat (first | (with_reducible first | exact HI0.out | apply IsS133.alloc | apply IsS133.drewN | apply IsS133.drew | apply IsS133.set_1 | apply IsS133.set_2) | exact HI0.out)) (by (with_reducible repeat (first | apply Kd.R_alloc | apply Kd.R_drewN | apply Kd.R_drew)); exact HO307.out) u7_12) hk (fun _ h => h.2)) (fun _ h => h.1)); have n1_ := am (KeepBut.trans u7_0 hk (.inl rfl)); have n2_ := am (hb); have n3_ := am (hi); clear HO307 HK HB HI0; have HO307 := n0_; have HK := n1_; have HB := n2_; have HI0 := n3_; clear n0_ n1_ n2_ n3_; (try clear hb); (try clear hb2); (try clear hk); (try clear hi)))
 go_ret
 exact ⟨by first | rfl | (simp [*] <;> rfl), s7_4, s7_5, s7_6⟩

def spec_l1Word.f (s0_0 : List Int) (s0_1 : Int) (s0_2 : Int) : Option (ByteArray × Int × Int) := (spec_l1Str.f s0_0 s0_1 s0_2 (([(⟨#[97]⟩ : ByteArray), (⟨#[98]⟩ : ByteArray), (⟨#[106, 101, 116, 49]⟩ : ByteArray), (⟨#[112]⟩ : ByteArray), (⟨#[122, 122, 57]⟩ : ByteArray), (⟨#[108, 97, 109, 112]⟩ : ByteArray), (⟨#[97, 98, 99, 100, 101, 102, 103, 104]⟩ : ByteArray), (⟨#[97, 98, 99, 100, 101, 102, 103, 104, 105]⟩ : ByteArray), (⟨#[]⟩ : ByteArray), (⟨#[57, 97]⟩ : ByteArray), (⟨#[65]⟩ : ByteArray), (⟨#[97, 32, 98]⟩ : ByteArray), (⟨#[97, 45, 98]⟩ : ByteArray)] : List ByteArray))).bind fun bt314 => (some (bt314.1, bt314.2.1, bt314.2.2))
set_option maxHeartbeats 8000000 in
set_option maxRecDepth 100000 in
theorem spec_l1Word.calls (g : Nat) (s0_0 : List Int) (s0_1 : Int) (s0_2 : Int) (r1 : ByteArray) (r2 : Int) (r3 : Int) (w0 w : World) (hI : IsS133 w0 w g s0_0 s0_1 s0_2) (hB : Below w0.heap.size w0 w) (h : spec_l1Word.f s0_0 s0_1 s0_2 = some (r1, r2, r3)) :
  Calls Try.prog 114 #[.pointer (some ⟨g, 0, none⟩)] w fun e w' => e = .returned (.string r1) ∧ IsS133 w0 w' g s0_0 r2 r3 ∧ Below w0.heap.size w0 w' ∧ KeepBut w w' g none := by
 have HI0 := am hI
 have HK := am (KeepBut.refl w g none)
 have HL := am hB.size
 clear hI
 have HW0 := am hB.size
 have HB := am hB
 clear hB
 have H : ((spec_l1Str.f s0_0 s0_1 s0_2 (([(⟨#[97]⟩ : ByteArray), (⟨#[98]⟩ : ByteArray), (⟨#[106, 101, 116, 49]⟩ : ByteArray), (⟨#[112]⟩ : ByteArray), (⟨#[122, 122, 57]⟩ : ByteArray), (⟨#[108, 97, 109, 112]⟩ : ByteArray), (⟨#[97, 98, 99, 100, 101, 102, 103, 104]⟩ : ByteArray), (⟨#[97, 98, 99, 100, 101, 102, 103, 104, 105]⟩ : ByteArray), (⟨#[]⟩ : ByteArray), (⟨#[57, 97]⟩ : ByteArray), (⟨#[65]⟩ : ByteArray), (⟨#[97, 32, 98]⟩ : ByteArray), (⟨#[97, 45, 98]⟩ : ByteArray)] : List ByteArray))).bind fun bt314 => (some (bt314.1, bt314.2.1, bt314.2.2))) = some (r1, r2, r3) := h
 clear h
 obtain ⟨y311, hy311⟩ : ∃ y_ : List ByteArray, y_ = (([(⟨#[97]⟩ : ByteArray), (⟨#[98]⟩ : ByteArray), (⟨#[106, 101, 116, 49]⟩ : ByteArray), (⟨#[112]⟩ : ByteArray), (⟨#[122, 122, 57]⟩ : ByteArray), (⟨#[108, 97, 109, 112]⟩ : ByteArray), (⟨#[97, 98, 99, 100, 101, 102, 103, 104]⟩ : ByteArray), (⟨#[97, 98, 99, 100, 101, 102, 103, 104, 105]⟩ : ByteArray), (⟨#[]⟩ : ByteArray), (⟨#[57, 97]⟩ : ByteArray), (⟨#[65]⟩ : ByteArray), (⟨#[97, 32, 98]⟩ : ByteArray), (⟨#[97, 45, 98]⟩ : ByteArray)] : List ByteArray)) := ⟨_, rfl⟩
 replace H : ((spec_l1Str.f s0_0 s0_1 s0_2 y311).bind fun bt314 => (some (bt314.1, bt314.2.1, bt314.2.2))) = some (r1, r2, r3) := by first | (rw [hy311]; with_reducible exact H) | (have H2_ := (Option.bind_some _ _).symm.trans H; rw [hy311]; with_reducible exact H2_) | (have H2_ := (Option.bind_some _ _).symm.trans H; with_reducible exact H2_) | with_reducible exact H | (rw [hy311]; exact H) | exact H
 have Ny311 := am hy311
 clear hy311
 replace H := Option.bind_eq_some_iff.mp H
 obtain ⟨⟨t314, t315, t316⟩, A20, H⟩ := H
 replace H : (some (t314, t315, t316)) = some (r1, r2, r3) := H
 have A2 := am A20
 clear A20
 simp only [Option.some.injEq, Prod.mk.injEq] at H
 obtain ⟨rfl, rfl, rfl⟩ := H
 go_enter Try.func114, Try.ntmps114
 go_wp2_with (first | ((with_reducible refine gate_dst (N := 4) rfl ?_); refine Kd.R_lit Kd.string _ 9 ?hg (N := 4) ?hd (xs := ([(⟨#[97]⟩ : ByteArray), (⟨#[98]⟩ : ByteArray), (⟨#[106, 101, 116, 49]⟩ : ByteArray), (⟨#[112]⟩ : ByteArray), (⟨#[122, 122, 57]⟩ : ByteArray), (⟨#[108, 97, 109, 112]⟩ : ByteArray), (⟨#[97, 98, 99, 100, 101, 102, 103, 104]⟩ : ByteArray), (⟨#[97, 98, 99, 100, 101, 102, 103, 104, 105]⟩ : ByteArray), (⟨#[]⟩ : ByteArray), (⟨#[57, 97]⟩ : ByteArray), (⟨#[65]⟩ : ByteArray), (⟨#[97, 32, 98]⟩ : ByteArray), (⟨#[97, 45, 98]⟩ : ByteArray)] : List ByteArray)) (inner := [.string (⟨#[97]⟩ : ByteArray), .string (⟨#[98]⟩ : ByteArray), .string (⟨#[106, 101, 116, 49]⟩ : ByteArray), .string (⟨#[112]⟩ : ByteArray), .string (⟨#[122, 122, 57]⟩ : ByteArray), .string (⟨#[108, 97, 109, 112]⟩ : ByteArray), .string (⟨#[97, 98, 99, 100, 101, 102, 103, 104]⟩ : ByteArray), .string (⟨#[97, 98, 99, 100, 101, 102, 103, 104, 105]⟩ : ByteArray), .string (⟨#[]⟩ : ByteArray), .string (⟨#[57, 97]⟩ : ByteArray), .string (⟨#[65]⟩ : ByteArray), .string (⟨#[97, 32, 98]⟩ : ByteArray), .string (⟨#[97, 45, 98]⟩ : ByteArray)]) (ok := fun _ => True) (okp := fun _ => True) ?hr ?hp (fun _ hk => hk) trivial (Below.refl _ _) (Nat.le_refl _) (by simp) ?_; (case hd => rfl); (case hg => rfl); (case hr => exact gq); (case hp => exact (Reps.one (show Kd.M Kd.string _ _ _ (⟨#[97]⟩ : ByteArray) [.string (⟨#[97]⟩ : ByteArray)] from rfl) (Reps.one (show Kd.M Kd.string _ _ _ (⟨#[98]⟩ : ByteArray) [.string (⟨#[98]⟩ : ByteArray)] from rfl) (Reps.one (show Kd.M Kd.string _ _ _ (⟨#[106, 101, 116, 49]⟩ : ByteArray) [.string (⟨#[106, 101, 116, 49]⟩ : ByteArray)] from rfl) (Reps.one (show Kd.M Kd.string _ _ _ (⟨#[112]⟩ : ByteArray) [.string (⟨#[112]⟩ : ByteArray)] from rfl) (Reps.one (show Kd.M Kd.string _ _ _ (⟨#[122, 122, 57]⟩ : ByteArray) [.string (⟨#[122, 122, 57]⟩ : ByteArray)] from rfl) (Reps.one (show Kd.M Kd.string _ _ _ (⟨#[108, 97, 109, 112]⟩ : ByteArray) [.string (⟨#[108, 97, 109, 112]⟩ : ByteArray)] from rfl) (Reps.one (show Kd.M Kd.string _ _ _ (⟨#[97, 98, 99, 100, 101, 102, 103, 104]⟩ : ByteArray) [.string (⟨#[97, 98, 99, 100, 101, 102, 103, 104]⟩ : ByteArray)] from rfl) (Reps.one (show Kd.M Kd.string _ _ _ (⟨#[97, 98, 99, 100, 101, 102, 103, 104, 105]⟩ : ByteArray) [.string (⟨#[97, 98, 99, 100, 101, 102, 103, 104, 105]⟩ : ByteArray)] from rfl) (Reps.one (show Kd.M Kd.string _ _ _ (⟨#[]⟩ : ByteArray) [.string (⟨#[]⟩ : ByteArray)] from rfl) (Reps.one (show Kd.M Kd.string _ _ _ (⟨#[57, 97]⟩ : ByteArray) [.string (⟨#[57, 97]⟩ : ByteArray)] from rfl) (Reps.one (show Kd.M Kd.string _ _ _ (⟨#[65]⟩ : ByteArray) [.string (⟨#[65]⟩ : ByteArray)] from rfl) (Reps.one (show Kd.M Kd.string _ _ _ (⟨#[97, 32, 98]⟩ : ByteArray) [.string (⟨#[97, 32, 98]⟩ : ByteArray)] from rfl) (Reps.one (show Kd.M Kd.string _ _ _ (⟨#[97, 45, 98]⟩ : ByteArray) [.string (⟨#[97, 45, 98]⟩ : ByteArray)] from rfl) (Reps.none _ _))))))))))))))); intro v312 w3 ho4 hb hg_ hnew_; clear hg_ hnew_; (first | rw [← Ny311.out] at ho4 | (simp only [Int.reduceToNat] at ho4; rw [← Ny311.out] at ho4)); have n0_ := am (Kd.R_lower ho4 (keep_size (w := w) (g := g) (row := none) u7_0)); have n1_ := am (IsS133.below u7_2 hb); have n2_ := am (KeepBut.trans u7_0 (KeepBut.of_below hb g none) (.inl rfl)); have n3_ := am (below_step u7_3 hb); clear HI0 HK HB; have HO313 := n0_; have HI0 := n1_; have HK := n2_; have HB := n3_; clear n0_ n1_ n2_ n3_ hb ho4; obtain ⟨Ao5, co5, eo5⟩ := Kd.R_slice HO313.out; subst eo5) | ((with_reducible refine gate_callee (f := 118) rfl ?_); refine goesL_ (some 5) rfl rfl Try.func118 (by kernel_rfl) rfl #[.pointer (some ⟨g, 0, none⟩), .slice Ao5 y311.length co5] rfl u7_1 ?_; (with_reducible refine (spec_l1Str.calls g s0_0 s0_1 s0_2 _ _ y311 t314 t315 t316 w0 _ ?side1 ?side2 ?side3 ?side4 ?side5 A2.out).mono ?_); (case side1 => exact s7_4); (case side2 => exact s7_5); (case side3 => repeat (first | exact (Kd.R_reads' HO313.out).2.2 | (with_reducible refine Kd.C_alloc ?_ _) | (with_reducible refine Kd.C_drewN ?_ _) | (with_reducible refine Kd.C_drew ?_))); (case side4 => exact (Kd.R_reads' HO313.out).2.1); (case side5 => exact far_slice (IsS133.own_ne HI0.out HO313.out u7_12)); rintro e w6 ⟨rfl, hi, hb, hk⟩; refine ⟨_, rfl, ?_⟩; have n0_ := am (Kd.R_mono (Kd.R_keep (IsS133.apart (show IsS133 w0 _ g s0_0 s0_1 s0_2 from by repeat (first | (with_reducible first | exact HI0.out | apply IsS133.alloc | apply IsS133.drewN | apply IsS133.drew | apply IsS133.set_1 | apply IsS133.set_2) | exact HI0.out)) (by (with_reducible repeat (first | apply Kd.R_alloc | apply Kd.R_drewN | apply Kd.R_drew)); exact HO313.out) u7_12) hk (fun _ h => h.2)) (fun _ h => h.1)); have n1_ := am (KeepBut.trans u7_0 hk (.inl rfl)); have n2_ := am (hb); have n3_ := am (hi); clear HO313 HK HB HI0; have HO313 := n0_; have HK := n1_; have HB := n2_; have HI0 := n3_; clear n0_ n1_ n2_ n3_; (try clear hb); (try clear hb2); (try clear hk); (try clear hi)))
 go_ret
 exact ⟨by first | rfl | (simp [*] <;> rfl), s7_4, s7_5, s7_6⟩

end Go.Proofs.Ytkljnmojnkiafaa.MFnMovedRig
