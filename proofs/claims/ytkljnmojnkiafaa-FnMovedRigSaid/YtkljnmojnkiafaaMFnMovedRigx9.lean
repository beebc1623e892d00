-- Written by a program for this claim.
import Derived.Test.YtkljnmojnkiafaaMFnMovedRigx0
import Derived.Test.YtkljnmojnkiafaaMFnMovedRigx2
import Derived.Test.YtkljnmojnkiafaaMFnMovedRigx7
import Derived.Test.YtkljnmojnkiafaaMFnMovedRigx8
namespace Go.Proofs.Ytkljnmojnkiafaa.MFnMovedRig
open Go.RowKit Go.Proofs.YtkljnmojnkiafaaW.PrintWords Go.Proofs.YtkljnmojnkiafaaW.PrintLast Go.Proofs.YtkljnmojnkiafaaW.PrintMore
attribute [local go_sem] max2_int min2_int max_two min_two max_three min_three max_four min_four   -- for this text's walks alone
set_option linter.unusedVariables false
set_option linter.unusedSimpArgs false

theorem s9_0 {p : Prop} (h : p := by repeat (first | (with_reducible first | exact HI0.out | apply IsS133.alloc | apply IsS133.drewN | apply IsS133.drew | apply IsS133.set_1 | apply IsS133.set_2 | refine IsS133.far ?_ NB0_387.out _ | refine IsS133.far ?_ NB0_404.out _) | exact HI0.out)) : p := h
theorem s9_1 {p : Prop} (h : p := by repeat (first | (with_reducible first | exact HB.out | apply below_alloc | apply pw_below_drewN | apply below_drew1 | refine below_set ?_ (IsS133.ge HI0.out) | refine below_set ?_ GE387.out | refine below_set ?_ GE404.out) | exact HB.out)) : p := h
theorem s9_2 {p : Prop} (h : p := by repeat (first | (with_reducible first | exact HK.out | apply KeepBut.set_ | apply keep_drewN | apply keep_drew | apply keep_alloc | refine keep_far ?_ GW387.out _ | refine keep_far ?_ GW404.out _) | exact HK.out)) : p := h
theorem s9_3 {p : Prop} (h : p := by repeat (first | (with_reducible first | exact HI0.out | apply IsS133.alloc | apply IsS133.drewN | apply IsS133.drew | apply IsS133.set_1 | apply IsS133.set_2 | refine IsS133.far ?_ NB0_387.out _) | exact HI0.out)) : p := h
theorem s9_4 {p : Prop} (h : p := by repeat (first | (with_reducible first | exact HB.out | apply below_alloc | apply pw_below_drewN | apply below_drew1 | refine below_set ?_ (IsS133.ge HI0.out) | refine below_set ?_ GE387.out) | exact HB.out)) : p := h
theorem s9_5 {p : Prop} (h : p := by repeat (first | (with_reducible first | exact HI489.out | apply IsS133.alloc | apply IsS133.drewN | apply IsS133.drew | apply IsS133.set_1 | apply IsS133.set_2) | exact HI489.out)) : p := h
theorem s9_6 {p : Prop} (h : p := by repeat (first | (with_reducible first | exact HB.out | apply below_alloc | apply pw_below_drewN | apply below_drew1 | refine below_set ?_ (IsS133.ge HI489.out)) | exact HB.out)) : p := h
theorem s9_7 {p : Prop} (h : p := by repeat (first | (with_reducible first | exact HI0.out | apply IsS133.alloc | apply IsS133.drewN | apply IsS133.drew | apply IsS133.set_1 | apply IsS133.set_2) | exact HI0.out)) : p := h
theorem s9_8 {p : Prop} (h : p := by repeat (first | (with_reducible first | exact HB.out | apply below_alloc | apply pw_below_drewN | apply below_drew1 | refine below_set ?_ (IsS133.ge HI0.out)) | exact HB.out)) : p := h
theorem s9_9 {p : Prop} (h : p := by repeat (first | (with_reducible first | exact HK.out | apply KeepBut.set_ | apply keep_drewN | apply keep_drew | apply keep_alloc) | exact HK.out)) : p := h
theorem u9_0 {p : Prop} (h : p := by (try simp only [List.map_toArray, List.map_cons, List.map_nil]); first | done | rfl | (simp only [List.length_drop, List.length_take]; rfl)) : p := h
theorem u9_1 {p : Prop} (h : p := by repeat (first | (with_reducible first | exact HK.out | apply KeepBut.set_ | apply keep_drewN | apply keep_drew | apply keep_alloc) | exact HK.out)) : p := h
theorem u9_2 {p : Prop} (h : p := by repeat (first | (with_reducible first | exact HK.out | apply KeepBut.set_ | apply keep_drewN | apply keep_drew | apply keep_alloc | refine keep_far ?_ GW387.out _ | refine keep_far ?_ GW404.out _) | exact HK.out)) : p := h
theorem u9_3 {p : Prop} (h : p := by (with_reducible repeat (first | refine blk_drewN ?_ _ | refine blk_drew ?_ | refine blk_alloc ?_ _)); exact BK387.out) : p := h
theorem u9_4 {p : Prop} (h : p := by (with_reducible repeat (first | refine blk_drewN ?_ _ | refine blk_drew ?_ | refine blk_alloc ?_ _)); exact BK404.out) : p := h
theorem u9_5 {p : Prop} (h : p := by repeat (first | (with_reducible first | exact HK.out | apply KeepBut.set_ | apply keep_drewN | apply keep_drew | apply keep_alloc | refine keep_far ?_ GW387.out _) | exact HK.out)) : p := h
theorem u9_6 {p : Prop} (h : p := by (with_reducible repeat (first | apply Kd.R_alloc | apply Kd.R_drewN | apply Kd.R_drew)); exact HO448.out) : p := h
theorem u9_7 {p : Prop} (h : p := by repeat (first | (with_reducible first | exact HI0.out | apply IsS133.alloc | apply IsS133.drewN | apply IsS133.drew | apply IsS133.set_1 | apply IsS133.set_2) | exact HI0.out)) : p := h
theorem u9_8 {p : Prop} (h : p := by repeat (first | (with_reducible first | exact HB.out | apply below_alloc | apply pw_below_drewN | apply below_drew1 | refine below_set ?_ (IsS133.ge HI0.out)) | exact HB.out)) : p := h
theorem u9_9 {p : Prop} (h : p := by first | rfl | (simp; done) | (simp [*]; done)) : p := h
mutual
def spec_l6Any.j2 : Nat → List Int → Int → Int → ByteArray → Int → ByteArray → Int → Int → Int → Int → Int → Option (ByteArray × Int × ByteArray × Int × Int × Int × Int × Int × Int × Int)
 | 0, _, _, _, _, _, _, _, _, _, _, _ => none
 | k + 1, x1000, x1001, x1002, x405000, x405001, x405002, x405003, x405004, x405005, x405006, x405007 => (spec_l1Below.f x1000 x1001 x1002 12).bind fun bt430 => (if bt430.1 = 0 then ((spec_l1Word.f x1000 bt430.2.1 bt430.2.2).bind fun bt433 => (some (bt433.1, x405001, x405002, x405003, x405004, x405005, x405006, x405007, bt433.2.1, bt433.2.2))) else (if bt430.1 = 1 then ((spec_l1Odd.f x1000 bt430.2.1 bt430.2.2).bind fun bt436 => (some (x405000, x405001, x405002, x405003, x405004, x405005, bt436.1, x405007, bt436.2.1, bt436.2.2))) else (if bt430.1 = 2 then ((spec_l3Any.f k x1000 bt430.2.1 bt430.2.2).bind fun bt439 => (some (x405000, x405001, x405002, bt439.1, bt439.2.1, x405005, x405006, x405007, bt439.2.2.2.2.2.1, bt439.2.2.2.2.2.2))) else (some (x405000, x405001, x405002, x405003, x405004, x405005, x405006, x405007, bt430.2.1, bt430.2.2)))))
def spec_l6Any.j0 : Nat → Int → Bool → List Int → Int → Int → ByteArray → Int → ByteArray → Int → Int → Int → Int → Int → Option (ByteArray × Int × ByteArray × Int × Int × Int × Int × Int × Int × Int)
 | 0, _, _, _, _, _, _, _, _, _, _, _, _, _ => none
 | k + 1, x11, x12, x1000, x1001, x1002, x405000, x405001, x405002, x405003, x405004, x405005, x405006, x405007 => if x12 = true then ((spec_l6Name.f x1000 x1001 x1002).bind fun bt408 => ((spec_l1Below.f x1000 bt408.2.1 bt408.2.2 600).bind fun bt411 => (spec_l6Any.j2 k x1000 bt411.2.1 bt411.2.2 bt408.1 1 (⟨#[]⟩ : ByteArray) 0 0 0 0 bt411.1))) else (if x11 = 2 then (spec_l6Any.j1 k x11 (x11 == 2) x1000 x1001 x1002 x405000 x405001 x405002 x405003 x405004 x405005 x405006 x405007) else (spec_l6Any.j1 k x11 (x11 == 3) x1000 x1001 x1002 x405000 x405001 x405002 x405003 x405004 x405005 x405006 x405007))
def spec_l6Any.j1 : Nat → Int → Bool → List Int → Int → Int → ByteArray → Int → ByteArray → Int → Int → Int → Int → Int → Option (ByteArray × Int × ByteArray × Int × Int × Int × Int × Int × Int × Int)
 | 0, _, _, _, _, _, _, _, _, _, _, _, _, _ => none
 | k + 1, x11, x20, x1000, x1001, x1002, x405000, x405001, x405002, x405003, x405004, x405005, x405006, x405007 => if x20 = true then ((spec_l6Name.f x1000 x1001 x1002).bind fun bt414 => ((spec_l6Name.f x1000 bt414.2.1 bt414.2.2).bind fun bt417 => ((spec_l2Any.f k x1000 bt417.2.1 bt417.2.2).bind fun bt420 => (spec_l6Any.j2 k x1000 bt420.2.2.1 bt420.2.2.2 bt414.1 3 bt417.1 bt420.1 bt420.2.1 0 0 0)))) else (if x11 = 4 then ((spec_l1Odd.f x1000 x1001 x1002).bind fun bt424 => (spec_l6Any.j2 k x1000 bt424.2.1 bt424.2.2 x405000 x405001 x405002 x405003 x405004 x405005 x405006 bt424.1)) else (if x11 = 5 then ((spec_l1Odd.f x1000 x1001 x1002).bind fun bt427 => (spec_l6Any.j2 k x1000 bt427.2.1 bt427.2.2 x405000 bt427.1 x405002 x405003 x405004 x405005 x405006 x405007)) else (spec_l6Any.j2 k x1000 x1001 x1002 x405000 x405001 x405002 x405003 x405004 x405005 x405006 x405007)))
end
def spec_l6Any.f (k : Nat) (s0_0 : List Int) (s0_1 : Int) (s0_2 : Int) : Option (ByteArray × Int × ByteArray × Int × Int × Int × Int × Int × Int × Int) := (spec_l6Name.f s0_0 s0_1 s0_2).bind fun bt388 => ((spec_l6Name.f s0_0 bt388.2.1 bt388.2.2).bind fun bt391 => ((spec_l6Nozzle.f s0_0 bt391.2.1 bt391.2.2 bt388.1 bt391.1).bind fun bt394 => ((spec_l1Below.f s0_0 bt394.2.2.2.2.2.2.2.2.1 bt394.2.2.2.2.2.2.2.2.2 9).bind fun bt405 => (if bt405.1 = 0 then (spec_l6Any.j0 k bt405.1 (bt405.1 == 0) s0_0 bt405.2.1 bt405.2.2 bt394.1 bt394.2.1 bt394.2.2.1 bt394.2.2.2.1 bt394.2.2.2.2.1 bt394.2.2.2.2.2.1 bt394.2.2.2.2.2.2.1 bt394.2.2.2.2.2.2.2.1) else (spec_l6Any.j0 k bt405.1 (bt405.1 == 1) s0_0 bt405.2.1 bt405.2.2 bt394.1 bt394.2.1 bt394.2.2.1 bt394.2.2.2.1 bt394.2.2.2.2.1 bt394.2.2.2.2.2.1 bt394.2.2.2.2.2.2.1 bt394.2.2.2.2.2.2.2.1)))))
theorem spec_l6Any.mono_l : ∀ k, (∀ y0 y1 y2 y3 y4 y5 y6 y7 y8 y9 y10, LeO (spec_l6Any.j2 k y0 y1 y2 y3 y4 y5 y6 y7 y8 y9 y10) (spec_l6Any.j2 (k + 1) y0 y1 y2 y3 y4 y5 y6 y7 y8 y9 y10)) ∧ (∀ y0 y1 y2 y3 y4 y5 y6 y7 y8 y9 y10 y11 y12, LeO (spec_l6Any.j0 k y0 y1 y2 y3 y4 y5 y6 y7 y8 y9 y10 y11 y12) (spec_l6Any.j0 (k + 1) y0 y1 y2 y3 y4 y5 y6 y7 y8 y9 y10 y11 y12)) ∧ (∀ y0 y1 y2 y3 y4 y5 y6 y7 y8 y9 y10 y11 y12, LeO (spec_l6Any.j1 k y0 y1 y2 y3 y4 y5 y6 y7 y8 y9 y10 y11 y12) (spec_l6Any.j1 (k + 1) y0 y1 y2 y3 y4 y5 y6 y7 y8 y9 y10 y11 y12))
 | 0 => ⟨fun _ _ _ _ _ _ _ _ _ _ _ r h => by simp [spec_l6Any.j2] at h, fun _ _ _ _ _ _ _ _ _ _ _ _ _ r h => by simp [spec_l6Any.j0] at h, fun _ _ _ _ _ _ _ _ _ _ _ _ _ r h => by simp [spec_l6Any.j1] at h⟩
 | k + 1 => by
  obtain ⟨ih0, ih1, ih2⟩ := spec_l6Any.mono_l k
  refine ⟨?_, ?_, ?_⟩
  ·intro y0 y1 y2 y3 y4 y5 y6 y7 y8 y9 y10
   unfold spec_l6Any.j2
   repeat' first
   | (with_reducible exact ih0 _ _ _ _ _ _ _ _ _ _ _)
   | (with_reducible exact ih1 _ _ _ _ _ _ _ _ _ _ _ _ _)
   | (with_reducible exact ih2 _ _ _ _ _ _ _ _ _ _ _ _ _)
   | (with_reducible exact spec_l2Any.mono _ _ _ _)
   | (with_reducible exact spec_l3Any.mono _ _ _ _)
   | (with_reducible exact LeO.refl _)
   | (with_reducible exact LeO.none _)
   | (with_reducible refine LeO.ite ?_ ?_)
   | (with_reducible refine LeO.bind ?_ (fun _ => ?_))
  ·intro y0 y1 y2 y3 y4 y5 y6 y7 y8 y9 y10 y11 y12
   unfold spec_l6Any.j0
   repeat' first
   | (with_reducible exact ih0 _ _ _ _ _ _ _ _ _ _ _)
   | (with_reducible exact ih1 _ _ _ _ _ _ _ _ _ _ _ _ _)
   | (with_reducible exact ih2 _ _ _ _ _ _ _ _ _ _ _ _ _)
   | (with_reducible exact spec_l2Any.mono _ _ _ _)
   | (with_reducible exact spec_l3Any.mono _ _ _ _)
   | (with_reducible exact LeO.refl _)
   | (with_reducible exact LeO.none _)
   | (with_reducible refine LeO.ite ?_ ?_)
   | (with_reducible refine LeO.bind ?_ (fun _ => ?_))
  ·intro y0 y1 y2 y3 y4 y5 y6 y7 y8 y9 y10 y11 y12
   unfold spec_l6Any.j1
   repeat' first
   | (with_reducible exact ih0 _ _ _ _ _ _ _ _ _ _ _)
   | (with_reducible exact ih1 _ _ _ _ _ _ _ _ _ _ _ _ _)
   | (with_reducible exact ih2 _ _ _ _ _ _ _ _ _ _ _ _ _)
   | (with_reducible exact spec_l2Any.mono _ _ _ _)
   | (with_reducible exact spec_l3Any.mono _ _ _ _)
   | (with_reducible exact LeO.refl _)
   | (with_reducible exact LeO.none _)
   | (with_reducible refine LeO.ite ?_ ?_)
   | (with_reducible refine LeO.bind ?_ (fun _ => ?_))
theorem spec_l6Any.mono : ∀ a0 a1 a2 k, LeO (spec_l6Any.f k a0 a1 a2) (spec_l6Any.f (k + 1) a0 a1 a2) := by
 intro a0 a1 a2 k
 obtain ⟨ih0, ih1, ih2⟩ := spec_l6Any.mono_l k
 unfold spec_l6Any.f
 repeat' first
   | (with_reducible exact ih0 _ _ _ _ _ _ _ _ _ _ _)
   | (with_reducible exact ih1 _ _ _ _ _ _ _ _ _ _ _ _ _)
   | (with_reducible exact ih2 _ _ _ _ _ _ _ _ _ _ _ _ _)
   | (with_reducible exact spec_l2Any.mono _ _ _ _)
   | (with_reducible exact spec_l3Any.mono _ _ _ _)
   | (with_reducible exact LeO.refl _)
   | (with_reducible exact LeO.none _)
   | (with_reducible refine LeO.ite ?_ ?_)
   | (with_reducible refine LeO.bind ?_ (fun _ => ?_))
set_option maxHeartbeats 8000000 in
set_option maxRecDepth 100000 in
theorem spec_l6Any.calls (k : Nat) (g : Nat) (s0_0 : List Int) (s0_1 : Int) (s0_2 : Int) (r1 : ByteArray) (r2 : Int) (r3 : ByteArray) (r4 : Int) (r5 : Int) (r6 : Int) (r7 : Int) (r8 : Int) (r9 : Int) (r10 : Int) (w0 w : World) (hI : IsS133 w0 w g s0_0 s0_1 s0_2) (hB : Below w0.heap.size w0 w) (h : spec_l6Any.f k s0_0 s0_1 s0_2 = some (r1, r2, r3, r4, r5, r6, r7, r8, r9, r10)) :
  Calls Try.prog 130 #[.pointer (some ⟨g, 0, none⟩)] w fun e w' => e = .returned (.agg #[.string r1, .int .i64 r2, .string r3, .int .i64 r4, .int .i64 r5, .int .i64 r6, .int .i64 r7, .int .i64 r8]) ∧ IsS133 w0 w' g s0_0 r9 r10 ∧ Below w0.heap.size w0 w' ∧ KeepBut w w' g none := by
 have hu153 := Try.underlying153   -- l6Any field
 have hu87 := Try.underlying87
 have hu66 := Try.underlying66
 have HI0 := am hI
 have HK := am (KeepBut.refl w g none)
 have HL := am hB.size
 clear hI
 have HW0 := am hB.size
 have HB := am hB
 clear hB
 have H : ((spec_l6Name.f s0_0 s0_1 s0_2).bind fun bt388 => ((spec_l6Name.f s0_0 bt388.2.1 bt388.2.2).bind fun bt391 => ((spec_l6Nozzle.f s0_0 bt391.2.1 bt391.2.2 bt388.1 bt391.1).bind fun bt394 => ((spec_l1Below.f s0_0 bt394.2.2.2.2.2.2.2.2.1 bt394.2.2.2.2.2.2.2.2.2 9).bind fun bt405 => (if bt405.1 = 0 then (spec_l6Any.j0 k bt405.1 (bt405.1 == 0) s0_0 bt405.2.1 bt405.2.2 bt394.1 bt394.2.1 bt394.2.2.1 bt394.2.2.2.1 bt394.2.2.2.2.1 bt394.2.2.2.2.2.1 bt394.2.2.2.2.2.2.1 bt394.2.2.2.2.2.2.2.1) else (spec_l6Any.j0 k bt405.1 (bt405.1 == 1) s0_0 bt405.2.1 bt405.2.2 bt394.1 bt394.2.1 bt394.2.2.1 bt394.2.2.2.1 bt394.2.2.2.2.1 bt394.2.2.2.2.2.1 bt394.2.2.2.2.2.2.1 bt394.2.2.2.2.2.2.2.1)))))) = some (r1, r2, r3, r4, r5, r6, r7, r8, r9, r10) := h
 clear h
 replace H := Option.bind_eq_some_iff.mp H
 obtain ⟨⟨t388, t389, t390⟩, A20, H⟩ := H
 replace H : ((spec_l6Name.f s0_0 t389 t390).bind fun bt391 => ((spec_l6Nozzle.f s0_0 bt391.2.1 bt391.2.2 t388 bt391.1).bind fun bt394 => ((spec_l1Below.f s0_0 bt394.2.2.2.2.2.2.2.2.1 bt394.2.2.2.2.2.2.2.2.2 9).bind fun bt405 => (if bt405.1 = 0 then (spec_l6Any.j0 k bt405.1 (bt405.1 == 0) s0_0 bt405.2.1 bt405.2.2 bt394.1 bt394.2.1 bt394.2.2.1 bt394.2.2.2.1 bt394.2.2.2.2.1 bt394.2.2.2.2.2.1 bt394.2.2.2.2.2.2.1 bt394.2.2.2.2.2.2.2.1) else (spec_l6Any.j0 k bt405.1 (bt405.1 == 1) s0_0 bt405.2.1 bt405.2.2 bt394.1 bt394.2.1 bt394.2.2.1 bt394.2.2.2.1 bt394.2.2.2.2.1 bt394.2.2.2.2.2.1 bt394.2.2.2.2.2.2.1 bt394.2.2.2.2.2.2.2.1))))) = some (r1, r2, r3, r4, r5, r6, r7, r8, r9, r10) := H
 have A2 := am A20
 clear A20
 replace H := Option.bind_eq_some_iff.mp H
 obtain ⟨⟨t391, t392, t393⟩, A30, H⟩ := H
 replace H : ((spec_l6Nozzle.f s0_0 t392 t393 t388 t391).bind fun bt394 => ((spec_l1Below.f s0_0 bt394.2.2.2.2.2.2.2.2.1 bt394.2.2.2.2.2.2.2.2.2 9).bind fun bt405 => (if bt405.1 = 0 then (spec_l6Any.j0 k bt405.1 (bt405.1 == 0) s0_0 bt405.2.1 bt405.2.2 bt394.1 bt394.2.1 bt394.2.2.1 bt394.2.2.2.1 bt394.2.2.2.2.1 bt394.2.2.2.2.2.1 bt394.2.2.2.2.2.2.1 bt394.2.2.2.2.2.2.2.1) else (spec_l6Any.j0 k bt405.1 (bt405.1 == 1) s0_0 bt405.2.1 bt405.2.2 bt394.1 bt394.2.1 bt394.2.2.1 bt394.2.2.2.1 bt394.2.2.2.2.1 bt394.2.2.2.2.2.1 bt394.2.2.2.2.2.2.1 bt394.2.2.2.2.2.2.2.1)))) = some (r1, r2, r3, r4, r5, r6, r7, r8, r9, r10) := H
 have A3 := am A30
 clear A30
 replace H := Option.bind_eq_some_iff.mp H
 obtain ⟨⟨t394, t395, t396, t397, t398, t399, t400, t401, t402, t403⟩, A40, H⟩ := H
 replace H : ((spec_l1Below.f s0_0 t402 t403 9).bind fun bt405 => (if bt405.1 = 0 then (spec_l6Any.j0 k bt405.1 (bt405.1 == 0) s0_0 bt405.2.1 bt405.2.2 t394 t395 t396 t397 t398 t399 t400 t401) else (spec_l6Any.j0 k bt405.1 (bt405.1 == 1) s0_0 bt405.2.1 bt405.2.2 t394 t395 t396 t397 t398 t399 t400 t401))) = some (r1, r2, r3, r4, r5, r6, r7, r8, r9, r10) := H
 have A4 := am A40
 clear A40
 replace H := Option.bind_eq_some_iff.mp H
 obtain ⟨⟨t405, t406, t407⟩, A50, H⟩ := H
 replace H : (if t405 = 0 then (spec_l6Any.j0 k t405 (t405 == 0) s0_0 t406 t407 t394 t395 t396 t397 t398 t399 t400 t401) else (spec_l6Any.j0 k t405 (t405 == 1) s0_0 t406 t407 t394 t395 t396 t397 t398 t399 t400 t401)) = some (r1, r2, r3, r4, r5, r6, r7, r8, r9, r10) := H
 have A5 := am A50
 clear A50
 have HC6 := am H
 clear H
 go_enter Try.func130, Try.ntmps130
 go_upto_block 0 with (first | ((with_reducible refine gate_dst (N := 2) rfl ?_); refine box_event ?hg (N := 2) ?hd (cs := #[.string (⟨#[]⟩ : ByteArray), .int .i64 0, .string (⟨#[]⟩ : ByteArray), .int .i64 0, .int .i64 0, .int .i64 0, .int .i64 0, .int .i64 0]) (t := 87) ?hr ?_; (case hd => rfl); (case hg => rfl); (case hr => exact gq); intro gb387 hg w7 hbox hb; have n0_ := am (IsS133.below u9_7 hb); have n1_ := am (KeepBut.trans u9_1 (KeepBut.of_below hb g none) (.inl rfl)); have n2_ := am (below_step u9_8 hb); have n3_ := am (hbox); have n4_ := am ((by rw [hg]; exact (keep_size (w := w) (g := g) (row := none) u9_1) : w.heap.size ≤ gb387)); have n5_ := am ((Nat.le_trans HW0.out (by rw [hg]; exact (keep_size (w := w) (g := g) (row := none) u9_1) : w.heap.size ≤ gb387) : w0.heap.size ≤ gb387)); have n6_ := am ((by rw [hg]; exact Nat.ne_of_lt (IsS133.lt (show IsS133 w0 _ g s0_0 s0_1 s0_2 from by repeat (first | (with_reducible first | exact HI0.out | apply IsS133.alloc | apply IsS133.drewN | apply IsS133.drew | apply IsS133.set_1 | apply IsS133.set_2) | exact HI0.out))) : g ≠ gb387)); have n7_ := am ((by rw [hg]; exact Nat.ne_of_gt (IsS133.lt (show IsS133 w0 _ g s0_0 s0_1 s0_2 from by repeat (first | (with_reducible first | exact HI0.out | apply IsS133.alloc | apply IsS133.drewN | apply IsS133.drew | apply IsS133.set_1 | apply IsS133.set_2) | exact HI0.out))) : gb387 ≠ g)); clear HI0 HK HB; have HI0 := n0_; have HK := n1_; have HB := n2_; have BK387 := n3_; have GW387 := n4_; have GE387 := n5_; have NB0_387 := n6_; have NB387_0 := n7_; clear n0_ n1_ n2_ n3_ n4_ n5_ n6_ n7_ hb hbox hg) | ((with_reducible refine gate_callee (f := 159) rfl ?_); refine goesL_ (some 6) rfl rfl Try.func159 (by kernel_rfl) rfl #[.pointer (some ⟨g, 0, none⟩)] rfl u9_0 ?_; (with_reducible refine (spec_l6Name.calls g s0_0 s0_1 s0_2 t388 t389 t390 w0 _ ?side1 ?side2 A2.out).mono ?_); (case side1 => exact s9_3); (case side2 => exact s9_4); rintro e w8 ⟨rfl, hi, hb, hk⟩; refine ⟨_, rfl, ?_⟩; have n0_ := am (KeepBut.blk hk (g' := gb387) (o := zo0 (⟨#[]⟩ : ByteArray) 0 (⟨#[]⟩ : ByteArray) 0 0 0 0 0) u9_3 NB387_0.out (by simp)); have n1_ := am (KeepBut.trans u9_5 hk (.inl rfl)); have n2_ := am (hb); have n3_ := am (hi); clear BK387 HK HB HI0; have BK387 := n0_; have HK := n1_; have HB := n2_; have HI0 := n3_; clear n0_ n1_ n2_ n3_; (try clear hb); (try clear hb2); (try clear hk); (try clear hi)) | ((with_reducible refine gate_callee (f := 159) rfl ?_); refine goesL_ (some 8) rfl rfl Try.func159 (by kernel_rfl) rfl #[.pointer (some ⟨g, 0, none⟩)] rfl u9_0 ?_; (with_reducible refine (spec_l6Name.calls g s0_0 t389 t390 t391 t392 t393 w0 _ ?side1 ?side2 A3.out).mono ?_); (case side1 => exact s9_3); (case side2 => exact s9_4); rintro e w9 ⟨rfl, hi, hb, hk⟩; refine ⟨_, rfl, ?_⟩; have n0_ := am (KeepBut.blk hk (g' := gb387) (o := zo0 (⟨#[]⟩ : ByteArray) 0 (⟨#[]⟩ : ByteArray) 0 0 0 0 0) u9_3 NB387_0.out (by simp)); have n1_ := am (KeepBut.trans u9_5 hk (.inl rfl)); have n2_ := am (hb); have n3_ := am (hi); clear BK387 HK HB HI0; have BK387 := n0_; have HK := n1_; have HB := n2_; have HI0 := n3_; clear n0_ n1_ n2_ n3_; (try clear hb); (try clear hb2); (try clear hk); (try clear hi)) | ((with_reducible refine gate_callee (f := 127) rfl ?_); refine goesL_ (some 9) rfl rfl Try.func127 (by kernel_rfl) rfl #[.pointer (some ⟨g, 0, none⟩), .string t388, .string t391] rfl u9_0 ?_; (with_reducible refine (spec_l6Nozzle.calls g s0_0 t392 t393 t388 t391 t394 t395 t396 t397 t398 t399 t400 t401 t402 t403 w0 _ ?side1 ?side2 A4.out).mono ?_); (case side1 => exact s9_3); (case side2 => exact s9_4); rintro e w10 ⟨rfl, hi, hb, hk⟩; refine ⟨_, rfl, ?_⟩; have n0_ := am (KeepBut.blk hk (g' := gb387) (o := zo0 (⟨#[]⟩ : ByteArray) 0 (⟨#[]⟩ : ByteArray) 0 0 0 0 0) u9_3 NB387_0.out (by simp)); have n1_ := am (KeepBut.trans u9_5 hk (.inl rfl)); have n2_ := am (hb); have n3_ := am (hi); clear BK387 HK HB HI0; have BK387 := n0_; have HK := n1_; have HB := n2_; have HI0 := n3_; clear n0_ n1_ n2_ n3_; (try clear hb); (try clear hb2); (try clear hk); (try clear hi)) | ((with_reducible refine gate_dst (N := 3) rfl ?_); refine box_event ?hg (N := 3) ?hd (cs := #[.string (⟨#[]⟩ : ByteArray), .int .i64 0, .string (⟨#[]⟩ : ByteArray), .int .i64 0, .int .i64 0, .int .i64 0, .int .i64 0, .int .i64 0]) (t := 87) ?hr ?_; (case hd => rfl); (case hg => rfl); (case hr => exact gq); intro gb404 hg w11 hbox hb; have n0_ := am (IsS133.below (by repeat (first | (with_reducible first | exact HI0.out | apply IsS133.alloc | apply IsS133.drewN | apply IsS133.drew | apply IsS133.set_1 | apply IsS133.set_2 | refine IsS133.far ?_ NB0_387.out _) | exact HI0.out)) hb); have n1_ := am (blk_below (g := gb387) (o := zo0 (⟨#[]⟩ : ByteArray) 0 (⟨#[]⟩ : ByteArray) 0 0 0 0 0) u9_3 hb); have n2_ := am (KeepBut.trans u9_5 (KeepBut.of_below hb g none) (.inl rfl)); have n3_ := am (below_step (by repeat (first | (with_reducible first | exact HB.out | apply below_alloc | apply pw_below_drewN | apply below_drew1 | refine below_set ?_ (IsS133.ge HI0.out) | refine below_set ?_ GE387.out) | exact HB.out)) hb); have n4_ := am (hbox); have n5_ := am ((by rw [hg]; exact (keep_size (w := w) (g := g) (row := none) u9_5) : w.heap.size ≤ gb404)); have n6_ := am ((Nat.le_trans HW0.out (by rw [hg]; exact (keep_size (w := w) (g := g) (row := none) u9_5) : w.heap.size ≤ gb404) : w0.heap.size ≤ gb404)); have n7_ := am ((by rw [hg]; exact Nat.ne_of_lt (blk_lt (g := gb387) (o := zo0 (⟨#[]⟩ : ByteArray) 0 (⟨#[]⟩ : ByteArray) 0 0 0 0 0) u9_3) : gb387 ≠ gb404)); have n8_ := am ((by rw [hg]; exact Nat.ne_of_gt (blk_lt (g := gb387) (o := zo0 (⟨#[]⟩ : ByteArray) 0 (⟨#[]⟩ : ByteArray) 0 0 0 0 0) u9_3) : gb404 ≠ gb387)); have n9_ := am ((by rw [hg]; exact Nat.ne_of_lt (IsS133.lt (show IsS133 w0 _ g s0_0 t402 t403 from by repeat (first | (with_reducible first | exact HI0.out | apply IsS133.alloc | apply IsS133.drewN | apply IsS133.drew | apply IsS133.set_1 | apply IsS133.set_2 | refine IsS133.far ?_ NB0_387.out _) | exact HI0.out))) : g ≠ gb404)); have n10_ := am ((by rw [hg]; exact Nat.ne_of_gt (IsS133.lt (show IsS133 w0 _ g s0_0 t402 t403 from by repeat (first | (with_reducible first | exact HI0.out | apply IsS133.alloc | apply IsS133.drewN | apply IsS133.drew | apply IsS133.set_1 | apply IsS133.set_2 | refine IsS133.far ?_ NB0_387.out _) | exact HI0.out))) : gb404 ≠ g)); clear HI0 BK387 HK HB; have HI0 := n0_; have BK387 := n1_; have HK := n2_; have HB := n3_; have BK404 := n4_; have GW404 := n5_; have GE404 := n6_; have NB387_404 := n7_; have NB404_387 := n8_; have NB0_404 := n9_; have NB404_0 := n10_; clear n0_ n1_ n2_ n3_ n4_ n5_ n6_ n7_ n8_ n9_ n10_ hb hbox hg; have hnb12 := NB404_387.out; have hnc12 := NB387_404.out; have hnb13 := NB404_0.out; have hnc13 := NB0_404.out; obtain ⟨hcz14_0, hcz14_1, hcz14_2, hcz14_3, hcz14_4, hcz14_5, hcz14_6, hcz14_7, hfz14_0, hfz14_1, hfz14_2, hfz14_3, hfz14_4, hfz14_5, hfz14_6, hfz14_7⟩ := cf8 BK404.out) | ((with_reducible refine gate_callee (f := 110) rfl ?_); refine goesL_ (some 11) rfl rfl Try.func110 (by kernel_rfl) rfl #[.pointer (some ⟨g, 0, none⟩), .int .i64 9] rfl u9_0 ?_; (with_reducible refine (spec_l1Below.calls g s0_0 t402 t403 9 t405 t406 t407 w0 _ ?side1 ?side2 A5.out).mono ?_); (case side1 => exact s9_0); (case side2 => exact s9_1); rintro e w15 ⟨rfl, hi, hb, hk⟩; refine ⟨_, rfl, ?_⟩; have n0_ := am (KeepBut.blk hk (g' := gb387) (o := zo0 (⟨#[]⟩ : ByteArray) 0 (⟨#[]⟩ : ByteArray) 0 0 0 0 0) (by (with_reducible repeat (first | refine blk_drewN ?_ _ | refine blk_drew ?_ | refine blk_alloc ?_ _)); refine blk_far ?_ NB387_404.out _; (with_reducible repeat (first | refine blk_drewN ?_ _ | refine blk_drew ?_ | refine blk_alloc ?_ _)); refine blk_far ?_ NB387_404.out _; (with_reducible repeat (first | refine blk_drewN ?_ _ | refine blk_drew ?_ | refine blk_alloc ?_ _)); refine blk_far ?_ NB387_404.out _; (with_reducible repeat (first | refine blk_drewN ?_ _ | refine blk_drew ?_ | refine blk_alloc ?_ _)); refine blk_far ?_ NB387_404.out _; (with_reducible repeat (first | refine blk_drewN ?_ _ | refine blk_drew ?_ | refine blk_alloc ?_ _)); refine blk_far ?_ NB387_404.out _; (with_reducible repeat (first | refine blk_drewN ?_ _ | refine blk_drew ?_ | refine blk_alloc ?_ _)); refine blk_far ?_ NB387_404.out _; (with_reducible repeat (first | refine blk_drewN ?_ _ | refine blk_drew ?_ | refine blk_alloc ?_ _)); refine blk_far ?_ NB387_404.out _; (with_reducible repeat (first | refine blk_drewN ?_ _ | refine blk_drew ?_ | refine blk_alloc ?_ _)); refine blk_far ?_ NB387_404.out _; (with_reducible repeat (first | refine blk_drewN ?_ _ | refine blk_drew ?_ | refine blk_alloc ?_ _)); exact BK387.out) NB387_0.out (by simp)); have n1_ := am (KeepBut.blk hk (g' := gb404) (o := zo0 t394 t395 t396 t397 t398 t399 t400 t401) (by (with_reducible repeat (first | refine blk_drewN ?_ _ | refine blk_drew ?_ | refine blk_alloc ?_ _)); refine blk_put (cs := zr5 t394 t395 t396 t397 t398 t399 t400 0) ?_ 7 _ rfl; refine blk_put (cs := zr5 t394 t395 t396 t397 t398 t399 0 0) ?_ 6 _ rfl; refine blk_put (cs := zr5 t394 t395 t396 t397 t398 0 0 0) ?_ 5 _ rfl; refine blk_put (cs := zr5 t394 t395 t396 t397 0 0 0 0) ?_ 4 _ rfl; refine blk_put (cs := zr5 t394 t395 t396 0 0 0 0 0) ?_ 3 _ rfl; refine blk_put (cs := zr5 t394 t395 (⟨#[]⟩ : ByteArray) 0 0 0 0 0) ?_ 2 _ rfl; (with_reducible repeat (first | refine blk_drewN ?_ _ | refine blk_drew ?_ | refine blk_alloc ?_ _)); refine blk_put (cs := zr5 t394 0 (⟨#[]⟩ : ByteArray) 0 0 0 0 0) ?_ 1 _ rfl; (with_reducible repeat (first | refine blk_drewN ?_ _ | refine blk_drew ?_ | refine blk_alloc ?_ _)); refine blk_put (cs := zr5 (⟨#[]⟩ : ByteArray) 0 (⟨#[]⟩ : ByteArray) 0 0 0 0 0) ?_ 0 _ rfl; (with_reducible repeat (first | refine blk_drewN ?_ _ | refine blk_drew ?_ | refine blk_alloc ?_ _)); exact BK404.out) NB404_0.out (by simp)); have n2_ := am (KeepBut.trans u9_2 hk (.inl rfl)); have n3_ := am (hb); have n4_ := am (hi); clear BK387 BK404 HK HB HI0; have BK387 := n0_; have BK404 := n1_; have HK := n2_; have HB := n3_; have HI0 := n4_; clear n0_ n1_ n2_ n3_ n4_; (try clear hb); (try clear hb2); (try clear hk); (try clear hi)))
 (try simp only [Act.put, List.setIfInBounds_toArray, List.set_cons_zero, List.set_cons_succ])
 go_cut [] (fun wc => ∃ (kq : Nat) (x1001_5 : Int) (x1002_5 : Int) (x405000_5 : ByteArray) (x405001_5 : Int) (x405002_5 : ByteArray) (x405003_5 : Int) (x405004_5 : Int) (x405005_5 : Int) (x405006_5 : Int) (x405007_5 : Int), Aside0 (spec_l6Any.j2 kq s0_0 x1001_5 x1002_5 x405000_5 x405001_5 x405002_5 x405003_5 x405004_5 x405005_5 x405006_5 x405007_5 = some (r1, r2, r3, r4, r5, r6, r7, r8, r9, r10)) ∧ Aside0 (kq ≤ k) ∧ Aside0 (wc.heap[gb387]? = some (.cells #[.string (⟨#[]⟩ : ByteArray), .int .i64 0, .string (⟨#[]⟩ : ByteArray), .int .i64 0, .int .i64 0, .int .i64 0, .int .i64 0, .int .i64 0] 87 (0, 0))) ∧ Aside0 (wc.heap[gb404]? = some (.cells #[.string x405000_5, .int .i64 x405001_5, .string x405002_5, .int .i64 x405003_5, .int .i64 x405004_5, .int .i64 x405005_5, .int .i64 x405006_5, .int .i64 x405007_5] 87 (0, 0))) ∧ Aside0 (IsS133 w0 wc g s0_0 x1001_5 x1002_5) ∧ Aside0 (KeepBut w wc g none) ∧ Aside0 (Below w0.heap.size w0 wc))
 case first =>
  have H := HC6.out
  clear HC6
  have HC16 := am H
  clear H
  go_upto_if 12 with (fail)
  go_cut [12] (fun v12 wc => ∃ (kq : Nat) (x12_15 : Bool), v12 = .bool x12_15 ∧ Aside0 (spec_l6Any.j0 kq t405 x12_15 s0_0 t406 t407 t394 t395 t396 t397 t398 t399 t400 t401 = some (r1, r2, r3, r4, r5, r6, r7, r8, r9, r10)) ∧ Aside0 (kq ≤ k) ∧ Aside0 (wc.heap[gb387]? = some (.cells #[.string (⟨#[]⟩ : ByteArray), .int .i64 0, .string (⟨#[]⟩ : ByteArray), .int .i64 0, .int .i64 0, .int .i64 0, .int .i64 0, .int .i64 0] 87 (0, 0))) ∧ Aside0 (wc.heap[gb404]? = some (.cells #[.string t394, .int .i64 t395, .string t396, .int .i64 t397, .int .i64 t398, .int .i64 t399, .int .i64 t400, .int .i64 t401] 87 (0, 0))) ∧ Aside0 (IsS133 w0 wc g s0_0 t406 t407) ∧ Aside0 (KeepBut w wc g none) ∧ Aside0 (Below w0.heap.size w0 wc))
  case first =>
   have H := HC16.out
   clear HC16
   by_cases c17 : t405 = 0
   ·rw [if_pos c17] at H
    have c17b0 : (t405 == 0) = true := beq_iff_eq.mpr c17
    have c17b1 : (t405 != 0) = false := bne_eq_false_iff_eq.mpr c17
    clear c17
    (first | rw [c17b0] | (simp only [i64_w, i32_w]; rw [c17b0]) | skip)
    have H' := am H
    clear H
    go_wp2
    go_meet
    case rel => exact ⟨_, ((t405 == 0)), u9_9, H', ⟨by first | omega | exact Nat.le_refl _⟩, ⟨by (with_reducible repeat (first | refine blk_drewN ?_ _ | refine blk_drew ?_ | refine blk_alloc ?_ _)); exact BK387.out⟩, ⟨by (with_reducible repeat (first | refine blk_drewN ?_ _ | refine blk_drew ?_ | refine blk_alloc ?_ _)); exact BK404.out⟩, ⟨s9_0⟩, ⟨s9_2⟩, ⟨s9_1⟩⟩
   ·rw [if_neg c17] at H
    have c17b0 : (t405 == 0) = false := beq_eq_false_iff_ne.mpr c17
    have c17b1 : (t405 != 0) = true := bne_iff_ne.mpr c17
    (first | rw [c17b0] | (simp only [i64_w, i32_w]; rw [c17b0]) | skip)
    have H' := am H
    clear H
    go_wp2
    go_meet
    case rel => exact ⟨_, ((t405 == 1)), u9_9, H', ⟨by first | omega | exact Nat.le_refl _⟩, ⟨by (with_reducible repeat (first | refine blk_drewN ?_ _ | refine blk_drew ?_ | refine blk_alloc ?_ _)); exact BK387.out⟩, ⟨by (with_reducible repeat (first | refine blk_drewN ?_ _ | refine blk_drew ?_ | refine blk_alloc ?_ _)); exact BK404.out⟩, ⟨s9_0⟩, ⟨s9_2⟩, ⟨s9_1⟩⟩
  case rest =>
   clear HC16
   try clear c1
   try clear p2
   try clear c11
   try clear c12
   try clear c13
   try clear c15
   try clear c17
   try clear c17b0
   try clear c17b1
   try clear hcz14_0
   try clear hcz14_1
   try clear hcz14_2
   try clear hcz14_3
   try clear hcz14_4
   try clear hcz14_5
   try clear hcz14_6
   try clear hcz14_7
   try clear hfz14_0
   try clear hfz14_1
   try clear hfz14_2
   try clear hfz14_3
   try clear hfz14_4
   try clear hfz14_5
   try clear hfz14_6
   try clear hfz14_7
   obtain ⟨kq, x12_15, rfl, HA, HJ15, BK387, BK404, HI0, HK, HB⟩ := hcut
   cases kq with
   | zero => exact absurd HA.out (by simp [spec_l6Any.j0])
   | succ kj15 =>
    have H := HA.out
    clear HA
    simp only [spec_l6Any.j0] at H
    by_cases c18 : x12_15 = true
    ·subst c18
     have H1 : ((spec_l6Name.f s0_0 t406 t407).bind fun bt408 => ((spec_l1Below.f s0_0 bt408.2.1 bt408.2.2 600).bind fun bt411 => (spec_l6Any.j2 kj15 s0_0 bt411.2.1 bt411.2.2 bt408.1 1 (⟨#[]⟩ : ByteArray) 0 0 0 0 bt411.1))) = some (r1, r2, r3, r4, r5, r6, r7, r8, r9, r10) := by rw [if_pos rfl] at H; exact H
     clear H
     have H := H1
     clear H1
     replace H := Option.bind_eq_some_iff.mp H
     obtain ⟨⟨t408, t409, t410⟩, A190, H⟩ := H
     replace H : ((spec_l1Below.f s0_0 t409 t410 600).bind fun bt411 => (spec_l6Any.j2 kj15 s0_0 bt411.2.1 bt411.2.2 t408 1 (⟨#[]⟩ : ByteArray) 0 0 0 0 bt411.1)) = some (r1, r2, r3, r4, r5, r6, r7, r8, r9, r10) := H
     have A19 := am A190
     clear A190
     replace H := Option.bind_eq_some_iff.mp H
     obtain ⟨⟨t411, t412, t413⟩, A200, H⟩ := H
     replace H : (spec_l6Any.j2 kj15 s0_0 t412 t413 t408 1 (⟨#[]⟩ : ByteArray) 0 0 0 0 t411) = some (r1, r2, r3, r4, r5, r6, r7, r8, r9, r10) := H
     have A20 := am A200
     clear A200
     have H' := am H
     clear H
     go_wp2_with (first | ((with_reducible refine gate_callee (f := 159) rfl ?_); refine goesL_ (some 16) rfl rfl Try.func159 (by kernel_rfl) rfl #[.pointer (some ⟨g, 0, none⟩)] rfl u9_0 ?_; (with_reducible refine (spec_l6Name.calls g s0_0 t406 t407 t408 t409 t410 w0 _ ?side1 ?side2 A19.out).mono ?_); (case side1 => exact s9_0); (case side2 => exact s9_1); rintro e w21 ⟨rfl, hi, hb, hk⟩; refine ⟨_, rfl, ?_⟩; have n0_ := am (KeepBut.blk hk (g' := gb387) (o := zo0 (⟨#[]⟩ : ByteArray) 0 (⟨#[]⟩ : ByteArray) 0 0 0 0 0) u9_3 NB387_0.out (by simp)); have n1_ := am (KeepBut.blk hk (g' := gb404) (o := zo0 t394 t395 t396 t397 t398 t399 t400 t401) u9_4 NB404_0.out (by simp)); have n2_ := am (KeepBut.trans u9_2 hk (.inl rfl)); have n3_ := am (hb); have n4_ := am (hi); clear BK387 BK404 HK HB HI0; have BK387 := n0_; have BK404 := n1_; have HK := n2_; have HB := n3_; have HI0 := n4_; clear n0_ n1_ n2_ n3_ n4_; (try clear hb); (try clear hb2); (try clear hk); (try clear hi)) | ((with_reducible refine gate_callee (f := 110) rfl ?_); refine goesL_ (some 18) rfl rfl Try.func110 (by kernel_rfl) rfl #[.pointer (some ⟨g, 0, none⟩), .int .i64 600] rfl u9_0 ?_; (with_reducible refine (spec_l1Below.calls g s0_0 t409 t410 600 t411 t412 t413 w0 _ ?side1 ?side2 A20.out).mono ?_); (case side1 => exact s9_0); (case side2 => exact s9_1); rintro e w22 ⟨rfl, hi, hb, hk⟩; refine ⟨_, rfl, ?_⟩; have n0_ := am (KeepBut.blk hk (g' := gb387) (o := zo0 (⟨#[]⟩ : ByteArray) 0 (⟨#[]⟩ : ByteArray) 0 0 0 0 0) u9_3 NB387_0.out (by simp)); have n1_ := am (KeepBut.blk hk (g' := gb404) (o := zo0 t394 t395 t396 t397 t398 t399 t400 t401) u9_4 NB404_0.out (by simp)); have n2_ := am (KeepBut.trans u9_2 hk (.inl rfl)); have n3_ := am (hb); have n4_ := am (hi); clear BK387 BK404 HK HB HI0; have BK387 := n0_; have BK404 := n1_; have HK := n2_; have HB := n3_; have HI0 := n4_; clear n0_ n1_ n2_ n3_ n4_; (try clear hb); (try clear hb2); (try clear hk); (try clear hi); have hnb23 := NB404_387.out; have hnc23 := NB387_404.out; have hnb24 := NB404_0.out; have hnc24 := NB0_404.out; obtain ⟨hcz25_0, hcz25_1, hcz25_2, hcz25_3, hcz25_4, hcz25_5, hcz25_6, hcz25_7, hfz25_0, hfz25_1, hfz25_2, hfz25_3, hfz25_4, hfz25_5, hfz25_6, hfz25_7⟩ := cf8 BK404.out))
     go_meet
     case rel => exact ⟨_, (t412), (t413), (t408), (1), ((⟨#[]⟩ : ByteArray)), (0), (0), (0), (0), (t411), H', ⟨by have := HJ15.out; first | omega | exact Nat.le_refl _⟩, ⟨by (with_reducible repeat (first | refine blk_drewN ?_ _ | refine blk_drew ?_ | refine blk_alloc ?_ _)); refine blk_far ?_ NB387_404.out _; (with_reducible repeat (first | refine blk_drewN ?_ _ | refine blk_drew ?_ | refine blk_alloc ?_ _)); refine blk_far ?_ NB387_404.out _; (with_reducible repeat (first | refine blk_drewN ?_ _ | refine blk_drew ?_ | refine blk_alloc ?_ _)); refine blk_far ?_ NB387_404.out _; (with_reducible repeat (first | refine blk_drewN ?_ _ | refine blk_drew ?_ | refine blk_alloc ?_ _)); refine blk_far ?_ NB387_404.out _; (with_reducible repeat (first | refine blk_drewN ?_ _ | refine blk_drew ?_ | refine blk_alloc ?_ _)); refine blk_far ?_ NB387_404.out _; (with_reducible repeat (first | refine blk_drewN ?_ _ | refine blk_drew ?_ | refine blk_alloc ?_ _)); refine blk_far ?_ NB387_404.out _; (with_reducible repeat (first | refine blk_drewN ?_ _ | refine blk_drew ?_ | refine blk_alloc ?_ _)); refine blk_far ?_ NB387_404.out _; (with_reducible repeat (first | refine blk_drewN ?_ _ | refine blk_drew ?_ | refine blk_alloc ?_ _)); refine blk_far ?_ NB387_404.out _; (with_reducible repeat (first | refine blk_drewN ?_ _ | refine blk_drew ?_ | refine blk_alloc ?_ _)); exact BK387.out⟩, ⟨by (with_reducible repeat (first | refine blk_drewN ?_ _ | refine blk_drew ?_ | refine blk_alloc ?_ _)); refine blk_put (cs := zr5 t408 1 (⟨#[]⟩ : ByteArray) 0 0 0 0 t401) ?_ 7 _ rfl; (with_reducible repeat (first | refine blk_drewN ?_ _ | refine blk_drew ?_ | refine blk_alloc ?_ _)); refine blk_put (cs := zr5 t408 1 (⟨#[]⟩ : ByteArray) 0 0 0 t400 t401) ?_ 6 _ rfl; (with_reducible repeat (first | refine blk_drewN ?_ _ | refine blk_drew ?_ | refine blk_alloc ?_ _)); refine blk_put (cs := zr5 t408 1 (⟨#[]⟩ : ByteArray) 0 0 t399 t400 t401) ?_ 5 _ rfl; (with_reducible repeat (first | refine blk_drewN ?_ _ | refine blk_drew ?_ | refine blk_alloc ?_ _)); refine blk_put (cs := zr5 t408 1 (⟨#[]⟩ : ByteArray) 0 t398 t399 t400 t401) ?_ 4 _ rfl; (with_reducible repeat (first | refine blk_drewN ?_ _ | refine blk_drew ?_ | refine blk_alloc ?_ _)); refine blk_put (cs := zr5 t408 1 (⟨#[]⟩ : ByteArray) t397 t398 t399 t400 t401) ?_ 3 _ rfl; (with_reducible repeat (first | refine blk_drewN ?_ _ | refine blk_drew ?_ | refine blk_alloc ?_ _)); refine blk_put (cs := zr5 t408 1 t396 t397 t398 t399 t400 t401) ?_ 2 _ rfl; refine blk_put (cs := zr5 t408 t395 t396 t397 t398 t399 t400 t401) ?_ 1 _ rfl; refine blk_put (cs := zr5 t394 t395 t396 t397 t398 t399 t400 t401) ?_ 0 _ rfl; (with_reducible repeat (first | refine blk_drewN ?_ _ | refine blk_drew ?_ | refine blk_alloc ?_ _)); exact BK404.out⟩, ⟨s9_0⟩, ⟨s9_2⟩, ⟨s9_1⟩⟩
    ·replace c18 := Bool.eq_false_iff.mpr c18
     subst c18
     have H1 : (if t405 = 2 then (spec_l6Any.j1 kj15 t405 (t405 == 2) s0_0 t406 t407 t394 t395 t396 t397 t398 t399 t400 t401) else (spec_l6Any.j1 kj15 t405 (t405 == 3) s0_0 t406 t407 t394 t395 t396 t397 t398 t399 t400 t401)) = some (r1, r2, r3, r4, r5, r6, r7, r8, r9, r10) := by rw [if_neg (show ¬ (false = true) by decide)] at H; exact H
     clear H
     have H := H1
     clear H1
     have HC26 := am H
     clear H
     go_upto_if 20 with (fail)
     go_cut [20] (fun v20 wc => ∃ (kq : Nat) (x20_25 : Bool), v20 = .bool x20_25 ∧ Aside0 (spec_l6Any.j1 kq t405 x20_25 s0_0 t406 t407 t394 t395 t396 t397 t398 t399 t400 t401 = some (r1, r2, r3, r4, r5, r6, r7, r8, r9, r10)) ∧ Aside0 (kq ≤ kj15) ∧ Aside0 (wc.heap[gb387]? = some (.cells #[.string (⟨#[]⟩ : ByteArray), .int .i64 0, .string (⟨#[]⟩ : ByteArray), .int .i64 0, .int .i64 0, .int .i64 0, .int .i64 0, .int .i64 0] 87 (0, 0))) ∧ Aside0 (wc.heap[gb404]? = some (.cells #[.string t394, .int .i64 t395, .string t396, .int .i64 t397, .int .i64 t398, .int .i64 t399, .int .i64 t400, .int .i64 t401] 87 (0, 0))) ∧ Aside0 (IsS133 w0 wc g s0_0 t406 t407) ∧ Aside0 (KeepBut w wc g none) ∧ Aside0 (Below w0.heap.size w0 wc))
     case first =>
      have H := HC26.out
      clear HC26
      by_cases c27 : t405 = 2
      ·rw [if_pos c27] at H
       have c27b0 : (t405 == 2) = true := beq_iff_eq.mpr c27
       have c27b1 : (t405 != 2) = false := bne_eq_false_iff_eq.mpr c27
       clear c27
       (first | rw [c27b0] | (simp only [i64_w, i32_w]; rw [c27b0]) | skip)
       have H' := am H
       clear H
       go_wp2
       go_meet
       case rel => exact ⟨_, ((t405 == 2)), u9_9, H', ⟨by have := HJ15.out; first | omega | exact Nat.le_refl _⟩, ⟨by (with_reducible repeat (first | refine blk_drewN ?_ _ | refine blk_drew ?_ | refine blk_alloc ?_ _)); exact BK387.out⟩, ⟨by (with_reducible repeat (first | refine blk_drewN ?_ _ | refine blk_drew ?_ | refine blk_alloc ?_ _)); exact BK404.out⟩, ⟨s9_0⟩, ⟨s9_2⟩, ⟨s9_1⟩⟩
      ·rw [if_neg c27] at H
       have c27b0 : (t405 == 2) = false := beq_eq_false_iff_ne.mpr c27
       have c27b1 : (t405 != 2) = true := bne_iff_ne.mpr c27
       (first | rw [c27b0] | (simp only [i64_w, i32_w]; rw [c27b0]) | skip)
       have H' := am H
       clear H
       go_wp2
       go_meet
       case rel => exact ⟨_, ((t405 == 3)), u9_9, H', ⟨by have := HJ15.out; first | omega | exact Nat.le_refl _⟩, ⟨by (with_reducible repeat (first | refine blk_drewN ?_ _ | refine blk_drew ?_ | refine blk_alloc ?_ _)); exact BK387.out⟩, ⟨by (with_reducible repeat (first | refine blk_drewN ?_ _ | refine blk_drew ?_ | refine blk_alloc ?_ _)); exact BK404.out⟩, ⟨s9_0⟩, ⟨s9_2⟩, ⟨s9_1⟩⟩
     case rest =>
      clear HC26
      try clear c1
      try clear c2
      try clear p2
      try clear c11
      try clear c12
      try clear c13
      try clear c15
      try clear c17
      try clear c17b0
      try clear c17b1
      try clear c18
      try clear c23
      try clear c24
      try clear c27
      try clear c27b0
      try clear c27b1
      try clear hcz14_0
      try clear hcz14_1
      try clear hcz14_2
      try clear hcz14_3
      try clear hcz14_4
      try clear hcz14_5
      try clear hcz14_6
      try clear hcz14_7
      try clear hcz25_0
      try clear hcz25_1
      try clear hcz25_2
      try clear hcz25_3
      try clear hcz25_4
      try clear hcz25_5
      try clear hcz25_6
      try clear hcz25_7
      try clear hfz14_0
      try clear hfz14_1
      try clear hfz14_2
      try clear hfz14_3
      try clear hfz14_4
      try clear hfz14_5
      try clear hfz14_6
      try clear hfz14_7
      try clear hfz25_0
      try clear hfz25_1
      try clear hfz25_2
      try clear hfz25_3
      try clear hfz25_4
      try clear hfz25_5
      try clear hfz25_6
      try clear hfz25_7
      try clear p2
      obtain ⟨kq, x20_25, rfl, HA, HJ25, BK387, BK404, HI0, HK, HB⟩ := hcut
      cases kq with
      | zero => exact absurd HA.out (by simp [spec_l6Any.j1])
      | succ kj25 =>
       have H := HA.out
       clear HA
       simp only [spec_l6Any.j1] at H
       by_cases c28 : x20_25 = true
       ·subst c28
        have H1 : ((spec_l6Name.f s0_0 t406 t407).bind fun bt414 => ((spec_l6Name.f s0_0 bt414.2.1 bt414.2.2).bind fun bt417 => ((spec_l2Any.f kj25 s0_0 bt417.2.1 bt417.2.2).bind fun bt420 => (spec_l6Any.j2 kj25 s0_0 bt420.2.2.1 bt420.2.2.2 bt414.1 3 bt417.1 bt420.1 bt420.2.1 0 0 0)))) = some (r1, r2, r3, r4, r5, r6, r7, r8, r9, r10) := by rw [if_pos rfl] at H; exact H
        clear H
        have H := H1
        clear H1
        replace H := Option.bind_eq_some_iff.mp H
        obtain ⟨⟨t414, t415, t416⟩, A290, H⟩ := H
        replace H : ((spec_l6Name.f s0_0 t415 t416).bind fun bt417 => ((spec_l2Any.f kj25 s0_0 bt417.2.1 bt417.2.2).bind fun bt420 => (spec_l6Any.j2 kj25 s0_0 bt420.2.2.1 bt420.2.2.2 t414 3 bt417.1 bt420.1 bt420.2.1 0 0 0))) = some (r1, r2, r3, r4, r5, r6, r7, r8, r9, r10) := H
        have A29 := am A290
        clear A290
        replace H := Option.bind_eq_some_iff.mp H
        obtain ⟨⟨t417, t418, t419⟩, A300, H⟩ := H
        replace H : ((spec_l2Any.f kj25 s0_0 t418 t419).bind fun bt420 => (spec_l6Any.j2 kj25 s0_0 bt420.2.2.1 bt420.2.2.2 t414 3 t417 bt420.1 bt420.2.1 0 0 0)) = some (r1, r2, r3, r4, r5, r6, r7, r8, r9, r10) := H
        have A30 := am A300
        clear A300
        replace H := Option.bind_eq_some_iff.mp H
        obtain ⟨⟨t420, t421, t422, t423⟩, A310, H⟩ := H
        replace H : (spec_l6Any.j2 kj25 s0_0 t422 t423 t414 3 t417 t420 t421 0 0 0) = some (r1, r2, r3, r4, r5, r6, r7, r8, r9, r10) := H
        have A31 := am A310
        clear A310
        have H' := am H
        clear H
        go_wp2_with (first | ((with_reducible refine gate_callee (f := 159) rfl ?_); refine goesL_ (some 24) rfl rfl Try.func159 (by kernel_rfl) rfl #[.pointer (some ⟨g, 0, none⟩)] rfl u9_0 ?_; (with_reducible refine (spec_l6Name.calls g s0_0 t406 t407 t414 t415 t416 w0 _ ?side1 ?side2 A29.out).mono ?_); (case side1 => exact s9_0); (case side2 => exact s9_1); rintro e w32 ⟨rfl, hi, hb, hk⟩; refine ⟨_, rfl, ?_⟩; have n0_ := am (KeepBut.blk hk (g' := gb387) (o := zo0 (⟨#[]⟩ : ByteArray) 0 (⟨#[]⟩ : ByteArray) 0 0 0 0 0) u9_3 NB387_0.out (by simp)); have n1_ := am (KeepBut.blk hk (g' := gb404) (o := zo0 t394 t395 t396 t397 t398 t399 t400 t401) u9_4 NB404_0.out (by simp)); have n2_ := am (KeepBut.trans u9_2 hk (.inl rfl)); have n3_ := am (hb); have n4_ := am (hi); clear BK387 BK404 HK HB HI0; have BK387 := n0_; have BK404 := n1_; have HK := n2_; have HB := n3_; have HI0 := n4_; clear n0_ n1_ n2_ n3_ n4_; (try clear hb); (try clear hb2); (try clear hk); (try clear hi)) | ((with_reducible refine gate_callee (f := 159) rfl ?_); refine goesL_ (some 26) rfl rfl Try.func159 (by kernel_rfl) rfl #[.pointer (some ⟨g, 0, none⟩)] rfl u9_0 ?_; (with_reducible refine (spec_l6Name.calls g s0_0 t415 t416 t417 t418 t419 w0 _ ?side1 ?side2 A30.out).mono ?_); (case side1 => exact s9_0); (case side2 => exact s9_1); rintro e w33 ⟨rfl, hi, hb, hk⟩; refine ⟨_, rfl, ?_⟩; have n0_ := am (KeepBut.blk hk (g' := gb387) (o := zo0 (⟨#[]⟩ : ByteArray) 0 (⟨#[]⟩ : ByteArray) 0 0 0 0 0) u9_3 NB387_0.out (by simp)); have n1_ := am (KeepBut.blk hk (g' := gb404) (o := zo0 t394 t395 t396 t397 t398 t399 t400 t401) u9_4 NB404_0.out (by simp)); have n2_ := am (KeepBut.trans u9_2 hk (.inl rfl)); have n3_ := am (hb); have n4_ := am (hi); clear BK387 BK404 HK HB HI0; have BK387 := n0_; have BK404 := n1_; have HK := n2_; have HB := n3_; have HI0 := n4_; clear n0_ n1_ n2_ n3_ n4_; (try clear hb); (try clear hb2); (try clear hk); (try clear hi)) | ((with_reducible refine gate_callee (f := 160) rfl ?_); refine goesL_ (some 28) rfl rfl Try.func160 (by kernel_rfl) rfl #[.pointer (some ⟨g, 0, none⟩)] rfl u9_0 ?_; (with_reducible refine (spec_l2Any.calls kj25 g s0_0 t418 t419 t420 t421 t422 t423 w0 _ ?side1 ?side2 A31.out).mono ?_); (case side1 => exact s9_0); (case side2 => exact s9_1); rintro e w34 ⟨rfl, hi, hb, hk⟩; refine ⟨_, rfl, ?_⟩; have n0_ := am (KeepBut.blk hk (g' := gb387) (o := zo0 (⟨#[]⟩ : ByteArray) 0 (⟨#[]⟩ : ByteArray) 0 0 0 0 0) u9_3 NB387_0.out (by simp)); have n1_ := am (KeepBut.blk hk (g' := gb404) (o := zo0 t394 t395 t396 t397 t398 t399 t400 t401) u9_4 NB404_0.out (by simp)); have n2_ := am (KeepBut.trans u9_2 hk (.inl rfl)); have n3_ := am (hb); have n4_ := am (hi); clear BK387 BK404 HK HB HI0; have BK387 := n0_; have BK404 := n1_; have HK := n2_; have HB := n3_; have HI0 := n4_; clear n0_ n1_ n2_ n3_ n4_; (try clear hb); (try clear hb2); (try clear hk); (try clear hi); have hnb35 := NB404_387.out; have hnc35 := NB387_404.out; have hnb36 := NB404_0.out; have hnc36 := NB0_404.out; obtain ⟨hcz37_0, hcz37_1, hcz37_2, hcz37_3, hcz37_4, hcz37_5, hcz37_6, hcz37_7, hfz37_0, hfz37_1, hfz37_2, hfz37_3, hfz37_4, hfz37_5, hfz37_6, hfz37_7⟩ := cf8 BK404.out))
        go_meet
        case rel => exact ⟨_, (t422), (t423), (t414), (3), (t417), (t420), (t421), (0), (0), (0), H', ⟨by have := HJ15.out; have := HJ25.out; first | omega | exact Nat.le_refl _⟩, ⟨by (with_reducible repeat (first | refine blk_drewN ?_ _ | refine blk_drew ?_ | refine blk_alloc ?_ _)); refine blk_far ?_ NB387_404.out _; (with_reducible repeat (first | refine blk_drewN ?_ _ | refine blk_drew ?_ | refine blk_alloc ?_ _)); refine blk_far ?_ NB387_404.out _; (with_reducible repeat (first | refine blk_drewN ?_ _ | refine blk_drew ?_ | refine blk_alloc ?_ _)); refine blk_far ?_ NB387_404.out _; (with_reducible repeat (first | refine blk_drewN ?_ _ | refine blk_drew ?_ | refine blk_alloc ?_ _)); refine blk_far ?_ NB387_404.out _; (with_reducible repeat (first | refine blk_drewN ?_ _ | refine blk_drew ?_ | refine blk_alloc ?_ _)); refine blk_far ?_ NB387_404.out _; (with_reducible repeat (first | refine blk_drewN ?_ _ | refine blk_drew ?_ | refine blk_alloc ?_ _)); refine blk_far ?_ NB387_404.out _; (with_reducible repeat (first | refine blk_drewN ?_ _ | refine blk_drew ?_ | refine blk_alloc ?_ _)); refine blk_far ?_ NB387_404.out _; (with_reducible repeat (first | refine blk_drewN ?_ _ | refine blk_drew ?_ | refine blk_alloc ?_ _)); refine blk_far ?_ NB387_404.out _; (with_reducible repeat (first | refine blk_drewN ?_ _ | refine blk_drew ?_ | refine blk_alloc ?_ _)); exact BK387.out⟩, ⟨by (with_reducible repeat (first | refine blk_drewN ?_ _ | refine blk_drew ?_ | refine blk_alloc ?_ _)); refine blk_put (cs := zr5 t414 3 t417 t420 t421 0 0 t401) ?_ 7 _ rfl; refine blk_put (cs := zr5 t414 3 t417 t420 t421 0 t400 t401) ?_ 6 _ rfl; refine blk_put (cs := zr5 t414 3 t417 t420 t421 t399 t400 t401) ?_ 5 _ rfl; refine blk_put (cs := zr5 t414 3 t417 t420 t398 t399 t400 t401) ?_ 4 _ rfl; refine blk_put (cs := zr5 t414 3 t417 t397 t398 t399 t400 t401) ?_ 3 _ rfl; refine blk_put (cs := zr5 t414 3 t396 t397 t398 t399 t400 t401) ?_ 2 _ rfl; refine blk_put (cs := zr5 t414 t395 t396 t397 t398 t399 t400 t401) ?_ 1 _ rfl; refine blk_put (cs := zr5 t394 t395 t396 t397 t398 t399 t400 t401) ?_ 0 _ rfl; (with_reducible repeat (first | refine blk_drewN ?_ _ | refine blk_drew ?_ | refine blk_alloc ?_ _)); exact BK404.out⟩, ⟨s9_0⟩, ⟨s9_2⟩, ⟨s9_1⟩⟩
       ·replace c28 := Bool.eq_false_iff.mpr c28
        subst c28
        have H1 : (if t405 = 4 then ((spec_l1Odd.f s0_0 t406 t407).bind fun bt424 => (spec_l6Any.j2 kj25 s0_0 bt424.2.1 bt424.2.2 t394 t395 t396 t397 t398 t399 t400 bt424.1)) else (if t405 = 5 then ((spec_l1Odd.f s0_0 t406 t407).bind fun bt427 => (spec_l6Any.j2 kj25 s0_0 bt427.2.1 bt427.2.2 t394 bt427.1 t396 t397 t398 t399 t400 t401)) else (spec_l6Any.j2 kj25 s0_0 t406 t407 t394 t395 t396 t397 t398 t399 t400 t401))) = some (r1, r2, r3, r4, r5, r6, r7, r8, r9, r10) := by rw [if_neg (show ¬ (false = true) by decide)] at H; exact H
        clear H
        have H := H1
        clear H1
        by_cases c38 : t405 = 4
        ·rw [if_pos c38] at H
         have c38b0 : (t405 == 4) = true := beq_iff_eq.mpr c38
         have c38b1 : (t405 != 4) = false := bne_eq_false_iff_eq.mpr c38
         clear c38
         replace H := Option.bind_eq_some_iff.mp H
         obtain ⟨⟨t424, t425, t426⟩, A390, H⟩ := H
         replace H : (spec_l6Any.j2 kj25 s0_0 t425 t426 t394 t395 t396 t397 t398 t399 t400 t424) = some (r1, r2, r3, r4, r5, r6, r7, r8, r9, r10) := H
         have A39 := am A390
         clear A390
         have H' := am H
         clear H
         go_wp2_with (first | ((with_reducible refine gate_callee (f := 113) rfl ?_); refine goesL_ (some 33) rfl rfl Try.func113 (by kernel_rfl) rfl #[.pointer (some ⟨g, 0, none⟩)] rfl u9_0 ?_; (with_reducible refine (spec_l1Odd.calls g s0_0 t406 t407 t424 t425 t426 w0 _ ?side1 ?side2 A39.out).mono ?_); (case side1 => exact s9_0); (case side2 => exact s9_1); rintro e w40 ⟨rfl, hi, hb, hk⟩; refine ⟨_, rfl, ?_⟩; have n0_ := am (KeepBut.blk hk (g' := gb387) (o := zo0 (⟨#[]⟩ : ByteArray) 0 (⟨#[]⟩ : ByteArray) 0 0 0 0 0) u9_3 NB387_0.out (by simp)); have n1_ := am (KeepBut.blk hk (g' := gb404) (o := zo0 t394 t395 t396 t397 t398 t399 t400 t401) u9_4 NB404_0.out (by simp)); have n2_ := am (KeepBut.trans u9_2 hk (.inl rfl)); have n3_ := am (hb); have n4_ := am (hi); clear BK387 BK404 HK HB HI0; have BK387 := n0_; have BK404 := n1_; have HK := n2_; have HB := n3_; have HI0 := n4_; clear n0_ n1_ n2_ n3_ n4_; (try clear hb); (try clear hb2); (try clear hk); (try clear hi); have hnb41 := NB404_387.out; have hnc41 := NB387_404.out; have hnb42 := NB404_0.out; have hnc42 := NB0_404.out; obtain ⟨hcz43_0, hcz43_1, hcz43_2, hcz43_3, hcz43_4, hcz43_5, hcz43_6, hcz43_7, hfz43_0, hfz43_1, hfz43_2, hfz43_3, hfz43_4, hfz43_5, hfz43_6, hfz43_7⟩ := cf8 BK404.out))
         go_meet
         case rel => exact ⟨_, (t425), (t426), (t394), (t395), (t396), (t397), (t398), (t399), (t400), (t424), H', ⟨by have := HJ15.out; have := HJ25.out; first | omega | exact Nat.le_refl _⟩, ⟨by (with_reducible repeat (first | refine blk_drewN ?_ _ | refine blk_drew ?_ | refine blk_alloc ?_ _)); refine blk_far ?_ NB387_404.out _; (with_reducible repeat (first | refine blk_drewN ?_ _ | refine blk_drew ?_ | refine blk_alloc ?_ _)); exact BK387.out⟩, ⟨by (with_reducible repeat (first | refine blk_drewN ?_ _ | refine blk_drew ?_ | refine blk_alloc ?_ _)); refine blk_put (cs := zr5 t394 t395 t396 t397 t398 t399 t400 t401) ?_ 7 _ rfl; (with_reducible repeat (first | refine blk_drewN ?_ _ | refine blk_drew ?_ | refine blk_alloc ?_ _)); exact BK404.out⟩, ⟨s9_0⟩, ⟨s9_2⟩, ⟨s9_1⟩⟩
        ·rw [if_neg c38] at H
         have c38b0 : (t405 == 4) = false := beq_eq_false_iff_ne.mpr c38
         have c38b1 : (t405 != 4) = true := bne_iff_ne.mpr c38
         by_cases c44 : t405 = 5
         ·rw [if_pos c44] at H
          have c44b0 : (t405 == 5) = true := beq_iff_eq.mpr c44
          have c44b1 : (t405 != 5) = false := bne_eq_false_iff_eq.mpr c44
          clear c44
          replace H := Option.bind_eq_some_iff.mp H
          obtain ⟨⟨t427, t428, t429⟩, A450, H⟩ := H
          replace H : (spec_l6Any.j2 kj25 s0_0 t428 t429 t394 t427 t396 t397 t398 t399 t400 t401) = some (r1, r2, r3, r4, r5, r6, r7, r8, r9, r10) := H
          have A45 := am A450
          clear A450
          have H' := am H
          clear H
          go_wp2_with (first | ((with_reducible refine gate_callee (f := 113) rfl ?_); refine goesL_ (some 38) rfl rfl Try.func113 (by kernel_rfl) rfl #[.pointer (some ⟨g, 0, none⟩)] rfl u9_0 ?_; (with_reducible refine (spec_l1Odd.calls g s0_0 t406 t407 t427 t428 t429 w0 _ ?side1 ?side2 A45.out).mono ?_); (case side1 => exact s9_0); (case side2 => exact s9_1); rintro e w46 ⟨rfl, hi, hb, hk⟩; refine ⟨_, rfl, ?_⟩; have n0_ := am (KeepBut.blk hk (g' := gb387) (o := zo0 (⟨#[]⟩ : ByteArray) 0 (⟨#[]⟩ : ByteArray) 0 0 0 0 0) u9_3 NB387_0.out (by simp)); have n1_ := am (KeepBut.blk hk (g' := gb404) (o := zo0 t394 t395 t396 t397 t398 t399 t400 t401) u9_4 NB404_0.out (by simp)); have n2_ := am (KeepBut.trans u9_2 hk (.inl rfl)); have n3_ := am (hb); have n4_ := am (hi); clear BK387 BK404 HK HB HI0; have BK387 := n0_; have BK404 := n1_; have HK := n2_; have HB := n3_; have HI0 := n4_; clear n0_ n1_ n2_ n3_ n4_; (try clear hb); (try clear hb2); (try clear hk); (try clear hi); have hnb47 := NB404_387.out; have hnc47 := NB387_404.out; have hnb48 := NB404_0.out; have hnc48 := NB0_404.out; obtain ⟨hcz49_0, hcz49_1, hcz49_2, hcz49_3, hcz49_4, hcz49_5, hcz49_6, hcz49_7, hfz49_0, hfz49_1, hfz49_2, hfz49_3, hfz49_4, hfz49_5, hfz49_6, hfz49_7⟩ := cf8 BK404.out))
          go_meet
          case rel => exact ⟨_, (t428), (t429), (t394), (t427), (t396), (t397), (t398), (t399), (t400), (t401), H', ⟨by have := HJ15.out; have := HJ25.out; first | omega | exact Nat.le_refl _⟩, ⟨by (with_reducible repeat (first | refine blk_drewN ?_ _ | refine blk_drew ?_ | refine blk_alloc ?_ _)); refine blk_far ?_ NB387_404.out _; (with_reducible repeat (first | refine blk_drewN ?_ _ | refine blk_drew ?_ | refine blk_alloc ?_ _)); exact BK387.out⟩, ⟨by (with_reducible repeat (first | refine blk_drewN ?_ _ | refine blk_drew ?_ | refine blk_alloc ?_ _)); refine blk_put (cs := zr5 t394 t395 t396 t397 t398 t399 t400 t401) ?_ 1 _ rfl; (with_reducible repeat (first | refine blk_drewN ?_ _ | refine blk_drew ?_ | refine blk_alloc ?_ _)); exact BK404.out⟩, ⟨s9_0⟩, ⟨s9_2⟩, ⟨s9_1⟩⟩
         ·rw [if_neg c44] at H
          have c44b0 : (t405 == 5) = false := beq_eq_false_iff_ne.mpr c44
          have c44b1 : (t405 != 5) = true := bne_iff_ne.mpr c44
          have H' := am H
          clear H
          go_wp2
          go_meet
          case rel => exact ⟨_, (t406), (t407), (t394), (t395), (t396), (t397), (t398), (t399), (t400), (t401), H', ⟨by have := HJ15.out; have := HJ25.out; first | omega | exact Nat.le_refl _⟩, ⟨by (with_reducible repeat (first | refine blk_drewN ?_ _ | refine blk_drew ?_ | refine blk_alloc ?_ _)); exact BK387.out⟩, ⟨by (with_reducible repeat (first | refine blk_drewN ?_ _ | refine blk_drew ?_ | refine blk_alloc ?_ _)); exact BK404.out⟩, ⟨s9_0⟩, ⟨s9_2⟩, ⟨s9_1⟩⟩
 case rest =>
  clear HC6
  try clear c1
  try clear c2
  try clear p2
  try clear c3
  try clear c4
  try clear c11
  try clear c12
  try clear c13
  try clear c15
  try clear c16
  try clear c17
  try clear c17b0
  try clear c17b1
  try clear c18
  try clear c23
  try clear c24
  try clear c27
  try clear c27b0
  try clear c27b1
  try clear c28
  try clear c35
  try clear c36
  try clear c38
  try clear c38b0
  try clear c38b1
  try clear c41
  try clear c42
  try clear c44
  try clear c44b0
  try clear c44b1
  try clear c47
  try clear c48
  try clear hcz14_0
  try clear hcz14_1
  try clear hcz14_2
  try clear hcz14_3
  try clear hcz14_4
  try clear hcz14_5
  try clear hcz14_6
  try clear hcz14_7
  try clear hcz25_0
  try clear hcz25_1
  try clear hcz25_2
  try clear hcz25_3
  try clear hcz25_4
  try clear hcz25_5
  try clear hcz25_6
  try clear hcz25_7
  try clear hcz37_0
  try clear hcz37_1
  try clear hcz37_2
  try clear hcz37_3
  try clear hcz37_4
  try clear hcz37_5
  try clear hcz37_6
  try clear hcz37_7
  try clear hcz43_0
  try clear hcz43_1
  try clear hcz43_2
  try clear hcz43_3
  try clear hcz43_4
  try clear hcz43_5
  try clear hcz43_6
  try clear hcz43_7
  try clear hcz49_0
  try clear hcz49_1
  try clear hcz49_2
  try clear hcz49_3
  try clear hcz49_4
  try clear hcz49_5
  try clear hcz49_6
  try clear hcz49_7
  try clear hfz14_0
  try clear hfz14_1
  try clear hfz14_2
  try clear hfz14_3
  try clear hfz14_4
  try clear hfz14_5
  try clear hfz14_6
  try clear hfz14_7
  try clear hfz25_0
  try clear hfz25_1
  try clear hfz25_2
  try clear hfz25_3
  try clear hfz25_4
  try clear hfz25_5
  try clear hfz25_6
  try clear hfz25_7
  try clear hfz37_0
  try clear hfz37_1
  try clear hfz37_2
  try clear hfz37_3
  try clear hfz37_4
  try clear hfz37_5
  try clear hfz37_6
  try clear hfz37_7
  try clear hfz43_0
  try clear hfz43_1
  try clear hfz43_2
  try clear hfz43_3
  try clear hfz43_4
  try clear hfz43_5
  try clear hfz43_6
  try clear hfz43_7
  try clear hfz49_0
  try clear hfz49_1
  try clear hfz49_2
  try clear hfz49_3
  try clear hfz49_4
  try clear hfz49_5
  try clear hfz49_6
  try clear hfz49_7
  try clear p2
  obtain ⟨kq, x1001_5, x1002_5, x405000_5, x405001_5, x405002_5, x405003_5, x405004_5, x405005_5, x405006_5, x405007_5, HA, HJ5, BK387, BK404, HI0, HK, HB⟩ := hcut
  cases kq with
  | zero => exact absurd HA.out (by simp [spec_l6Any.j2])
  | succ kj5 =>
   have H := HA.out
   clear HA
   simp only [spec_l6Any.j2] at H
   replace H := Option.bind_eq_some_iff.mp H
   obtain ⟨⟨t430, t431, t432⟩, A500, H⟩ := H
   replace H : (if t430 = 0 then ((spec_l1Word.f s0_0 t431 t432).bind fun bt433 => (some (bt433.1, x405001_5, x405002_5, x405003_5, x405004_5, x405005_5, x405006_5, x405007_5, bt433.2.1, bt433.2.2))) else (if t430 = 1 then ((spec_l1Odd.f s0_0 t431 t432).bind fun bt436 => (some (x405000_5, x405001_5, x405002_5, x405003_5, x405004_5, x405005_5, bt436.1, x405007_5, bt436.2.1, bt436.2.2))) else (if t430 = 2 then ((spec_l3Any.f kj5 s0_0 t431 t432).bind fun bt439 => (some (x405000_5, x405001_5, x405002_5, bt439.1, bt439.2.1, x405005_5, x405006_5, x405007_5, bt439.2.2.2.2.2.1, bt439.2.2.2.2.2.2))) else (some (x405000_5, x405001_5, x405002_5, x405003_5, x405004_5, x405005_5, x405006_5, x405007_5, t431, t432))))) = some (r1, r2, r3, r4, r5, r6, r7, r8, r9, r10) := H
   have A50 := am A500
   clear A500
   by_cases c51 : t430 = 0
   ·rw [if_pos c51] at H
    have c51b0 : (t430 == 0) = true := beq_iff_eq.mpr c51
    have c51b1 : (t430 != 0) = false := bne_eq_false_iff_eq.mpr c51
    clear c51
    replace H := Option.bind_eq_some_iff.mp H
    obtain ⟨⟨t433, t434, t435⟩, A520, H⟩ := H
    replace H : (some (t433, x405001_5, x405002_5, x405003_5, x405004_5, x405005_5, x405006_5, x405007_5, t434, t435)) = some (r1, r2, r3, r4, r5, r6, r7, r8, r9, r10) := H
    have A52 := am A520
    clear A520
    simp only [Option.some.injEq, Prod.mk.injEq] at H
    obtain ⟨rfl, rfl, rfl, rfl, rfl, rfl, rfl, rfl, rfl, rfl⟩ := H
    go_wp2_with (first | ((with_reducible refine gate_callee (f := 110) rfl ?_); refine goesL_ (some 41) rfl rfl Try.func110 (by kernel_rfl) rfl #[.pointer (some ⟨g, 0, none⟩), .int .i64 12] rfl u9_0 ?_; (with_reducible refine (spec_l1Below.calls g s0_0 x1001_5 x1002_5 12 t430 t431 t432 w0 _ ?side1 ?side2 A50.out).mono ?_); (case side1 => exact s9_0); (case side2 => exact s9_1); rintro e w53 ⟨rfl, hi, hb, hk⟩; refine ⟨_, rfl, ?_⟩; have n0_ := am (KeepBut.blk hk (g' := gb387) (o := zo0 (⟨#[]⟩ : ByteArray) 0 (⟨#[]⟩ : ByteArray) 0 0 0 0 0) u9_3 NB387_0.out (by simp)); have n1_ := am (KeepBut.blk hk (g' := gb404) (o := zo0 x405000_5 x405001_5 x405002_5 x405003_5 x405004_5 x405005_5 x405006_5 x405007_5) u9_4 NB404_0.out (by simp)); have n2_ := am (KeepBut.trans u9_2 hk (.inl rfl)); have n3_ := am (hb); have n4_ := am (hi); clear BK387 BK404 HK HB HI0; have BK387 := n0_; have BK404 := n1_; have HK := n2_; have HB := n3_; have HI0 := n4_; clear n0_ n1_ n2_ n3_ n4_; (try clear hb); (try clear hb2); (try clear hk); (try clear hi)) | ((with_reducible refine gate_callee (f := 114) rfl ?_); refine goesL_ (some 45) rfl rfl Try.func114 (by kernel_rfl) rfl #[.pointer (some ⟨g, 0, none⟩)] rfl u9_0 ?_; (with_reducible refine (spec_l1Word.calls g s0_0 t431 t432 t433 t434 t435 w0 _ ?side1 ?side2 A52.out).mono ?_); (case side1 => exact s9_0); (case side2 => exact s9_1); rintro e w54 ⟨rfl, hi, hb, hk⟩; refine ⟨_, rfl, ?_⟩; have n0_ := am (KeepBut.blk hk (g' := gb387) (o := zo0 (⟨#[]⟩ : ByteArray) 0 (⟨#[]⟩ : ByteArray) 0 0 0 0 0) u9_3 NB387_0.out (by simp)); have n1_ := am (KeepBut.blk hk (g' := gb404) (o := zo0 x405000_5 x405001_5 x405002_5 x405003_5 x405004_5 x405005_5 x405006_5 x405007_5) u9_4 NB404_0.out (by simp)); have n2_ := am (KeepBut.trans u9_2 hk (.inl rfl)); have n3_ := am (hb); have n4_ := am (hi); clear BK387 BK404 HK HB HI0; have BK387 := n0_; have BK404 := n1_; have HK := n2_; have HB := n3_; have HI0 := n4_; clear n0_ n1_ n2_ n3_ n4_; (try clear hb); (try clear hb2); (try clear hk); (try clear hi); have hnb55 := NB404_387.out; have hnc55 := NB387_404.out; have hnb56 := NB404_0.out; have hnc56 := NB0_404.out; obtain ⟨hcz57_0, hcz57_1, hcz57_2, hcz57_3, hcz57_4, hcz57_5, hcz57_6, hcz57_7, hfz57_0, hfz57_1, hfz57_2, hfz57_3, hfz57_4, hfz57_5, hfz57_6, hfz57_7⟩ := cf8 BK404.out; have hnb58 := NB387_0.out; have hnc58 := NB0_387.out; obtain ⟨hcz59_0, hcz59_1, hcz59_2, hcz59_3, hcz59_4, hcz59_5, hcz59_6, hcz59_7, hfz59_0, hfz59_1, hfz59_2, hfz59_3, hfz59_4, hfz59_5, hfz59_6, hfz59_7⟩ := cf8 BK387.out))
    refine bodyPost_ret (results_cell_row rfl _ _ gb387 87 #[.string t433, .int .i64 x405001_5, .string x405002_5, .int .i64 x405003_5, .int .i64 x405004_5, .int .i64 x405005_5, .int .i64 x405006_5, .int .i64 x405007_5] (0, 0) _ rfl (by (with_reducible repeat (first | refine blk_drewN ?_ _ | refine blk_drew ?_ | refine blk_alloc ?_ _)); refine blk_put (cs := zr5 t433 x405001_5 x405002_5 x405003_5 x405004_5 x405005_5 x405006_5 0) ?_ 7 _ rfl; refine blk_put (cs := zr5 t433 x405001_5 x405002_5 x405003_5 x405004_5 x405005_5 0 0) ?_ 6 _ rfl; refine blk_put (cs := zr5 t433 x405001_5 x405002_5 x405003_5 x405004_5 0 0 0) ?_ 5 _ rfl; refine blk_put (cs := zr5 t433 x405001_5 x405002_5 x405003_5 0 0 0 0) ?_ 4 _ rfl; refine blk_put (cs := zr5 t433 x405001_5 x405002_5 0 0 0 0 0) ?_ 3 _ rfl; refine blk_put (cs := zr5 t433 x405001_5 (⟨#[]⟩ : ByteArray) 0 0 0 0 0) ?_ 2 _ rfl; (with_reducible repeat (first | refine blk_drewN ?_ _ | refine blk_drew ?_ | refine blk_alloc ?_ _)); refine blk_put (cs := zr5 t433 0 (⟨#[]⟩ : ByteArray) 0 0 0 0 0) ?_ 1 _ rfl; (with_reducible repeat (first | refine blk_drewN ?_ _ | refine blk_drew ?_ | refine blk_alloc ?_ _)); refine blk_put (cs := zr5 (⟨#[]⟩ : ByteArray) 0 (⟨#[]⟩ : ByteArray) 0 0 0 0 0) ?_ 0 _ rfl; (with_reducible repeat (first | refine blk_drewN ?_ _ | refine blk_drew ?_ | refine blk_alloc ?_ _)); refine blk_far ?_ NB387_404.out _; (with_reducible repeat (first | refine blk_drewN ?_ _ | refine blk_drew ?_ | refine blk_alloc ?_ _)); exact BK387.out) Try.underlying87 rfl (by kernel_rfl)) rfl ?_
    exact ⟨by first | rfl | (simp [*] <;> rfl), s9_0, s9_1, s9_2⟩
   ·rw [if_neg c51] at H
    have c51b0 : (t430 == 0) = false := beq_eq_false_iff_ne.mpr c51
    have c51b1 : (t430 != 0) = true := bne_iff_ne.mpr c51
    by_cases c60 : t430 = 1
    ·rw [if_pos c60] at H
     have c60b0 : (t430 == 1) = true := beq_iff_eq.mpr c60
     have c60b1 : (t430 != 1) = false := bne_eq_false_iff_eq.mpr c60
     clear c60
     replace H := Option.bind_eq_some_iff.mp H
     obtain ⟨⟨t436, t437, t438⟩, A610, H⟩ := H
     replace H : (some (x405000_5, x405001_5, x405002_5, x405003_5, x405004_5, x405005_5, t436, x405007_5, t437, t438)) = some (r1, r2, r3, r4, r5, r6, r7, r8, r9, r10) := H
     have A61 := am A610
     clear A610
     simp only [Option.some.injEq, Prod.mk.injEq] at H
     obtain ⟨rfl, rfl, rfl, rfl, rfl, rfl, rfl, rfl, rfl, rfl⟩ := H
     go_wp2_with (first | ((with_reducible refine gate_callee (f := 110) rfl ?_); refine goesL_ (some 41) rfl rfl Try.func110 (by kernel_rfl) rfl #[.pointer (some ⟨g, 0, none⟩), .int .i64 12] rfl u9_0 ?_; (with_reducible refine (spec_l1Below.calls g s0_0 x1001_5 x1002_5 12 t430 t431 t432 w0 _ ?side1 ?side2 A50.out).mono ?_); (case side1 => exact s9_0); (case side2 => exact s9_1); rintro e w62 ⟨rfl, hi, hb, hk⟩; refine ⟨_, rfl, ?_⟩; have n0_ := am (KeepBut.blk hk (g' := gb387) (o := zo0 (⟨#[]⟩ : ByteArray) 0 (⟨#[]⟩ : ByteArray) 0 0 0 0 0) u9_3 NB387_0.out (by simp)); have n1_ := am (KeepBut.blk hk (g' := gb404) (o := zo0 x405000_5 x405001_5 x405002_5 x405003_5 x405004_5 x405005_5 x405006_5 x405007_5) u9_4 NB404_0.out (by simp)); have n2_ := am (KeepBut.trans u9_2 hk (.inl rfl)); have n3_ := am (hb); have n4_ := am (hi); clear BK387 BK404 HK HB HI0; have BK387 := n0_; have BK404 := n1_; have HK := n2_; have HB := n3_; have HI0 := n4_; clear n0_ n1_ n2_ n3_ n4_; (try clear hb); (try clear hb2); (try clear hk); (try clear hi)) | ((with_reducible refine gate_callee (f := 113) rfl ?_); refine goesL_ (some 50) rfl rfl Try.func113 (by kernel_rfl) rfl #[.pointer (some ⟨g, 0, none⟩)] rfl u9_0 ?_; (with_reducible refine (spec_l1Odd.calls g s0_0 t431 t432 t436 t437 t438 w0 _ ?side1 ?side2 A61.out).mono ?_); (case side1 => exact s9_0); (case side2 => exact s9_1); rintro e w63 ⟨rfl, hi, hb, hk⟩; refine ⟨_, rfl, ?_⟩; have n0_ := am (KeepBut.blk hk (g' := gb387) (o := zo0 (⟨#[]⟩ : ByteArray) 0 (⟨#[]⟩ : ByteArray) 0 0 0 0 0) u9_3 NB387_0.out (by simp)); have n1_ := am (KeepBut.blk hk (g' := gb404) (o := zo0 x405000_5 x405001_5 x405002_5 x405003_5 x405004_5 x405005_5 x405006_5 x405007_5) u9_4 NB404_0.out (by simp)); have n2_ := am (KeepBut.trans u9_2 hk (.inl rfl)); have n3_ := am (hb); have n4_ := am (hi); clear BK387 BK404 HK HB HI0; have BK387 := n0_; have BK404 := n1_; have HK := n2_; have HB := n3_; have HI0 := n4_; clear n0_ n1_ n2_ n3_ n4_; (try clear hb); (try clear hb2); (try clear hk); (try clear hi); have hnb64 := NB404_387.out; have hnc64 := NB387_404.out; have hnb65 := NB404_0.out; have hnc65 := NB0_404.out; obtain ⟨hcz66_0, hcz66_1, hcz66_2, hcz66_3, hcz66_4, hcz66_5, hcz66_6, hcz66_7, hfz66_0, hfz66_1, hfz66_2, hfz66_3, hfz66_4, hfz66_5, hfz66_6, hfz66_7⟩ := cf8 BK404.out; have hnb67 := NB387_0.out; have hnc67 := NB0_387.out; obtain ⟨hcz68_0, hcz68_1, hcz68_2, hcz68_3, hcz68_4, hcz68_5, hcz68_6, hcz68_7, hfz68_0, hfz68_1, hfz68_2, hfz68_3, hfz68_4, hfz68_5, hfz68_6, hfz68_7⟩ := cf8 BK387.out))
     refine bodyPost_ret (results_cell_row rfl _ _ gb387 87 #[.string x405000_5, .int .i64 x405001_5, .string x405002_5, .int .i64 x405003_5, .int .i64 x405004_5, .int .i64 x405005_5, .int .i64 t436, .int .i64 x405007_5] (0, 0) _ rfl (by (with_reducible repeat (first | refine blk_drewN ?_ _ | refine blk_drew ?_ | refine blk_alloc ?_ _)); refine blk_put (cs := zr5 x405000_5 x405001_5 x405002_5 x405003_5 x405004_5 x405005_5 t436 0) ?_ 7 _ rfl; refine blk_put (cs := zr5 x405000_5 x405001_5 x405002_5 x405003_5 x405004_5 x405005_5 0 0) ?_ 6 _ rfl; refine blk_put (cs := zr5 x405000_5 x405001_5 x405002_5 x405003_5 x405004_5 0 0 0) ?_ 5 _ rfl; refine blk_put (cs := zr5 x405000_5 x405001_5 x405002_5 x405003_5 0 0 0 0) ?_ 4 _ rfl; refine blk_put (cs := zr5 x405000_5 x405001_5 x405002_5 0 0 0 0 0) ?_ 3 _ rfl; refine blk_put (cs := zr5 x405000_5 x405001_5 (⟨#[]⟩ : ByteArray) 0 0 0 0 0) ?_ 2 _ rfl; (with_reducible repeat (first | refine blk_drewN ?_ _ | refine blk_drew ?_ | refine blk_alloc ?_ _)); refine blk_put (cs := zr5 x405000_5 0 (⟨#[]⟩ : ByteArray) 0 0 0 0 0) ?_ 1 _ rfl; (with_reducible repeat (first | refine blk_drewN ?_ _ | refine blk_drew ?_ | refine blk_alloc ?_ _)); refine blk_put (cs := zr5 (⟨#[]⟩ : ByteArray) 0 (⟨#[]⟩ : ByteArray) 0 0 0 0 0) ?_ 0 _ rfl; (with_reducible repeat (first | refine blk_drewN ?_ _ | refine blk_drew ?_ | refine blk_alloc ?_ _)); refine blk_far ?_ NB387_404.out _; (with_reducible repeat (first | refine blk_drewN ?_ _ | refine blk_drew ?_ | refine blk_alloc ?_ _)); exact BK387.out) Try.underlying87 rfl (by kernel_rfl)) rfl ?_
     exact ⟨by first | rfl | (simp [*] <;> rfl), s9_0, s9_1, s9_2⟩
    ·rw [if_neg c60] at H
     have c60b0 : (t430 == 1) = false := beq_eq_false_iff_ne.mpr c60
     have c60b1 : (t430 != 1) = true := bne_iff_ne.mpr c60
     by_cases c69 : t430 = 2
     ·rw [if_pos c69] at H
      have c69b0 : (t430 == 2) = true := beq_iff_eq.mpr c69
      have c69b1 : (t430 != 2) = false := bne_eq_false_iff_eq.mpr c69
      clear c69
      replace H := Option.bind_eq_some_iff.mp H
      obtain ⟨⟨t439, t440, t441, t442, t443, t444, t445⟩, A700, H⟩ := H
      have hF_ : ∀ w_, (Instr.field 153 (.agg #[.int .i64 t439, .int .i64 t440, .int .i64 t441, .int .i64 t442, .int .i64 t443]) 0).run Try.prog w_ = .ok (.agg #[.int .i64 t439, .int .i64 t440]) w_ := fun _ => by go_simp; rfl
      replace H : (some (x405000_5, x405001_5, x405002_5, t439, t440, x405005_5, x405006_5, x405007_5, t444, t445)) = some (r1, r2, r3, r4, r5, r6, r7, r8, r9, r10) := H
      have A70 := am A700
      clear A700
      simp only [Option.some.injEq, Prod.mk.injEq] at H
      obtain ⟨rfl, rfl, rfl, rfl, rfl, rfl, rfl, rfl, rfl, rfl⟩ := H
      go_wp2_with (first | ((with_reducible refine gate_callee (f := 110) rfl ?_); refine goesL_ (some 41) rfl rfl Try.func110 (by kernel_rfl) rfl #[.pointer (some ⟨g, 0, none⟩), .int .i64 12] rfl u9_0 ?_; (with_reducible refine (spec_l1Below.calls g s0_0 x1001_5 x1002_5 12 t430 t431 t432 w0 _ ?side1 ?side2 A50.out).mono ?_); (case side1 => exact s9_0); (case side2 => exact s9_1); rintro e w71 ⟨rfl, hi, hb, hk⟩; refine ⟨_, rfl, ?_⟩; have n0_ := am (KeepBut.blk hk (g' := gb387) (o := zo0 (⟨#[]⟩ : ByteArray) 0 (⟨#[]⟩ : ByteArray) 0 0 0 0 0) u9_3 NB387_0.out (by simp)); have n1_ := am (KeepBut.blk hk (g' := gb404) (o := zo0 x405000_5 x405001_5 x405002_5 x405003_5 x405004_5 x405005_5 x405006_5 x405007_5) u9_4 NB404_0.out (by simp)); have n2_ := am (KeepBut.trans u9_2 hk (.inl rfl)); have n3_ := am (hb); have n4_ := am (hi); clear BK387 BK404 HK HB HI0; have BK387 := n0_; have BK404 := n1_; have HK := n2_; have HB := n3_; have HI0 := n4_; clear n0_ n1_ n2_ n3_ n4_; (try clear hb); (try clear hb2); (try clear hk); (try clear hi)) | ((with_reducible refine gate_callee (f := 161) rfl ?_); refine goesL_ (some 55) rfl rfl Try.func161 (by kernel_rfl) rfl #[.pointer (some ⟨g, 0, none⟩)] rfl u9_0 ?_; (with_reducible refine (spec_l3Any.calls kj5 g s0_0 t431 t432 t439 t440 t441 t442 t443 t444 t445 w0 _ ?side1 ?side2 A70.out).mono ?_); (case side1 => exact s9_0); (case side2 => exact s9_1); rintro e w72 ⟨rfl, hi, hb, hk⟩; refine ⟨_, rfl, ?_⟩; have n0_ := am (KeepBut.blk hk (g' := gb387) (o := zo0 (⟨#[]⟩ : ByteArray) 0 (⟨#[]⟩ : ByteArray) 0 0 0 0 0) u9_3 NB387_0.out (by simp)); have n1_ := am (KeepBut.blk hk (g' := gb404) (o := zo0 x405000_5 x405001_5 x405002_5 x405003_5 x405004_5 x405005_5 x405006_5 x405007_5) u9_4 NB404_0.out (by simp)); have n2_ := am (KeepBut.trans u9_2 hk (.inl rfl)); have n3_ := am (hb); have n4_ := am (hi); clear BK387 BK404 HK HB HI0; have BK387 := n0_; have BK404 := n1_; have HK := n2_; have HB := n3_; have HI0 := n4_; clear n0_ n1_ n2_ n3_ n4_; (try clear hb); (try clear hb2); (try clear hk); (try clear hi); have hnb73 := NB404_387.out; have hnc73 := NB387_404.out; have hnb74 := NB404_0.out; have hnc74 := NB0_404.out; obtain ⟨hcz75_0, hcz75_1, hcz75_2, hcz75_3, hcz75_4, hcz75_5, hcz75_6, hcz75_7, hfz75_0, hfz75_1, hfz75_2, hfz75_3, hfz75_4, hfz75_5, hfz75_6, hfz75_7⟩ := cf8 BK404.out; have hnb76 := NB387_0.out; have hnc76 := NB0_387.out; obtain ⟨hcz77_0, hcz77_1, hcz77_2, hcz77_3, hcz77_4, hcz77_5, hcz77_6, hcz77_7, hfz77_0, hfz77_1, hfz77_2, hfz77_3, hfz77_4, hfz77_5, hfz77_6, hfz77_7⟩ := cf8 BK387.out))
      refine bodyPost_ret (results_cell_row rfl _ _ gb387 87 #[.string x405000_5, .int .i64 x405001_5, .string x405002_5, .int .i64 t439, .int .i64 t440, .int .i64 x405005_5, .int .i64 x405006_5, .int .i64 x405007_5] (0, 0) _ rfl (by (with_reducible repeat (first | refine blk_drewN ?_ _ | refine blk_drew ?_ | refine blk_alloc ?_ _)); refine blk_put (cs := zr5 x405000_5 x405001_5 x405002_5 t439 t440 x405005_5 x405006_5 0) ?_ 7 _ rfl; refine blk_put (cs := zr5 x405000_5 x405001_5 x405002_5 t439 t440 x405005_5 0 0) ?_ 6 _ rfl; refine blk_put (cs := zr5 x405000_5 x405001_5 x405002_5 t439 t440 0 0 0) ?_ 5 _ rfl; refine blk_put (cs := zr5 x405000_5 x405001_5 x405002_5 t439 0 0 0 0) ?_ 4 _ rfl; refine blk_put (cs := zr5 x405000_5 x405001_5 x405002_5 0 0 0 0 0) ?_ 3 _ rfl; refine blk_put (cs := zr5 x405000_5 x405001_5 (⟨#[]⟩ : ByteArray) 0 0 0 0 0) ?_ 2 _ rfl; (with_reducible repeat (first | refine blk_drewN ?_ _ | refine blk_drew ?_ | refine blk_alloc ?_ _)); refine blk_put (cs := zr5 x405000_5 0 (⟨#[]⟩ : ByteArray) 0 0 0 0 0) ?_ 1 _ rfl; (with_reducible repeat (first | refine blk_drewN ?_ _ | refine blk_drew ?_ | refine blk_alloc ?_ _)); refine blk_put (cs := zr5 (⟨#[]⟩ : ByteArray) 0 (⟨#[]⟩ : ByteArray) 0 0 0 0 0) ?_ 0 _ rfl; (with_reducible repeat (first | refine blk_drewN ?_ _ | refine blk_drew ?_ | refine blk_alloc ?_ _)); refine blk_far ?_ NB387_404.out _; (with_reducible repeat (first | refine blk_drewN ?_ _ | refine blk_drew ?_ | refine blk_alloc ?_ _)); refine blk_far ?_ NB387_404.out _; (with_reducible repeat (first | refine blk_drewN ?_ _ | refine blk_drew ?_ | refine blk_alloc ?_ _)); exact BK387.out) Try.underlying87 rfl (by kernel_rfl)) rfl ?_
      exact ⟨by first | rfl | (simp [*] <;> rfl), s9_0, s9_1, s9_2⟩
     ·rw [if_neg c69] at H
      have c69b0 : (t430 == 2) = false := beq_eq_false_iff_ne.mpr c69
      have c69b1 : (t430 != 2) = true := bne_iff_ne.mpr c69
      simp only [Option.some.injEq, Prod.mk.injEq] at H
      obtain ⟨rfl, rfl, rfl, rfl, rfl, rfl, rfl, rfl, rfl, rfl⟩ := H
      go_wp2_with (first | ((with_reducible refine gate_callee (f := 110) rfl ?_); refine goesL_ (some 41) rfl rfl Try.func110 (by kernel_rfl) rfl #[.pointer (some ⟨g, 0, none⟩), .int .i64 12] rfl u9_0 ?_; (with_reducible refine (spec_l1Below.calls g s0_0 x1001_5 x1002_5 12 t430 t431 t432 w0 _ ?side1 ?side2 A50.out).mono ?_); (case side1 => exact s9_0); (case side2 => exact s9_1); rintro e w78 ⟨rfl, hi, hb, hk⟩; refine ⟨_, rfl, ?_⟩; have n0_ := am (KeepBut.blk hk (g' := gb387) (o := zo0 (⟨#[]⟩ : ByteArray) 0 (⟨#[]⟩ : ByteArray) 0 0 0 0 0) u9_3 NB387_0.out (by simp)); have n1_ := am (KeepBut.blk hk (g' := gb404) (o := zo0 x405000_5 x405001_5 x405002_5 x405003_5 x405004_5 x405005_5 x405006_5 x405007_5) u9_4 NB404_0.out (by simp)); have n2_ := am (KeepBut.trans u9_2 hk (.inl rfl)); have n3_ := am (hb); have n4_ := am (hi); clear BK387 BK404 HK HB HI0; have BK387 := n0_; have BK404 := n1_; have HK := n2_; have HB := n3_; have HI0 := n4_; clear n0_ n1_ n2_ n3_ n4_; (try clear hb); (try clear hb2); (try clear hk); (try clear hi); have hnb79 := NB404_387.out; have hnc79 := NB387_404.out; have hnb80 := NB404_0.out; have hnc80 := NB0_404.out; obtain ⟨hcz81_0, hcz81_1, hcz81_2, hcz81_3, hcz81_4, hcz81_5, hcz81_6, hcz81_7, hfz81_0, hfz81_1, hfz81_2, hfz81_3, hfz81_4, hfz81_5, hfz81_6, hfz81_7⟩ := cf8 BK404.out; have hnb82 := NB387_0.out; have hnc82 := NB0_387.out; obtain ⟨hcz83_0, hcz83_1, hcz83_2, hcz83_3, hcz83_4, hcz83_5, hcz83_6, hcz83_7, hfz83_0, hfz83_1, hfz83_2, hfz83_3, hfz83_4, hfz83_5, hfz83_6, hfz83_7⟩ := cf8 BK387.out))
      refine bodyPost_ret (results_cell_row rfl _ _ gb387 87 #[.string x405000_5, .int .i64 x405001_5, .string x405002_5, .int .i64 x405003_5, .int .i64 x405004_5, .int .i64 x405005_5, .int .i64 x405006_5, .int .i64 x405007_5] (0, 0) _ rfl (by (with_reducible repeat (first | refine blk_drewN ?_ _ | refine blk_drew ?_ | refine blk_alloc ?_ _)); refine blk_put (cs := zr5 x405000_5 x405001_5 x405002_5 x405003_5 x405004_5 x405005_5 x405006_5 0) ?_ 7 _ rfl; refine blk_put (cs := zr5 x405000_5 x405001_5 x405002_5 x405003_5 x405004_5 x405005_5 0 0) ?_ 6 _ rfl; refine blk_put (cs := zr5 x405000_5 x405001_5 x405002_5 x405003_5 x405004_5 0 0 0) ?_ 5 _ rfl; refine blk_put (cs := zr5 x405000_5 x405001_5 x405002_5 x405003_5 0 0 0 0) ?_ 4 _ rfl; refine blk_put (cs := zr5 x405000_5 x405001_5 x405002_5 0 0 0 0 0) ?_ 3 _ rfl; refine blk_put (cs := zr5 x405000_5 x405001_5 (⟨#[]⟩ : ByteArray) 0 0 0 0 0) ?_ 2 _ rfl; (with_reducible repeat (first | refine blk_drewN ?_ _ | refine blk_drew ?_ | refine blk_alloc ?_ _)); refine blk_put (cs := zr5 x405000_5 0 (⟨#[]⟩ : ByteArray) 0 0 0 0 0) ?_ 1 _ rfl; (with_reducible repeat (first | refine blk_drewN ?_ _ | refine blk_drew ?_ | refine blk_alloc ?_ _)); refine blk_put (cs := zr5 (⟨#[]⟩ : ByteArray) 0 (⟨#[]⟩ : ByteArray) 0 0 0 0 0) ?_ 0 _ rfl; (with_reducible repeat (first | refine blk_drewN ?_ _ | refine blk_drew ?_ | refine blk_alloc ?_ _)); exact BK387.out) Try.underlying87 rfl (by kernel_rfl)) rfl ?_
      exact ⟨by first | rfl | (simp [*] <;> rfl), s9_0, s9_1, s9_2⟩

def spec_l6List.l0 : Nat → List (S87) → List ByteArray → Int → Int → List Int → Int → Int → Option ((List (S87)) × Int × Int)
 | 0, _, _, _, _, _, _, _ => none
 | k + 1, x3, x23, x24, x25, x1000, x1001, x1002 => if x25 < x24 then (if 0 ≤ x25 then (if x25 < (x23.length : Int) then (if x3.length < 1759218604441 then (spec_l6List.l0 k (x3 ++ [(⟨rdOf ByteArray.empty x23 x25, 1, (⟨#[]⟩ : ByteArray), (⟨0, 0⟩ : S66), 0, 0, 0⟩ : S87)]) x23 x24 (wrap64 (x25 + 1)) x1000 x1001 x1002) else (none)) else (none)) else (none)) else (some (x3, x1001, x1002))
def spec_l6List.f (k : Nat) (s0_0 : List Int) (s0_1 : Int) (s0_2 : Int) : Option ((List (S87)) × Int × Int) := (spec_l6Draw.f k s0_0 s0_1 s0_2).bind fun bt446 => ((spec_l1Below.f s0_0 bt446.2.1 bt446.2.2 12).bind fun bt451 => (if bt451.1 = 0 then ((spec_l6Any.f k s0_0 bt451.2.1 bt451.2.2).bind fun bt454 => (if bt446.1.length < 1759218604441 then (some ((bt446.1 ++ [(⟨bt454.1, bt454.2.1, bt454.2.2.1, (⟨bt454.2.2.2.1, bt454.2.2.2.2.1⟩ : S66), bt454.2.2.2.2.2.1, bt454.2.2.2.2.2.2.1, bt454.2.2.2.2.2.2.2.1⟩ : S87)]), bt454.2.2.2.2.2.2.2.2.1, bt454.2.2.2.2.2.2.2.2.2)) else (none))) else (if bt451.1 = 1 then (if 1 ≤ (bt446.1.length : Int) then (some ((bt446.1.drop (1 : Int).toNat), bt451.2.1, bt451.2.2)) else (none)) else (if bt451.1 = 2 then ((some (([(⟨#[115]⟩ : ByteArray), (⟨#[116]⟩ : ByteArray), (⟨#[117]⟩ : ByteArray), (⟨#[118]⟩ : ByteArray), (⟨#[119]⟩ : ByteArray), (⟨#[120]⟩ : ByteArray)] : List ByteArray) : List ByteArray)).bind fun y470 => (spec_l6List.l0 k bt446.1 y470 (y470.length : Int) 0 s0_0 bt451.2.1 bt451.2.2)) else (some (bt446.1, bt451.2.1, bt451.2.2))))))
theorem spec_l6List.mono_l : ∀ k, (∀ y0 y1 y2 y3 y4 y5 y6, LeO (spec_l6List.l0 k y0 y1 y2 y3 y4 y5 y6) (spec_l6List.l0 (k + 1) y0 y1 y2 y3 y4 y5 y6))
 | 0 => fun _ _ _ _ _ _ _ r h => by simp [spec_l6List.l0] at h
 | k + 1 => by
  have ih0 := spec_l6List.mono_l k
  ·intro y0 y1 y2 y3 y4 y5 y6
   unfold spec_l6List.l0
   repeat' first
   | (with_reducible exact ih0 _ _ _ _ _ _ _)
   | (with_reducible exact spec_l6Any.mono _ _ _ _)
   | (with_reducible exact spec_l6Draw.mono _ _ _ _)
   | (with_reducible exact LeO.refl _)
   | (with_reducible exact LeO.none _)
   | (with_reducible refine LeO.ite ?_ ?_)
   | (with_reducible refine LeO.bind ?_ (fun _ => ?_))
theorem spec_l6List.mono : ∀ a0 a1 a2 k, LeO (spec_l6List.f k a0 a1 a2) (spec_l6List.f (k + 1) a0 a1 a2) := by
 intro a0 a1 a2 k
 have ih0 := spec_l6List.mono_l k
 unfold spec_l6List.f
 repeat' first
   | (with_reducible exact ih0 _ _ _ _ _ _ _)
   | (with_reducible exact spec_l6Any.mono _ _ _ _)
   | (with_reducible exact spec_l6Draw.mono _ _ _ _)
   | (with_reducible exact LeO.refl _)
   | (with_reducible exact LeO.none _)
   | (with_reducible refine LeO.ite ?_ ?_)
   | (with_reducible refine LeO.bind ?_ (fun _ => ?_))
set_option maxHeartbeats 8000000 in
set_option maxRecDepth 100000 in
theorem spec_l6List.calls (k : Nat) (g : Nat) (s0_0 : List Int) (s0_1 : Int) (s0_2 : Int) (r1 : List (S87)) (r2 : Int) (r3 : Int) (w0 w : World) (hI : IsS133 w0 w g s0_0 s0_1 s0_2) (hB : Below w0.heap.size w0 w) (h : spec_l6List.f k s0_0 s0_1 s0_2 = some (r1, r2, r3)) :
  Calls Try.prog 89 #[.pointer (some ⟨g, 0, none⟩)] w fun e w' => ∃ v0_ : Value, e = .returned (v0_) ∧ Kd.Q k87 87 w' w.heap.size (fun _ => True) v0_ r1 ∧ IsS133 w0 w' g s0_0 r2 r3 ∧ Below w0.heap.size w0 w' ∧ KeepBut w w' g none := by
 have hu87 := Try.underlying87
 have HI0 := am hI
 have HK := am (KeepBut.refl w g none)
 have HL := am hB.size
 clear hI
 have HW0 := am hB.size
 have HB := am hB
 clear hB
 have H : ((spec_l6Draw.f k s0_0 s0_1 s0_2).bind fun bt446 => ((spec_l1Below.f s0_0 bt446.2.1 bt446.2.2 12).bind fun bt451 => (if bt451.1 = 0 then ((spec_l6Any.f k s0_0 bt451.2.1 bt451.2.2).bind fun bt454 => (if bt446.1.length < 1759218604441 then (some ((bt446.1 ++ [(⟨bt454.1, bt454.2.1, bt454.2.2.1, (⟨bt454.2.2.2.1, bt454.2.2.2.2.1⟩ : S66), bt454.2.2.2.2.2.1, bt454.2.2.2.2.2.2.1, bt454.2.2.2.2.2.2.2.1⟩ : S87)]), bt454.2.2.2.2.2.2.2.2.1, bt454.2.2.2.2.2.2.2.2.2)) else (none))) else (if bt451.1 = 1 then (if 1 ≤ (bt446.1.length : Int) then (some ((bt446.1.drop (1 : Int).toNat), bt451.2.1, bt451.2.2)) else (none)) else (if bt451.1 = 2 then ((some (([(⟨#[115]⟩ : ByteArray), (⟨#[116]⟩ : ByteArray), (⟨#[117]⟩ : ByteArray), (⟨#[118]⟩ : ByteArray), (⟨#[119]⟩ : ByteArray), (⟨#[120]⟩ : ByteArray)] : List ByteArray) : List ByteArray)).bind fun y470 => (spec_l6List.l0 k bt446.1 y470 (y470.length : Int) 0 s0_0 bt451.2.1 bt451.2.2)) else (some (bt446.1, bt451.2.1, bt451.2.2))))))) = some (r1, r2, r3) := h
 clear h
 replace H := Option.bind_eq_some_iff.mp H
 obtain ⟨⟨t446, t449, t450⟩, A20, H⟩ := H
 replace H : ((spec_l1Below.f s0_0 t449 t450 12).bind fun bt451 => (if bt451.1 = 0 then ((spec_l6Any.f k s0_0 bt451.2.1 bt451.2.2).bind fun bt454 => (if t446.length < 1759218604441 then (some ((t446 ++ [(⟨bt454.1, bt454.2.1, bt454.2.2.1, (⟨bt454.2.2.2.1, bt454.2.2.2.2.1⟩ : S66), bt454.2.2.2.2.2.1, bt454.2.2.2.2.2.2.1, bt454.2.2.2.2.2.2.2.1⟩ : S87)]), bt454.2.2.2.2.2.2.2.2.1, bt454.2.2.2.2.2.2.2.2.2)) else (none))) else (if bt451.1 = 1 then (if 1 ≤ (t446.length : Int) then (some ((t446.drop (1 : Int).toNat), bt451.2.1, bt451.2.2)) else (none)) else (if bt451.1 = 2 then ((some (([(⟨#[115]⟩ : ByteArray), (⟨#[116]⟩ : ByteArray), (⟨#[117]⟩ : ByteArray), (⟨#[118]⟩ : ByteArray), (⟨#[119]⟩ : ByteArray), (⟨#[120]⟩ : ByteArray)] : List ByteArray) : List ByteArray)).bind fun y470 => (spec_l6List.l0 k t446 y470 (y470.length : Int) 0 s0_0 bt451.2.1 bt451.2.2)) else (some (t446, bt451.2.1, bt451.2.2)))))) = some (r1, r2, r3) := H
 have A2 := am A20
 clear A20
 replace H := Option.bind_eq_some_iff.mp H
 obtain ⟨⟨t451, t452, t453⟩, A30, H⟩ := H
 replace H : (if t451 = 0 then ((spec_l6Any.f k s0_0 t452 t453).bind fun bt454 => (if t446.length < 1759218604441 then (some ((t446 ++ [(⟨bt454.1, bt454.2.1, bt454.2.2.1, (⟨bt454.2.2.2.1, bt454.2.2.2.2.1⟩ : S66), bt454.2.2.2.2.2.1, bt454.2.2.2.2.2.2.1, bt454.2.2.2.2.2.2.2.1⟩ : S87)]), bt454.2.2.2.2.2.2.2.2.1, bt454.2.2.2.2.2.2.2.2.2)) else (none))) else (if t451 = 1 then (if 1 ≤ (t446.length : Int) then (some ((t446.drop (1 : Int).toNat), t452, t453)) else (none)) else (if t451 = 2 then ((some (([(⟨#[115]⟩ : ByteArray), (⟨#[116]⟩ : ByteArray), (⟨#[117]⟩ : ByteArray), (⟨#[118]⟩ : ByteArray), (⟨#[119]⟩ : ByteArray), (⟨#[120]⟩ : ByteArray)] : List ByteArray) : List ByteArray)).bind fun y470 => (spec_l6List.l0 k t446 y470 (y470.length : Int) 0 s0_0 t452 t453)) else (some (t446, t452, t453))))) = some (r1, r2, r3) := H
 have A3 := am A30
 clear A30
 by_cases c4 : t451 = 0
 ·rw [if_pos c4] at H
  have c4b0 : (t451 == 0) = true := beq_iff_eq.mpr c4
  have c4b1 : (t451 != 0) = false := bne_eq_false_iff_eq.mpr c4
  clear c4
  replace H := Option.bind_eq_some_iff.mp H
  obtain ⟨⟨t454, t455, t456, t457, t458, t459, t460, t461, t462, t463⟩, A50, H⟩ := H
  replace H : (if t446.length < 1759218604441 then (some ((t446 ++ [(⟨t454, t455, t456, (⟨t457, t458⟩ : S66), t459, t460, t461⟩ : S87)]), t462, t463)) else (none)) = some (r1, r2, r3) := H
  have A5 := am A50
  clear A50
  by_cases c6 : t446.length < 1759218604441
  ·rw [if_pos c6] at H
   have LMc6 := am c6
   clear c6
   obtain ⟨y464, hy464⟩ : ∃ y_ : List (S87), y_ = (t446 ++ [(⟨t454, t455, t456, (⟨t457, t458⟩ : S66), t459, t460, t461⟩ : S87)]) := ⟨_, rfl⟩
   replace H : (some (y464, t462, t463)) = some (r1, r2, r3) := by first | (rw [hy464]; with_reducible exact H) | (have H2_ := (Option.bind_some _ _).symm.trans H; rw [hy464]; with_reducible exact H2_) | (have H2_ := (Option.bind_some _ _).symm.trans H; with_reducible exact H2_) | with_reducible exact H | (rw [hy464]; exact H) | exact H
   have Ny464 := am hy464
   clear hy464
   simp only [Option.some.injEq, Prod.mk.injEq] at H
   obtain ⟨rfl, rfl, rfl⟩ := H
   go_enter Try.func89, Try.ntmps89
   go_wp2_with (first | ((with_reducible refine gate_callee (f := 88) rfl ?_); refine goesL_ (some 7) rfl rfl Try.func88 (by kernel_rfl) rfl #[.pointer (some ⟨g, 0, none⟩)] rfl u9_0 ?_; (with_reducible refine (spec_l6Draw.calls k g s0_0 s0_1 s0_2 t446 t449 t450 w0 _ ?side1 ?side2 A2.out).mono ?_); (case side1 => exact s9_7); (case side2 => exact s9_8); rintro e w7 ⟨v447, rfl, ho0, hi, hb, hk⟩; refine ⟨_, rfl, ?_⟩; have n0_ := am (Kd.R_lower ho0 (keep_size (w := w) (g := g) (row := none) u9_1)); have n1_ := am (KeepBut.trans u9_1 hk (.inl rfl)); have n2_ := am (hb); have n3_ := am (hi); clear HK HB HI0; have HO448 := n0_; have HK := n1_; have HB := n2_; have HI0 := n3_; clear n0_ n1_ n2_ n3_; (try clear hb); (try clear hb2); (try clear hk); (try clear hi); (try clear ho0)) | ((with_reducible refine gate_callee (f := 110) rfl ?_); refine goesL_ (some 9) rfl rfl Try.func110 (by kernel_rfl) rfl #[.pointer (some ⟨g, 0, none⟩), .int .i64 12] rfl u9_0 ?_; (with_reducible refine (spec_l1Below.calls g s0_0 t449 t450 12 t451 t452 t453 w0 _ ?side1 ?side2 A3.out).mono ?_); (case side1 => exact s9_7); (case side2 => exact s9_8); rintro e w8 ⟨rfl, hi, hb, hk⟩; refine ⟨_, rfl, ?_⟩; have n0_ := am (Kd.R_mono (Kd.R_keep (IsS133.apart (show IsS133 w0 _ g s0_0 t449 t450 from by repeat (first | (with_reducible first | exact HI0.out | apply IsS133.alloc | apply IsS133.drewN | apply IsS133.drew | apply IsS133.set_1 | apply IsS133.set_2) | exact HI0.out)) u9_6 (by decide)) hk (fun _ h => h.2)) (fun _ h => h.1)); have n1_ := am (KeepBut.trans u9_1 hk (.inl rfl)); have n2_ := am (hb); have n3_ := am (hi); clear HO448 HK HB HI0; have HO448 := n0_; have HK := n1_; have HB := n2_; have HI0 := n3_; clear n0_ n1_ n2_ n3_; (try clear hb); (try clear hb2); (try clear hk); (try clear hi)) | ((with_reducible refine gate_callee (f := 130) rfl ?_); refine goesL_ (some 14) rfl rfl Try.func130 (by kernel_rfl) rfl #[.pointer (some ⟨g, 0, none⟩)] rfl u9_0 ?_; (with_reducible refine (spec_l6Any.calls k g s0_0 t452 t453 t454 t455 t456 t457 t458 t459 t460 t461 t462 t463 w0 _ ?side1 ?side2 A5.out).mono ?_); (case side1 => exact s9_7); (case side2 => exact s9_8); rintro e w9 ⟨rfl, hi, hb, hk⟩; refine ⟨_, rfl, ?_⟩; have n0_ := am (Kd.R_mono (Kd.R_keep (IsS133.apart (show IsS133 w0 _ g s0_0 t452 t453 from by repeat (first | (with_reducible first | exact HI0.out | apply IsS133.alloc | apply IsS133.drewN | apply IsS133.drew | apply IsS133.set_1 | apply IsS133.set_2) | exact HI0.out)) u9_6 (by decide)) hk (fun _ h => h.2)) (fun _ h => h.1)); have n1_ := am (KeepBut.trans u9_1 hk (.inl rfl)); have n2_ := am (hb); have n3_ := am (hi); clear HO448 HK HB HI0; have HO448 := n0_; have HK := n1_; have HB := n2_; have HI0 := n3_; clear n0_ n1_ n2_ n3_; (try clear hb); (try clear hb2); (try clear hk); (try clear hi)) | ((with_reducible refine gate_builtin (b := .append) (xs := #[.tmp 12, .tmp 15]) rfl ?_); at_builtin; refine Kd.R_append k87 w.heap.size rfl (.tmp 12) (.tmp 15) 77 87 (.agg #[(.string ⟨#[]⟩), (.int .i64 0), (.string ⟨#[]⟩), (.int .i64 0), (.int .i64 0), (.int .i64 0), (.int .i64 0), (.int .i64 0)]) 80 rfl Try.underlying77 info87 rfl (by decide) (by omega) v447 t446 (⟨t454, t455, t456, (⟨t457, t458⟩ : S66), t459, t460, t461⟩ : S87) [.string t454, .int .i64 t455, .string t456, .int .i64 t457, .int .i64 t458, .int .i64 t459, .int .i64 t460, .int .i64 t461] (fun _ => True) (fun _ => False) rfl rfl ?aP (fun _ hk => hk.elim) ?aF ?aO (Below.refl _ _) ?aS ?aL ?_; (case aP => exact k87_mkM _ _ _ (⟨t454, t455, t456, (⟨t457, t458⟩ : S66), t459, t460, t461⟩ : S87)); (case aF => exact (fun _ _ => trivial)); (case aO => exact u9_6); (case aS => exact (keep_size (w := w) (g := g) (row := none) u9_1)); (case aL => have := LMc6.out; omega); intro v465 w10 ho hb hg hat; rw [← Ny464.out] at ho; have n0_ := am (IsS133.grown u9_7 hg (IsS133.own_ne HI0.out HO448.out (by decide))); have n1_ := am (below_weaken u9_8 HL.out hb); have n2_ := am (KeepBut.trans u9_1 (KeepBut.of_grown hg g) (Kd.R_base2 HO448.out)); have n3_ := am (ho); clear HI0 HB HK HO448; have HI0 := n0_; have HB := n1_; have HK := n2_; have HO466 := n3_; clear n0_ n1_ n2_ n3_ ho hb hg hat))
   go_ret
   exact ⟨_, by first | rfl | (simp [*] <;> rfl), Kd.Q_of_R (by (with_reducible repeat (first | apply Kd.R_alloc | apply Kd.R_drewN | apply Kd.R_drew)); exact HO466.out), s9_7, s9_8, s9_9⟩
  ·rw [if_neg c6] at H
   exact absurd H (by simp)
 ·rw [if_neg c4] at H
  have c4b0 : (t451 == 0) = false := beq_eq_false_iff_ne.mpr c4
  have c4b1 : (t451 != 0) = true := bne_iff_ne.mpr c4
  by_cases c11 : t451 = 1
  ·rw [if_pos c11] at H
   have c11b0 : (t451 == 1) = true := beq_iff_eq.mpr c11
   have c11b1 : (t451 != 1) = false := bne_eq_false_iff_eq.mpr c11
   clear c11
   by_cases c12 : 1 ≤ (t446.length : Int)
   ·rw [if_pos c12] at H
    have c12b0 := eq_true c12
    have c12b1 : decide (1 ≤ (t446.length : Int)) = true := decide_eq_true c12
    clear c12
    obtain ⟨y467, hy467⟩ : ∃ y_ : List (S87), y_ = (t446.drop (1 : Int).toNat) := ⟨_, rfl⟩
    replace H : (some (y467, t452, t453)) = some (r1, r2, r3) := by first | (rw [hy467]; with_reducible exact H) | (have H2_ := (Option.bind_some _ _).symm.trans H; rw [hy467]; with_reducible exact H2_) | (have H2_ := (Option.bind_some _ _).symm.trans H; with_reducible exact H2_) | with_reducible exact H | (rw [hy467]; exact H) | exact H
    have Ny467 := am hy467
    clear hy467
    simp only [Option.some.injEq, Prod.mk.injEq] at H
    obtain ⟨rfl, rfl, rfl⟩ := H
    go_enter Try.func89, Try.ntmps89
    go_wp2_with (first | ((with_reducible refine gate_callee (f := 88) rfl ?_); refine goesL_ (some 7) rfl rfl Try.func88 (by kernel_rfl) rfl #[.pointer (some ⟨g, 0, none⟩)] rfl u9_0 ?_; (with_reducible refine (spec_l6Draw.calls k g s0_0 s0_1 s0_2 t446 t449 t450 w0 _ ?side1 ?side2 A2.out).mono ?_); (case side1 => exact s9_7); (case side2 => exact s9_8); rintro e w13 ⟨v447, rfl, ho0, hi, hb, hk⟩; refine ⟨_, rfl, ?_⟩; have n0_ := am (Kd.R_lower ho0 (keep_size (w := w) (g := g) (row := none) u9_1)); have n1_ := am (KeepBut.trans u9_1 hk (.inl rfl)); have n2_ := am (hb); have n3_ := am (hi); clear HK HB HI0; have HO448 := n0_; have HK := n1_; have HB := n2_; have HI0 := n3_; clear n0_ n1_ n2_ n3_; (try clear hb); (try clear hb2); (try clear hk); (try clear hi); (try clear ho0)) | ((with_reducible refine gate_callee (f := 110) rfl ?_); refine goesL_ (some 9) rfl rfl Try.func110 (by kernel_rfl) rfl #[.pointer (some ⟨g, 0, none⟩), .int .i64 12] rfl u9_0 ?_; (with_reducible refine (spec_l1Below.calls g s0_0 t449 t450 12 t451 t452 t453 w0 _ ?side1 ?side2 A3.out).mono ?_); (case side1 => exact s9_7); (case side2 => exact s9_8); rintro e w14 ⟨rfl, hi, hb, hk⟩; refine ⟨_, rfl, ?_⟩; have n0_ := am (Kd.R_mono (Kd.R_keep (IsS133.apart (show IsS133 w0 _ g s0_0 t449 t450 from by repeat (first | (with_reducible first | exact HI0.out | apply IsS133.alloc | apply IsS133.drewN | apply IsS133.drew | apply IsS133.set_1 | apply IsS133.set_2) | exact HI0.out)) u9_6 (by decide)) hk (fun _ h => h.2)) (fun _ h => h.1)); have n1_ := am (KeepBut.trans u9_1 hk (.inl rfl)); have n2_ := am (hb); have n3_ := am (hi); clear HO448 HK HB HI0; have HO448 := n0_; have HK := n1_; have HB := n2_; have HI0 := n3_; clear n0_ n1_ n2_ n3_; (try clear hb); (try clear hb2); (try clear hk); (try clear hi); obtain ⟨Ao15, co15, eo15⟩ := Kd.R_slice HO448.out; subst eo15; have q16 : (1 : Int) ≤ ((t446.length : Int) : Int) := od (by assumption); obtain ⟨i016, hi016, _, hsz16, _⟩ := info_parts info87; have hcut16 := cut_from (P := Try.prog) 77 87 .i64 Try.underlying77 hi016 8 hsz16 Ao15 t446.length co15 1 (by omega) q16; have hr16 := Kd.Q_drop (k := (1 : Int).toNat) (Kd.Q_of_R HO448.out) (by omega); obtain ⟨A16, hA16⟩ : ∃ A1, A1 = (if co15 = (1 : Int).toNat then Ao15 else (Ao15 : Option Addr).map (·.add ((1 : Int).toNat * 8))) := ⟨_, rfl⟩; obtain ⟨c16, hc16⟩ : ∃ c1, c1 = co15 - (1 : Int).toNat := ⟨_, rfl⟩; have hy16 : y467.length = t446.length - (1 : Int).toNat := (by rw [Ny467.out, List.length_drop]); rw [← Ny467.out] at hr16; rw [← hy16, ← hA16, ← hc16] at hcut16; replace hr16 : Kd.Q k87 87 w14 w.heap.size (fun _ => True) (.slice A16 y467.length c16) y467 := (by rw [hA16, hc16, hy16]; exact hr16); have HE16 : Aside0 ((Value.slice A16 y467.length c16).ownBlock = (.slice Ao15 t446.length co15 : Value).ownBlock) := ⟨by rw [hA16]; split <;> (cases (Ao15 : Option Addr) <;> rfl)⟩; clear hy16 hi016 hsz16 HO448 hA16 hc16; have HO469 := am hr16; clear hr16; replace q16 := eq_true q16))
    go_ret
    exact ⟨_, by first | rfl | (simp [*] <;> rfl), by (with_reducible repeat (first | apply Kd.Q_alloc | apply Kd.Q_drewN | apply Kd.Q_drew)); exact HO469.out, s9_7, s9_8, s9_9⟩
   ·rw [if_neg c12] at H
    exact absurd H (by simp)
  ·rw [if_neg c11] at H
   have c11b0 : (t451 == 1) = false := beq_eq_false_iff_ne.mpr c11
   have c11b1 : (t451 != 1) = true := bne_iff_ne.mpr c11
   by_cases c17 : t451 = 2
   ·rw [if_pos c17] at H
    have c17b0 : (t451 == 2) = true := beq_iff_eq.mpr c17
    have c17b1 : (t451 != 2) = false := bne_eq_false_iff_eq.mpr c17
    clear c17
    obtain ⟨y470, hy470⟩ : ∃ y_ : List ByteArray, y_ = (([(⟨#[115]⟩ : ByteArray), (⟨#[116]⟩ : ByteArray), (⟨#[117]⟩ : ByteArray), (⟨#[118]⟩ : ByteArray), (⟨#[119]⟩ : ByteArray), (⟨#[120]⟩ : ByteArray)] : List ByteArray)) := ⟨_, rfl⟩
    replace H : (spec_l6List.l0 k t446 y470 (y470.length : Int) 0 s0_0 t452 t453) = some (r1, r2, r3) := by first | (rw [hy470]; with_reducible exact H) | (have H2_ := (Option.bind_some _ _).symm.trans H; rw [hy470]; with_reducible exact H2_) | (have H2_ := (Option.bind_some _ _).symm.trans H; with_reducible exact H2_) | with_reducible exact H | (rw [hy470]; exact H) | exact H
    have Ny470 := am hy470
    clear hy470
    have H' := am H
    clear H
    go_enter Try.func89, Try.ntmps89
    go_wp2_with (first | ((with_reducible refine gate_callee (f := 88) rfl ?_); refine goesL_ (some 7) rfl rfl Try.func88 (by kernel_rfl) rfl #[.pointer (some ⟨g, 0, none⟩)] rfl u9_0 ?_; (with_reducible refine (spec_l6Draw.calls k g s0_0 s0_1 s0_2 t446 t449 t450 w0 _ ?side1 ?side2 A2.out).mono ?_); (case side1 => exact s9_7); (case side2 => exact s9_8); rintro e w18 ⟨v447, rfl, ho0, hi, hb, hk⟩; refine ⟨_, rfl, ?_⟩; have n0_ := am (Kd.R_lower ho0 (keep_size (w := w) (g := g) (row := none) u9_1)); have n1_ := am (KeepBut.trans u9_1 hk (.inl rfl)); have n2_ := am (hb); have n3_ := am (hi); clear HK HB HI0; have HO448 := n0_; have HK := n1_; have HB := n2_; have HI0 := n3_; clear n0_ n1_ n2_ n3_; (try clear hb); (try clear hb2); (try clear hk); (try clear hi); (try clear ho0)) | ((with_reducible refine gate_callee (f := 110) rfl ?_); refine goesL_ (some 9) rfl rfl Try.func110 (by kernel_rfl) rfl #[.pointer (some ⟨g, 0, none⟩), .int .i64 12] rfl u9_0 ?_; (with_reducible refine (spec_l1Below.calls g s0_0 t449 t450 12 t451 t452 t453 w0 _ ?side1 ?side2 A3.out).mono ?_); (case side1 => exact s9_7); (case side2 => exact s9_8); rintro e w19 ⟨rfl, hi, hb, hk⟩; refine ⟨_, rfl, ?_⟩; have n0_ := am (Kd.R_mono (Kd.R_keep (IsS133.apart (show IsS133 w0 _ g s0_0 t449 t450 from by repeat (first | (with_reducible first | exact HI0.out | apply IsS133.alloc | apply IsS133.drewN | apply IsS133.drew | apply IsS133.set_1 | apply IsS133.set_2) | exact HI0.out)) u9_6 (by decide)) hk (fun _ h => h.2)) (fun _ h => h.1)); have n1_ := am (KeepBut.trans u9_1 hk (.inl rfl)); have n2_ := am (hb); have n3_ := am (hi); clear HO448 HK HB HI0; have HO448 := n0_; have HK := n1_; have HB := n2_; have HI0 := n3_; clear n0_ n1_ n2_ n3_; (try clear hb); (try clear hb2); (try clear hk); (try clear hi)) | ((with_reducible refine gate_dst (N := 23) rfl ?_); refine Kd.R_lit Kd.string _ 9 ?hg (N := 23) ?hd (xs := ([(⟨#[115]⟩ : ByteArray), (⟨#[116]⟩ : ByteArray), (⟨#[117]⟩ : ByteArray), (⟨#[118]⟩ : ByteArray), (⟨#[119]⟩ : ByteArray), (⟨#[120]⟩ : ByteArray)] : List ByteArray)) (inner := [.string (⟨#[115]⟩ : ByteArray), .string (⟨#[116]⟩ : ByteArray), .string (⟨#[117]⟩ : ByteArray), .string (⟨#[118]⟩ : ByteArray), .string (⟨#[119]⟩ : ByteArray), .string (⟨#[120]⟩ : ByteArray)]) (ok := fun _ => True) (okp := fun _ => True) ?hr ?hp (fun _ hk => hk) trivial (Below.refl _ _) (Nat.le_refl _) (by simp) ?_; (case hd => rfl); (case hg => rfl); (case hr => exact gq); (case hp => exact (Reps.one (show Kd.M Kd.string _ _ _ (⟨#[115]⟩ : ByteArray) [.string (⟨#[115]⟩ : ByteArray)] from rfl) (Reps.one (show Kd.M Kd.string _ _ _ (⟨#[116]⟩ : ByteArray) [.string (⟨#[116]⟩ : ByteArray)] from rfl) (Reps.one (show Kd.M Kd.string _ _ _ (⟨#[117]⟩ : ByteArray) [.string (⟨#[117]⟩ : ByteArray)] from rfl) (Reps.one (show Kd.M Kd.string _ _ _ (⟨#[118]⟩ : ByteArray) [.string (⟨#[118]⟩ : ByteArray)] from rfl) (Reps.one (show Kd.M Kd.string _ _ _ (⟨#[119]⟩ : ByteArray) [.string (⟨#[119]⟩ : ByteArray)] from rfl) (Reps.one (show Kd.M Kd.string _ _ _ (⟨#[120]⟩ : ByteArray) [.string (⟨#[120]⟩ : ByteArray)] from rfl) (Reps.none _ _)))))))); intro v471 w20 ho21 hb hg_ hnew_; clear hg_ hnew_; (first | rw [← Ny470.out] at ho21 | (simp only [Int.reduceToNat] at ho21; rw [← Ny470.out] at ho21)); have n0_ := am (Kd.R_below u9_6 hb); have n1_ := am (Kd.R_lower ho21 (keep_size (w := w) (g := g) (row := none) u9_1)); have n2_ := am (IsS133.below u9_7 hb); have n3_ := am (KeepBut.trans u9_1 (KeepBut.of_below hb g none) (.inl rfl)); have n4_ := am (below_step u9_8 hb); clear HO448 HI0 HK HB; have HO448 := n0_; have HO472 := n1_; have HI0 := n2_; have HK := n3_; have HB := n4_; clear n0_ n1_ n2_ n3_ n4_ hb ho21; obtain ⟨Ao22, co22, eo22⟩ := Kd.R_slice HO472.out; subst eo22))
    go_loopg [3, 25] k (fun kq v3 v25 w' => ∃ (x3_1 : List (S87)) (x25_1 : Int), v25 = .int .i64 x25_1 ∧ Aside0 (spec_l6List.l0 kq x3_1 y470 (y470.length : Int) x25_1 s0_0 t452 t453 = some (r1, r2, r3)) ∧ Aside0 (kq ≤ k) ∧ Aside0 (Kd.Q k87 87 w' w.heap.size (fun _ => True) v3 x3_1) ∧ Aside0 (Kd.R Kd.string 9 w' w.heap.size (fun _ => True) (.slice Ao22 y470.length co22) y470) ∧ Aside0 (IsS133 w0 w' g s0_0 t452 t453) ∧ Aside0 (KeepBut w w' g none) ∧ Aside0 (Below w0.heap.size w0 w'))
    case atStart => exact ⟨(t446), (0), u9_9, H', ⟨Nat.le_refl _⟩, ⟨Kd.Q_of_R u9_6⟩, ⟨by (with_reducible repeat (first | apply Kd.R_alloc | apply Kd.R_drewN | apply Kd.R_drew)); exact HO472.out⟩, ⟨s9_7⟩, ⟨s9_9⟩, ⟨s9_8⟩⟩
    case round =>
     clear H'
     try clear c1
     try clear q1
     try clear p2
     try clear c4
     try clear c4b0
     try clear c4b1
     try clear c6
     try clear c8
     try clear c11
     try clear c11b0
     try clear c11b1
     try clear c12
     try clear c12b0
     try clear c12b1
     try clear c13
     try clear c16
     try clear q16
     try clear c17
     try clear c17b0
     try clear c17b1
     try clear q16
     obtain ⟨x3_1, x25_1, rfl, HA, HK1, HO_3, HO_23, HI0, HK, HB⟩ := hrel
     cases gk with
     | zero => exact absurd HA.out (by simp [spec_l6List.l0])
     | succ k1 =>
      have H := HA.out
      clear HA
      simp only [spec_l6List.l0] at H
      by_cases c23 : x25_1 < (y470.length : Int)
      ·rw [if_pos c23] at H
       have c23b0 : decide (x25_1 < (y470.length : Int)) = true := decide_eq_true c23
       clear c23
       by_cases c24 : 0 ≤ x25_1
       ·rw [if_pos c24] at H
        have c24b0 : decide (0 ≤ x25_1) = true := decide_eq_true c24
        clear c24
        by_cases c25 : x25_1 < (y470.length : Int)
        ·rw [if_pos c25] at H
         have c25b0 : decide (x25_1 < (y470.length : Int)) = true := decide_eq_true c25
         clear c25
         by_cases c26 : x3_1.length < 1759218604441
         ·rw [if_pos c26] at H
          have LMc26 := am c26
          clear c26
          obtain ⟨y474, hy474⟩ : ∃ y_ : List (S87), y_ = (x3_1 ++ [(⟨rdOf ByteArray.empty y470 x25_1, 1, (⟨#[]⟩ : ByteArray), (⟨0, 0⟩ : S66), 0, 0, 0⟩ : S87)]) := ⟨_, rfl⟩
          replace H : (spec_l6List.l0 k1 y474 y470 (y470.length : Int) (wrap64 (x25_1 + 1)) s0_0 t452 t453) = some (r1, r2, r3) := by first | (rw [hy474]; with_reducible exact H) | (have H2_ := (Option.bind_some _ _).symm.trans H; rw [hy474]; with_reducible exact H2_) | (have H2_ := (Option.bind_some _ _).symm.trans H; with_reducible exact H2_) | with_reducible exact H | (rw [hy474]; exact H) | exact H
          have Ny474 := am hy474
          clear hy474
          have H' := am H
          clear H
          have p473 : 0 ≤ (x25_1 : Int) := od (by assumption)
          have q473 : x25_1 < (y470.length : Int) := od (by assumption)
          obtain ⟨ad473, e473, hx473_0⟩ := Kd.at_string (Kd.R_reads' HO_23.out).2.2 x25_1 p473 q473
          cases e473
          replace p473 := eq_true p473
          replace q473 := eq_true q473
          go_wp2_with (first | ((with_reducible refine gate_builtin (b := .append) (xs := #[.tmp 29, .tmp 32]) rfl ?_); at_builtin; refine Kd.Q_append k87 w.heap.size rfl (.tmp 29) (.tmp 32) 77 87 (.agg #[(.string ⟨#[]⟩), (.int .i64 0), (.string ⟨#[]⟩), (.int .i64 0), (.int .i64 0), (.int .i64 0), (.int .i64 0), (.int .i64 0)]) 80 rfl Try.underlying77 info87 rfl (by decide) (by omega) u3 x3_1 (⟨rdOf ByteArray.empty y470 x25_1, 1, (⟨#[]⟩ : ByteArray), (⟨0, 0⟩ : S66), 0, 0, 0⟩ : S87) [.string (rdOf ByteArray.empty y470 x25_1), .int .i64 1, .string (⟨#[]⟩ : ByteArray), .int .i64 0, .int .i64 0, .int .i64 0, .int .i64 0, .int .i64 0] (fun _ => True) (fun _ => False) rfl rfl ?aP (fun _ hk => hk.elim) ?aF ?aO (Below.refl _ _) ?aS ?aL ?_; (case aP => exact k87_mkM _ _ _ (⟨rdOf ByteArray.empty y470 x25_1, 1, (⟨#[]⟩ : ByteArray), (⟨0, 0⟩ : S66), 0, 0, 0⟩ : S87)); (case aF => exact (fun _ _ => trivial)); (case aO => exact (by (with_reducible repeat (first | apply Kd.Q_alloc | apply Kd.Q_drewN | apply Kd.Q_drew)); exact HO_3.out)); (case aS => exact (keep_size (w := w) (g := g) (row := none) u9_1)); (case aL => have := LMc26.out; omega); intro v475 w27 ho hb hg hat; rw [← Ny474.out] at ho; have n0_ := am (Kd.R_over' (by (with_reducible repeat (first | apply Kd.R_alloc | apply Kd.R_drewN | apply Kd.R_drew)); exact HO_23.out) (Kd.Q_typed (by (with_reducible repeat (first | apply Kd.Q_alloc | apply Kd.Q_drewN | apply Kd.Q_drew)); exact HO_3.out)) (by decide) hg); have n1_ := am (IsS133.grown u9_7 hg (IsS133.own_neQ HI0.out HO_3.out (by decide))); have n2_ := am (below_weaken u9_8 HL.out hb); have n3_ := am (KeepBut.trans u9_1 (KeepBut.of_grown hg g) (Kd.Q_base2 HO_3.out)); have n4_ := am (ho); clear HO_23 HI0 HB HK HO_3; have HO_23 := n0_; have HI0 := n1_; have HB := n2_; have HK := n3_; have HO476 := n4_; clear n0_ n1_ n2_ n3_ n4_ ho hb hg hat))
          go_roundg k1
          case measure => have := HK1.out; omega
          case rel => exact ⟨(y474), (wrap64 (x25_1 + 1)), u9_9, H', ⟨by have := HK1.out; omega⟩, ⟨by (with_reducible repeat (first | apply Kd.Q_alloc | apply Kd.Q_drewN | apply Kd.Q_drew)); exact HO476.out⟩, ⟨by (with_reducible repeat (first | apply Kd.R_alloc | apply Kd.R_drewN | apply Kd.R_drew)); exact HO_23.out⟩, ⟨s9_7⟩, ⟨s9_9⟩, ⟨s9_8⟩⟩
         ·rw [if_neg c26] at H
          exact absurd H (by simp)
        ·rw [if_neg c25] at H
         exact absurd H (by simp)
       ·rw [if_neg c24] at H
        exact absurd H (by simp)
      ·rw [if_neg c23] at H
       have c23b0 : decide (x25_1 < (y470.length : Int)) = false := decide_eq_false c23
       clear c23
       simp only [Option.some.injEq, Prod.mk.injEq] at H
       obtain ⟨rfl, rfl, rfl⟩ := H
       go_wp2
       go_ret
       exact ⟨_, by first | rfl | (simp [*] <;> rfl), by (with_reducible repeat (first | apply Kd.Q_alloc | apply Kd.Q_drewN | apply Kd.Q_drew)); exact HO_3.out, s9_7, s9_8, s9_9⟩
   ·rw [if_neg c17] at H
    have c17b0 : (t451 == 2) = false := beq_eq_false_iff_ne.mpr c17
    have c17b1 : (t451 != 2) = true := bne_iff_ne.mpr c17
    simp only [Option.some.injEq, Prod.mk.injEq] at H
    obtain ⟨rfl, rfl, rfl⟩ := H
    go_enter Try.func89, Try.ntmps89
    go_wp2_with (first | ((with_reducible refine gate_callee (f := 88) rfl ?_); refine goesL_ (some 7) rfl rfl Try.func88 (by kernel_rfl) rfl #[.pointer (some ⟨g, 0, none⟩)] rfl u9_0 ?_; (with_reducible refine (spec_l6Draw.calls k g s0_0 s0_1 s0_2 t446 t449 t450 w0 _ ?side1 ?side2 A2.out).mono ?_); (case side1 => exact s9_7); (case side2 => exact s9_8); rintro e w28 ⟨v447, rfl, ho0, hi, hb, hk⟩; refine ⟨_, rfl, ?_⟩; have n0_ := am (Kd.R_lower ho0 (keep_size (w := w) (g := g) (row := none) u9_1)); have n1_ := am (KeepBut.trans u9_1 hk (.inl rfl)); have n2_ := am (hb); have n3_ := am (hi); clear HK HB HI0; have HO448 := n0_; have HK := n1_; have HB := n2_; have HI0 := n3_; clear n0_ n1_ n2_ n3_; (try clear hb); (try clear hb2); (try clear hk); (try clear hi); (try clear ho0)) | ((with_reducible refine gate_callee (f := 110) rfl ?_); refine goesL_ (some 9) rfl rfl Try.func110 (by kernel_rfl) rfl #[.pointer (some ⟨g, 0, none⟩), .int .i64 12] rfl u9_0 ?_; (with_reducible refine (spec_l1Below.calls g s0_0 t449 t450 12 t451 t452 t453 w0 _ ?side1 ?side2 A3.out).mono ?_); (case side1 => exact s9_7); (case side2 => exact s9_8); rintro e w29 ⟨rfl, hi, hb, hk⟩; refine ⟨_, rfl, ?_⟩; have n0_ := am (Kd.R_mono (Kd.R_keep (IsS133.apart (show IsS133 w0 _ g s0_0 t449 t450 from by repeat (first | (with_reducible first | exact HI0.out | apply IsS133.alloc | apply IsS133.drewN | apply IsS133.drew | apply IsS133.set_1 | apply IsS133.set_2) | exact HI0.out)) u9_6 (by decide)) hk (fun _ h => h.2)) (fun _ h => h.1)); have n1_ := am (KeepBut.trans u9_1 hk (.inl rfl)); have n2_ := am (hb); have n3_ := am (hi); clear HO448 HK HB HI0; have HO448 := n0_; have HK := n1_; have HB := n2_; have HI0 := n3_; clear n0_ n1_ n2_ n3_; (try clear hb); (try clear hb2); (try clear hk); (try clear hi)))
    go_ret
    exact ⟨_, by first | rfl | (simp [*] <;> rfl), Kd.Q_of_R u9_6, s9_7, s9_8, s9_9⟩

def spec_l2Turns.f (s0_0 : List Int) (s0_1 : Int) (s0_2 : Int) : Option (Int × Int × Int) := (spec_l1Once.f s0_0 s0_1 s0_2 6).bind fun bt477 => (if bt477.1 = true then ((spec_l1Odd.f s0_0 bt477.2.1 bt477.2.2).bind fun bt480 => (some (bt480.1, bt480.2.1, bt480.2.2))) else ((spec_l1Below.f s0_0 bt477.2.1 bt477.2.2 12).bind fun bt483 => (some (wrap64 (bt483.1 - 5), bt483.2.1, bt483.2.2))))
set_option maxHeartbeats 8000000 in
set_option maxRecDepth 100000 in
theorem spec_l2Turns.calls (g : Nat) (s0_0 : List Int) (s0_1 : Int) (s0_2 : Int) (r1 : Int) (r2 : Int) (r3 : Int) (w0 w : World) (hI : IsS133 w0 w g s0_0 s0_1 s0_2) (hB : Below w0.heap.size w0 w) (h : spec_l2Turns.f s0_0 s0_1 s0_2 = some (r1, r2, r3)) :
  Calls Try.prog 90 #[.pointer (some ⟨g, 0, none⟩)] w fun e w' => e = .returned (.int .i64 r1) ∧ IsS133 w0 w' g s0_0 r2 r3 ∧ Below w0.heap.size w0 w' ∧ KeepBut w w' g none := by
 have HI0 := am hI
 have HK := am (KeepBut.refl w g none)
 have HL := am hB.size
 clear hI
 have HW0 := am hB.size
 have HB := am hB
 clear hB
 have H : ((spec_l1Once.f s0_0 s0_1 s0_2 6).bind fun bt477 => (if bt477.1 = true then ((spec_l1Odd.f s0_0 bt477.2.1 bt477.2.2).bind fun bt480 => (some (bt480.1, bt480.2.1, bt480.2.2))) else ((spec_l1Below.f s0_0 bt477.2.1 bt477.2.2 12).bind fun bt483 => (some (wrap64 (bt483.1 - 5), bt483.2.1, bt483.2.2))))) = some (r1, r2, r3) := h
 clear h
 replace H := Option.bind_eq_some_iff.mp H
 obtain ⟨⟨t477, t478, t479⟩, A20, H⟩ := H
 replace H : (if t477 = true then ((spec_l1Odd.f s0_0 t478 t479).bind fun bt480 => (some (bt480.1, bt480.2.1, bt480.2.2))) else ((spec_l1Below.f s0_0 t478 t479 12).bind fun bt483 => (some (wrap64 (bt483.1 - 5), bt483.2.1, bt483.2.2)))) = some (r1, r2, r3) := H
 have A2 := am A20
 clear A20
 by_cases c3 : t477 = true
 ·subst c3
  have H1 : ((spec_l1Odd.f s0_0 t478 t479).bind fun bt480 => (some (bt480.1, bt480.2.1, bt480.2.2))) = some (r1, r2, r3) := by rw [if_pos rfl] at H; exact H
  clear H
  have H := H1
  clear H1
  replace H := Option.bind_eq_some_iff.mp H
  obtain ⟨⟨t480, t481, t482⟩, A40, H⟩ := H
  replace H : (some (t480, t481, t482)) = some (r1, r2, r3) := H
  have A4 := am A40
  clear A40
  simp only [Option.some.injEq, Prod.mk.injEq] at H
  obtain ⟨rfl, rfl, rfl⟩ := H
  go_enter Try.func90, Try.ntmps90
  go_wp2_with (first | ((with_reducible refine gate_callee (f := 128) rfl ?_); refine goesL_ (some 4) rfl rfl Try.func128 (by kernel_rfl) rfl #[.pointer (some ⟨g, 0, none⟩), .int .i64 6] rfl u9_0 ?_; (with_reducible refine (spec_l1Once.calls g s0_0 s0_1 s0_2 6 true t478 t479 w0 _ ?side1 ?side2 A2.out).mono ?_); (case side1 => exact s9_7); (case side2 => exact s9_8); rintro e w5 ⟨rfl, hi, hb, hk⟩; refine ⟨_, rfl, ?_⟩; have n0_ := am (KeepBut.trans u9_1 hk (.inl rfl)); have n1_ := am (hb); have n2_ := am (hi); clear HK HB HI0; have HK := n0_; have HB := n1_; have HI0 := n2_; clear n0_ n1_ n2_; (try clear hb); (try clear hb2); (try clear hk); (try clear hi)) | ((with_reducible refine gate_callee (f := 113) rfl ?_); refine goesL_ (some 6) rfl rfl Try.func113 (by kernel_rfl) rfl #[.pointer (some ⟨g, 0, none⟩)] rfl u9_0 ?_; (with_reducible refine (spec_l1Odd.calls g s0_0 t478 t479 t480 t481 t482 w0 _ ?side1 ?side2 A4.out).mono ?_); (case side1 => exact s9_7); (case side2 => exact s9_8); rintro e w6 ⟨rfl, hi, hb, hk⟩; refine ⟨_, rfl, ?_⟩; have n0_ := am (KeepBut.trans u9_1 hk (.inl rfl)); have n1_ := am (hb); have n2_ := am (hi); clear HK HB HI0; have HK := n0_; have HB := n1_; have HI0 := n2_; clear n0_ n1_ n2_; (try clear hb); (try clear hb2); (try clear hk); (try clear hi)))
  go_ret
  exact ⟨by first | rfl | (simp [*] <;> rfl), s9_7, s9_8, s9_9⟩
 ·replace c3 := Bool.eq_false_iff.mpr c3
  subst c3
  have H1 : ((spec_l1Below.f s0_0 t478 t479 12).bind fun bt483 => (some (wrap64 (bt483.1 - 5), bt483.2.1, bt483.2.2))) = some (r1, r2, r3) := by rw [if_neg (show ¬ (false = true) by decide)] at H; exact H
  clear H
  have H := H1
  clear H1
  replace H := Option.bind_eq_some_iff.mp H
  obtain ⟨⟨t483, t484, t485⟩, A70, H⟩ := H
  replace H : (some (wrap64 (t483 - 5), t484, t485)) = some (r1, r2, r3) := H
  have A7 := am A70
  clear A70
  simp only [Option.some.injEq, Prod.mk.injEq] at H
  obtain ⟨rfl, rfl, rfl⟩ := H
  go_enter Try.func90, Try.ntmps90
  go_wp2_with (first | ((with_reducible refine gate_callee (f := 128) rfl ?_); refine goesL_ (some 4) rfl rfl Try.func128 (by kernel_rfl) rfl #[.pointer (some ⟨g, 0, none⟩), .int .i64 6] rfl u9_0 ?_; (with_reducible refine (spec_l1Once.calls g s0_0 s0_1 s0_2 6 false t478 t479 w0 _ ?side1 ?side2 A2.out).mono ?_); (case side1 => exact s9_7); (case side2 => exact s9_8); rintro e w8 ⟨rfl, hi, hb, hk⟩; refine ⟨_, rfl, ?_⟩; have n0_ := am (KeepBut.trans u9_1 hk (.inl rfl)); have n1_ := am (hb); have n2_ := am (hi); clear HK HB HI0; have HK := n0_; have HB := n1_; have HI0 := n2_; clear n0_ n1_ n2_; (try clear hb); (try clear hb2); (try clear hk); (try clear hi)) | ((with_reducible refine gate_callee (f := 110) rfl ?_); refine goesL_ (some 8) rfl rfl Try.func110 (by kernel_rfl) rfl #[.pointer (some ⟨g, 0, none⟩), .int .i64 12] rfl u9_0 ?_; (with_reducible refine (spec_l1Below.calls g s0_0 t478 t479 12 t483 t484 t485 w0 _ ?side1 ?side2 A7.out).mono ?_); (case side1 => exact s9_7); (case side2 => exact s9_8); rintro e w9 ⟨rfl, hi, hb, hk⟩; refine ⟨_, rfl, ?_⟩; have n0_ := am (KeepBut.trans u9_1 hk (.inl rfl)); have n1_ := am (hb); have n2_ := am (hi); clear HK HB HI0; have HK := n0_; have HB := n1_; have HI0 := n2_; clear n0_ n1_ n2_; (try clear hb); (try clear hb2); (try clear hk); (try clear hi)))
  go_ret
  exact ⟨by first | rfl | (simp [*] <;> rfl), s9_7, s9_8, s9_9⟩

def spec_DrawTurnRig.f (k : Nat) (l0 : List Int) : Option ((List (S87)) × Int) := (spec_l1New.f k l0).bind fun bt486 => ((spec_l6List.f k bt486.1 bt486.2.1 bt486.2.2).bind fun bt490 => ((spec_l2Turns.f bt486.1 bt490.2.1 bt490.2.2).bind fun bt495 => (some (bt490.1, bt495.1))))
theorem spec_DrawTurnRig.mono : ∀ a0 k, LeO (spec_DrawTurnRig.f k a0) (spec_DrawTurnRig.f (k + 1) a0) := by
 intro a0 k
 unfold spec_DrawTurnRig.f
 repeat' first
   | (with_reducible exact spec_l1New.mono _ _)
   | (with_reducible exact spec_l6List.mono _ _ _ _)
   | (with_reducible exact LeO.refl _)
   | (with_reducible exact LeO.none _)
   | (with_reducible refine LeO.ite ?_ ?_)
   | (with_reducible refine LeO.bind ?_ (fun _ => ?_))
set_option maxHeartbeats 8000000 in
set_option maxRecDepth 100000 in
theorem spec_DrawTurnRig.calls (k : Nat) (A0 : Option Addr) (c0 : Nat) (l0 : List Int) (r1 : List (S87)) (r2 : Int) (w : World) (hr0 : Kd.C (Kd.int .u8) w A0 l0.length l0) (hc0 : l0.length ≤ c0) (h : spec_DrawTurnRig.f k l0 = some (r1, r2)) :
  Calls Try.prog 48 #[.slice A0 l0.length c0] w fun e w' => ∃ v0_ : Value, e = .returned (.tuple #[v0_, .int .i64 r2]) ∧ Kd.Q k87 87 w' w.heap.size (fun _ => True) v0_ r1 ∧ Below w.heap.size w w' := by
 have HR0 := am hr0
 have HC0 := am hc0
 clear hr0 hc0
 have HB := am (Below.refl w.heap.size w)
 have H : ((spec_l1New.f k l0).bind fun bt486 => ((spec_l6List.f k bt486.1 bt486.2.1 bt486.2.2).bind fun bt490 => ((spec_l2Turns.f bt486.1 bt490.2.1 bt490.2.2).bind fun bt495 => (some (bt490.1, bt495.1))))) = some (r1, r2) := h
 clear h
 replace H := Option.bind_eq_some_iff.mp H
 obtain ⟨⟨t486, t487, t488⟩, A20, H⟩ := H
 replace H : ((spec_l6List.f k t486 t487 t488).bind fun bt490 => ((spec_l2Turns.f t486 bt490.2.1 bt490.2.2).bind fun bt495 => (some (bt490.1, bt495.1)))) = some (r1, r2) := H
 have A2 := am A20
 clear A20
 replace H := Option.bind_eq_some_iff.mp H
 obtain ⟨⟨t490, t493, t494⟩, A30, H⟩ := H
 replace H : ((spec_l2Turns.f t486 t493 t494).bind fun bt495 => (some (t490, bt495.1))) = some (r1, r2) := H
 have A3 := am A30
 clear A30
 replace H := Option.bind_eq_some_iff.mp H
 obtain ⟨⟨t495, t496, t497⟩, A40, H⟩ := H
 replace H : (some (t490, t495)) = some (r1, r2) := H
 have A4 := am A40
 clear A40
 simp only [Option.some.injEq, Prod.mk.injEq] at H
 obtain ⟨rfl, rfl⟩ := H
 go_enter Try.func48, Try.ntmps48
 go_wp2_with (first | ((with_reducible refine gate_callee (f := 66) rfl ?_); refine goesL_ (some 6) rfl rfl Try.func66 (by kernel_rfl) rfl #[.slice A0 l0.length c0] rfl u9_0 ?_; (with_reducible refine (spec_l1New.calls k _ _ l0 t486 t487 t488 w _ ?side1 ?side2 ?side3 A2.out).mono ?_); (case side1 => repeat (first | (with_reducible first | exact HB.out | apply below_alloc | apply pw_below_drewN | apply below_drew1) | exact HB.out)); (case side2 => exact HR0.out); (case side3 => exact HC0.out); rintro e w5 ⟨g489, rfl, hi, hb, hb2⟩; refine ⟨_, rfl, ?_⟩; have n0_ := am (hb); have n1_ := am (hi); clear HB; have HB := n0_; have HI489 := n1_; clear n0_ n1_; (try clear hb); (try clear hb2); (try clear hk); (try clear hi)) | ((with_reducible refine gate_callee (f := 89) rfl ?_); refine goesL_ (some 8) rfl rfl Try.func89 (by kernel_rfl) rfl #[.pointer (some ⟨g489, 0, none⟩)] rfl u9_0 ?_; (with_reducible refine (spec_l6List.calls k g489 t486 t487 t488 t490 t493 t494 w _ ?side1 ?side2 A3.out).mono ?_); (case side1 => exact s9_5); (case side2 => exact s9_6); rintro e w6 ⟨v491, rfl, ho0, hi, hb, hk⟩; refine ⟨_, rfl, ?_⟩; have n0_ := am (Kd.Q_lower ho0 (below_size (by repeat (first | (with_reducible first | exact HB.out | apply below_alloc | apply pw_below_drewN | apply below_drew1 | refine below_set ?_ (IsS133.ge HI489.out)) | exact HB.out)))); have n1_ := am (hb); have n2_ := am (hi); clear HB HI489; have HO492 := n0_; have HB := n1_; have HI489 := n2_; clear n0_ n1_ n2_; (try clear hb); (try clear hb2); (try clear hk); (try clear hi); (try clear ho0)) | ((with_reducible refine gate_callee (f := 90) rfl ?_); refine goesL_ (some 10) rfl rfl Try.func90 (by kernel_rfl) rfl #[.pointer (some ⟨g489, 0, none⟩)] rfl u9_0 ?_; (with_reducible refine (spec_l2Turns.calls g489 t486 t493 t494 t495 t496 t497 w _ ?side1 ?side2 A4.out).mono ?_); (case side1 => exact s9_5); (case side2 => exact s9_6); rintro e w7 ⟨rfl, hi, hb, hk⟩; refine ⟨_, rfl, ?_⟩; have n0_ := am (Kd.Q_mono (Kd.Q_keep (IsS133.apartQ (show IsS133 w _ g489 t486 t493 t494 from by repeat (first | (with_reducible first | exact HI489.out | apply IsS133.alloc | apply IsS133.drewN | apply IsS133.drew | apply IsS133.set_1 | apply IsS133.set_2) | exact HI489.out)) (by (with_reducible repeat (first | apply Kd.Q_alloc | apply Kd.Q_drewN | apply Kd.Q_drew)); exact HO492.out) (by decide)) hk (fun _ h => h.2)) (fun _ h => h.1)); have n1_ := am (hb); have n2_ := am (hi); clear HO492 HB HI489; have HO492 := n0_; have HB := n1_; have HI489 := n2_; clear n0_ n1_ n2_; (try clear hb); (try clear hb2); (try clear hk); (try clear hi)))
 go_ret2
 exact ⟨_, by first | rfl | (simp [*] <;> rfl), by (with_reducible repeat (first | apply Kd.Q_alloc | apply Kd.Q_drewN | apply Kd.Q_drew)); exact HO492.out, s9_6⟩

end Go.Proofs.Ytkljnmojnkiafaa.MFnMovedRig
