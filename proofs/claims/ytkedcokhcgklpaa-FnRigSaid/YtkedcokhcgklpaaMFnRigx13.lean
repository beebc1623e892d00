-- Written by a program for this claim.
import Derived.Test.YtkedcokhcgklpaaMFnRigx0
import Derived.Test.YtkedcokhcgklpaaMFnRigx6
import Derived.Test.YtkedcokhcgklpaaMFnRigx10
import Derived.Test.YtkedcokhcgklpaaMFnRigx11
import Derived.Test.YtkedcokhcgklpaaMFnRigx12
namespace Go.Proofs.Ytkedcokhcgklpaa.MFnRig
open Go.RowKit Go.Proofs.YtkedcokhcgklpaaW.PrintWords Go.Proofs.YtkedcokhcgklpaaW.PrintLast Go.Proofs.YtkedcokhcgklpaaW.PrintMore
attribute [local go_sem] max2_int min2_int max_two min_two max_three min_three max_four min_four   -- for this text's walks alone
set_option linter.unusedVariables false
set_option linter.unusedSimpArgs false

theorem s13_0 {p : Prop} (h : p := by repeat (first | (with_reducible first | exact HI0.out | apply IsS95.alloc | apply IsS95.drewN | apply IsS95.drew | apply IsS95.set_1 | apply IsS95.set_2 | refine IsS95.far ?_ NB0_457.out _ | refine IsS95.far ?_ NB0_474.out _) | exact HI0.out)) : p := h
theorem s13_1 {p : Prop} (h : p := by repeat (first | (with_reducible first | exact HB.out | apply below_alloc | apply pw_below_drewN | apply below_drew1 | refine below_set ?_ (IsS95.ge HI0.out) | refine below_set ?_ GE457.out | refine below_set ?_ GE474.out) | exact HB.out)) : p := h
theorem s13_2 {p : Prop} (h : p := by repeat (first | (with_reducible first | exact HK.out | apply KeepBut.set_ | apply keep_drewN | apply keep_drew | apply keep_alloc | refine keep_far ?_ GW457.out _ | refine keep_far ?_ GW474.out _) | exact HK.out)) : p := h
theorem s13_3 {p : Prop} (h : p := by repeat (first | (with_reducible first | exact HI551.out | apply IsS95.alloc | apply IsS95.drewN | apply IsS95.drew | apply IsS95.set_1 | apply IsS95.set_2 | refine IsS95.far ?_ NB551_547.out _) | exact HI551.out)) : p := h
theorem s13_4 {p : Prop} (h : p := by repeat (first | (with_reducible first | exact HB.out | apply below_alloc | apply pw_below_drewN | apply below_drew1 | refine below_set ?_ (IsS95.ge HI551.out) | refine below_set ?_ GE547.out) | exact HB.out)) : p := h
theorem s13_5 {p : Prop} (h : p := by repeat (first | (with_reducible first | exact HI0.out | apply IsS95.alloc | apply IsS95.drewN | apply IsS95.drew | apply IsS95.set_1 | apply IsS95.set_2 | refine IsS95.far ?_ NB0_457.out _) | exact HI0.out)) : p := h
theorem s13_6 {p : Prop} (h : p := by repeat (first | (with_reducible first | exact HB.out | apply below_alloc | apply pw_below_drewN | apply below_drew1 | refine below_set ?_ (IsS95.ge HI0.out) | refine below_set ?_ GE457.out) | exact HB.out)) : p := h
theorem s13_7 {p : Prop} (h : p := by repeat (first | (with_reducible first | exact HB.out | apply below_alloc | apply pw_below_drewN | apply below_drew1 | refine below_set ?_ (IsS95.ge HI0.out)) | exact HB.out)) : p := h
theorem s13_8 {p : Prop} (h : p := by repeat (first | (with_reducible first | exact HI0.out | apply IsS95.alloc | apply IsS95.drewN | apply IsS95.drew | apply IsS95.set_1 | apply IsS95.set_2) | exact HI0.out)) : p := h
theorem s13_9 {p : Prop} (h : p := by repeat (first | (with_reducible first | exact HK.out | apply KeepBut.set_ | apply keep_drewN | apply keep_drew | apply keep_alloc) | exact HK.out)) : p := h
theorem u13_0 {p : Prop} (h : p := by (try simp only [List.map_toArray, List.map_cons, List.map_nil]); first | done | rfl | (simp only [List.length_drop, List.length_take]; rfl)) : p := h
theorem u13_1 {p : Prop} (h : p := by repeat (first | (with_reducible first | exact HK.out | apply KeepBut.set_ | apply keep_drewN | apply keep_drew | apply keep_alloc) | exact HK.out)) : p := h
theorem u13_2 {p : Prop} (h : p := by repeat (first | (with_reducible first | exact HK.out | apply KeepBut.set_ | apply keep_drewN | apply keep_drew | apply keep_alloc | refine keep_far ?_ GW457.out _ | refine keep_far ?_ GW474.out _) | exact HK.out)) : p := h
theorem u13_3 {p : Prop} (h : p := by (with_reducible repeat (first | refine blk_drewN ?_ _ | refine blk_drew ?_ | refine blk_alloc ?_ _)); exact BK457.out) : p := h
theorem u13_4 {p : Prop} (h : p := by (with_reducible repeat (first | refine blk_drewN ?_ _ | refine blk_drew ?_ | refine blk_alloc ?_ _)); exact BK474.out) : p := h
theorem u13_5 {p : Prop} (h : p := by repeat (first | (with_reducible first | exact HK.out | apply KeepBut.set_ | apply keep_drewN | apply keep_drew | apply keep_alloc | refine keep_far ?_ GW457.out _) | exact HK.out)) : p := h
theorem u13_6 {p : Prop} (h : p := by (with_reducible repeat (first | apply Kd.R_alloc | apply Kd.R_drewN | apply Kd.R_drew)); exact HO518.out) : p := h
theorem u13_7 {p : Prop} (h : p := by (with_reducible repeat (first | refine blk_drewN ?_ _ | refine blk_drew ?_ | refine blk_alloc ?_ _)); exact BK547.out) : p := h
theorem u13_8 {p : Prop} (h : p := by repeat (first | (with_reducible first | exact HB.out | apply below_alloc | apply pw_below_drewN | apply below_drew1 | refine below_set ?_ (IsS95.ge HI0.out)) | exact HB.out)) : p := h
theorem u13_9 {p : Prop} (h : p := by repeat (first | (with_reducible first | exact HI0.out | apply IsS95.alloc | apply IsS95.drewN | apply IsS95.drew | apply IsS95.set_1 | apply IsS95.set_2) | exact HI0.out)) : p := h
theorem u13_10 {p : Prop} (h : p := by repeat (first | (with_reducible first | exact HB.out | apply below_alloc | apply pw_below_drewN | apply below_drew1) | exact HB.out)) : p := h
theorem u13_11 {p : Prop} (h : p := by first | rfl | (simp; done) | (simp [*]; done)) : p := h
theorem u13_12 {p : Prop} (h : p := by simp) : p := h
mutual
def spec_l6Any.j2 : Nat → List Int → Int → Int → ByteArray → Int → ByteArray → Int → Int → Int → Int → Int → Option (ByteArray × Int × ByteArray × Int × Int × Int × Int × Int × Int × Int)
 | 0, _, _, _, _, _, _, _, _, _, _, _ => none
 | k + 1, x1000, x1001, x1002, x475000, x475001, x475002, x475003, x475004, x475005, x475006, x475007 => (spec_l1Below.f x1000 x1001 x1002 12).bind fun bt500 => (if bt500.1 = 0 then ((spec_l1Word.f x1000 bt500.2.1 bt500.2.2).bind fun bt503 => (some (bt503.1, x475001, x475002, x475003, x475004, x475005, x475006, x475007, bt503.2.1, bt503.2.2))) else (if bt500.1 = 1 then ((spec_l1Odd.f x1000 bt500.2.1 bt500.2.2).bind fun bt506 => (some (x475000, x475001, x475002, x475003, x475004, x475005, bt506.1, x475007, bt506.2.1, bt506.2.2))) else (if bt500.1 = 2 then ((spec_l3Any.f k x1000 bt500.2.1 bt500.2.2).bind fun bt509 => (some (x475000, x475001, x475002, bt509.1, bt509.2.1, x475005, x475006, x475007, bt509.2.2.2.2.2.1, bt509.2.2.2.2.2.2))) else (some (x475000, x475001, x475002, x475003, x475004, x475005, x475006, x475007, bt500.2.1, bt500.2.2)))))
def spec_l6Any.j0 : Nat → Int → Bool → List Int → Int → Int → ByteArray → Int → ByteArray → Int → Int → Int → Int → Int → Option (ByteArray × Int × ByteArray × Int × Int × Int × Int × Int × Int × Int)
 | 0, _, _, _, _, _, _, _, _, _, _, _, _, _ => none
 | k + 1, x11, x12, x1000, x1001, x1002, x475000, x475001, x475002, x475003, x475004, x475005, x475006, x475007 => if x12 = true then ((spec_l6Name.f x1000 x1001 x1002).bind fun bt478 => ((spec_l1Below.f x1000 bt478.2.1 bt478.2.2 600).bind fun bt481 => (spec_l6Any.j2 k x1000 bt481.2.1 bt481.2.2 bt478.1 1 (⟨#[]⟩ : ByteArray) 0 0 0 0 bt481.1))) else (if x11 = 2 then (spec_l6Any.j1 k x11 (x11 == 2) x1000 x1001 x1002 x475000 x475001 x475002 x475003 x475004 x475005 x475006 x475007) else (spec_l6Any.j1 k x11 (x11 == 3) x1000 x1001 x1002 x475000 x475001 x475002 x475003 x475004 x475005 x475006 x475007))
def spec_l6Any.j1 : Nat → Int → Bool → List Int → Int → Int → ByteArray → Int → ByteArray → Int → Int → Int → Int → Int → Option (ByteArray × Int × ByteArray × Int × Int × Int × Int × Int × Int × Int)
 | 0, _, _, _, _, _, _, _, _, _, _, _, _, _ => none
 | k + 1, x11, x20, x1000, x1001, x1002, x475000, x475001, x475002, x475003, x475004, x475005, x475006, x475007 => if x20 = true then ((spec_l6Name.f x1000 x1001 x1002).bind fun bt484 => ((spec_l6Name.f x1000 bt484.2.1 bt484.2.2).bind fun bt487 => ((spec_l2Any.f k x1000 bt487.2.1 bt487.2.2).bind fun bt490 => (spec_l6Any.j2 k x1000 bt490.2.2.1 bt490.2.2.2 bt484.1 3 bt487.1 bt490.1 bt490.2.1 0 0 0)))) else (if x11 = 4 then ((spec_l1Odd.f x1000 x1001 x1002).bind fun bt494 => (spec_l6Any.j2 k x1000 bt494.2.1 bt494.2.2 x475000 x475001 x475002 x475003 x475004 x475005 x475006 bt494.1)) else (if x11 = 5 then ((spec_l1Odd.f x1000 x1001 x1002).bind fun bt497 => (spec_l6Any.j2 k x1000 bt497.2.1 bt497.2.2 x475000 bt497.1 x475002 x475003 x475004 x475005 x475006 x475007)) else (spec_l6Any.j2 k x1000 x1001 x1002 x475000 x475001 x475002 x475003 x475004 x475005 x475006 x475007)))
end
def spec_l6Any.f (k : Nat) (s0_0 : List Int) (s0_1 : Int) (s0_2 : Int) : Option (ByteArray × Int × ByteArray × Int × Int × Int × Int × Int × Int × Int) := (spec_l6Name.f s0_0 s0_1 s0_2).bind fun bt458 => ((spec_l6Name.f s0_0 bt458.2.1 bt458.2.2).bind fun bt461 => ((spec_l6Nozzle.f s0_0 bt461.2.1 bt461.2.2 bt458.1 bt461.1).bind fun bt464 => ((spec_l1Below.f s0_0 bt464.2.2.2.2.2.2.2.2.1 bt464.2.2.2.2.2.2.2.2.2 9).bind fun bt475 => (if bt475.1 = 0 then (spec_l6Any.j0 k bt475.1 (bt475.1 == 0) s0_0 bt475.2.1 bt475.2.2 bt464.1 bt464.2.1 bt464.2.2.1 bt464.2.2.2.1 bt464.2.2.2.2.1 bt464.2.2.2.2.2.1 bt464.2.2.2.2.2.2.1 bt464.2.2.2.2.2.2.2.1) else (spec_l6Any.j0 k bt475.1 (bt475.1 == 1) s0_0 bt475.2.1 bt475.2.2 bt464.1 bt464.2.1 bt464.2.2.1 bt464.2.2.2.1 bt464.2.2.2.2.1 bt464.2.2.2.2.2.1 bt464.2.2.2.2.2.2.1 bt464.2.2.2.2.2.2.2.1)))))
theorem spec_l6Any.mono_l : ∀ k, (∀ y0 y1 y2 y3 y4 y5 y6 y7 y8 y9 y10, LeO (spec_l6Any.j2 k y0 y1 y2 y3 y4 y5 y6 y7 y8 y9 y10) (spec_l6Any.j2 (k + 1) y0 y1 y2 y3 y4 y5 y6 y7 y8 y9 y10)) ∧ (∀ y0 y1 y2 y3 y4 y5 y6 y7 y8 y9 y10 y11 y12, LeO (spec_l6Any.j0 k y0 y1 y2 y3 y4 y5 y6 y7 y8 y9 y10 y11 y12) (spec_l6Any.j0 (k + 1) y0 y1 y2 y3 y4 y5 y6 y7 y8 y9 y10 y11 y12)) ∧ (∀ y0 y1 y2 y3 y4 y5 y6 y7 y8 y9 y10 y11 y12, LeO (spec_l6Any.j1 k y0 y1 y2 y3 y4 y5 y6 y7 y8 y9 y10 y11 y12) (spec_l6Any.j1 (k + 1) y0 y1 y2 y3 y4 y5 y6 y7 y8 y9 y10 y11 y12))
 | 0 => ⟨fun _ _ _ _ _ _ _ _ _ _ _ r h => by simp [spec_l6Any.j2] at h, fun _ _ _ _ _ _ _ _ _ _ _ _ _ r h => by simp [spec_l6Any.j0] at h, fun _ _ _ _ _ _ _ _ _ _ _ _ _ r h => by simp [spec_l6Any.j1] at h⟩
 | k + 1 => by
  obtain ⟨ih0, ih1, ih2⟩ := spec_l6Any.mono_l k
  refine ⟨?_, ?_, ?_⟩
  ·intro y0 y1 y2 y3 y4 y5 y6 y7 y8 y9 y10
   unfold spec_l6Any.j2
   repeat' first
   | (with_reducible exact ih0 _ _ _ _ _ _ _ _ _ _ _)
   | (with_reducible exact ih1 _ _ _ _ _ _ _ _ _ _ _ _ _)
   | (with_reducible exact ih2 _ _ _ _ _ _ _ _ _ _ _ _ _)
   | (with_reducible exact spec_l2Any.mono _ _ _ _)
   | (with_reducible exact spec_l3Any.mono _ _ _ _)
   | (with_reducible exact LeO.refl _)
   | (with_reducible exact LeO.none _)
   | (with_reducible refine LeO.ite ?_ ?_)
   | (with_reducible refine LeO.bind ?_ (fun _ => ?_))
  ·intro y0 y1 y2 y3 y4 y5 y6 y7 y8 y9 y10 y11 y12
   unfold spec_l6Any.j0
   repeat' first
   | (with_reducible exact ih0 _ _ _ _ _ _ _ _ _ _ _)
   | (with_reducible exact ih1 _ _ _ _ _ _ _ _ _ _ _ _ _)
   | (with_reducible exact ih2 _ _ _ _ _ _ _ _ _ _ _ _ _)
   | (with_reducible exact spec_l2Any.mono _ _ _ _)
   | (with_reducible exact spec_l3Any.mono _ _ _ _)
   | (with_reducible exact LeO.refl _)
   | (with_reducible exact LeO.none _)
   | (with_reducible refine LeO.ite ?_ ?_)
   | (with_reducible refine LeO.bind ?_ (fun _ => ?_))
  ·intro y0 y1 y2 y3 y4 y5 y6 y7 y8 y9 y10 y11 y12
   unfold spec_l6Any.j1
   repeat' first
   | (with_reducible exact ih0 _ _ _ _ _ _ _ _ _ _ _)
   | (with_reducible exact ih1 _ _ _ _ _ _ _ _ _ _ _ _ _)
   | (with_reducible exact ih2 _ _ _ _ _ _ _ _ _ _ _ _ _)
   | (with_reducible exact spec_l2Any.mono _ _ _ _)
   | (with_reducible exact spec_l3Any.mono _ _ _ _)
   | (with_reducible exact LeO.refl _)
   | (with_reducible exact LeO.none _)
   | (with_reducible refine LeO.ite ?_ ?_)
   | (with_reducible refine LeO.bind ?_ (fun _ => ?_))
theorem spec_l6Any.mono : ∀ a0 a1 a2 k, LeO (spec_l6Any.f k a0 a1 a2) (spec_l6Any.f (k + 1) a0 a1 a2) := by
 intro a0 a1 a2 k
 obtain ⟨ih0, ih1, ih2⟩ := spec_l6Any.mono_l k
 unfold spec_l6Any.f
 repeat' first
   | (with_reducible exact ih0 _ _ _ _ _ _ _ _ _ _ _)
   | (with_reducible exact ih1 _ _ _ _ _ _ _ _ _ _ _ _ _)
   | (with_reducible exact ih2 _ _ _ _ _ _ _ _ _ _ _ _ _)
   | (with_reducible exact spec_l2Any.mono _ _ _ _)
   | (with_reducible exact spec_l3Any.mono _ _ _ _)
   | (with_reducible exact LeO.refl _)
   | (with_reducible exact LeO.none _)
   | (with_reducible refine LeO.ite ?_ ?_)
   | (with_reducible refine LeO.bind ?_ (fun _ => ?_))
set_option maxHeartbeats 8000000 in
set_option maxRecDepth 100000 in
theorem spec_l6Any.calls (k : Nat) (g : Nat) (s0_0 : List Int) (s0_1 : Int) (s0_2 : Int) (r1 : ByteArray) (r2 : Int) (r3 : ByteArray) (r4 : Int) (r5 : Int) (r6 : Int) (r7 : Int) (r8 : Int) (r9 : Int) (r10 : Int) (w0 w : World) (hI : IsS95 w0 w g s0_0 s0_1 s0_2) (hB : Below w0.heap.size w0 w) (h : spec_l6Any.f k s0_0 s0_1 s0_2 = some (r1, r2, r3, r4, r5, r6, r7, r8, r9, r10)) :
  Calls Try.prog 78 #[.pointer (some ⟨g, 0, none⟩)] w fun e w' => e = .returned (.agg #[.string r1, .int .i64 r2, .string r3, .int .i64 r4, .int .i64 r5, .int .i64 r6, .int .i64 r7, .int .i64 r8]) ∧ IsS95 w0 w' g s0_0 r9 r10 ∧ Below w0.heap.size w0 w' ∧ KeepBut w w' g none := by
 have hu71 := Try.underlying71   -- l6Any field
 have hu30 := Try.underlying30
 have hu28 := Try.underlying28
 have HI0 := Aside0.mk hI
 have HK := Aside0.mk (KeepBut.refl w g none)
 have HL := Aside0.mk hB.size
 clear hI
 have HW0 := Aside0.mk hB.size
 have HB := Aside0.mk hB
 clear hB
 have H : ((spec_l6Name.f s0_0 s0_1 s0_2).bind fun bt458 => ((spec_l6Name.f s0_0 bt458.2.1 bt458.2.2).bind fun bt461 => ((spec_l6Nozzle.f s0_0 bt461.2.1 bt461.2.2 bt458.1 bt461.1).bind fun bt464 => ((spec_l1Below.f s0_0 bt464.2.2.2.2.2.2.2.2.1 bt464.2.2.2.2.2.2.2.2.2 9).bind fun bt475 => (if bt475.1 = 0 then (spec_l6Any.j0 k bt475.1 (bt475.1 == 0) s0_0 bt475.2.1 bt475.2.2 bt464.1 bt464.2.1 bt464.2.2.1 bt464.2.2.2.1 bt464.2.2.2.2.1 bt464.2.2.2.2.2.1 bt464.2.2.2.2.2.2.1 bt464.2.2.2.2.2.2.2.1) else (spec_l6Any.j0 k bt475.1 (bt475.1 == 1) s0_0 bt475.2.1 bt475.2.2 bt464.1 bt464.2.1 bt464.2.2.1 bt464.2.2.2.1 bt464.2.2.2.2.1 bt464.2.2.2.2.2.1 bt464.2.2.2.2.2.2.1 bt464.2.2.2.2.2.2.2.1)))))) = some (r1, r2, r3, r4, r5, r6, r7, r8, r9, r10) := h
 clear h
 replace H := Option.bind_eq_some_iff.mp H
 obtain ⟨⟨t458, t459, t460⟩, A20, H⟩ := H
 replace H : ((spec_l6Name.f s0_0 t459 t460).bind fun bt461 => ((spec_l6Nozzle.f s0_0 bt461.2.1 bt461.2.2 t458 bt461.1).bind fun bt464 => ((spec_l1Below.f s0_0 bt464.2.2.2.2.2.2.2.2.1 bt464.2.2.2.2.2.2.2.2.2 9).bind fun bt475 => (if bt475.1 = 0 then (spec_l6Any.j0 k bt475.1 (bt475.1 == 0) s0_0 bt475.2.1 bt475.2.2 bt464.1 bt464.2.1 bt464.2.2.1 bt464.2.2.2.1 bt464.2.2.2.2.1 bt464.2.2.2.2.2.1 bt464.2.2.2.2.2.2.1 bt464.2.2.2.2.2.2.2.1) else (spec_l6Any.j0 k bt475.1 (bt475.1 == 1) s0_0 bt475.2.1 bt475.2.2 bt464.1 bt464.2.1 bt464.2.2.1 bt464.2.2.2.1 bt464.2.2.2.2.1 bt464.2.2.2.2.2.1 bt464.2.2.2.2.2.2.1 bt464.2.2.2.2.2.2.2.1))))) = some (r1, r2, r3, r4, r5, r6, r7, r8, r9, r10) := H
 have A2 := Aside0.mk A20
 clear A20
 replace H := Option.bind_eq_some_iff.mp H
 obtain ⟨⟨t461, t462, t463⟩, A30, H⟩ := H
 replace H : ((spec_l6Nozzle.f s0_0 t462 t463 t458 t461).bind fun bt464 => ((spec_l1Below.f s0_0 bt464.2.2.2.2.2.2.2.2.1 bt464.2.2.2.2.2.2.2.2.2 9).bind fun bt475 => (if bt475.1 = 0 then (spec_l6Any.j0 k bt475.1 (bt475.1 == 0) s0_0 bt475.2.1 bt475.2.2 bt464.1 bt464.2.1 bt464.2.2.1 bt464.2.2.2.1 bt464.2.2.2.2.1 bt464.2.2.2.2.2.1 bt464.2.2.2.2.2.2.1 bt464.2.2.2.2.2.2.2.1) else (spec_l6Any.j0 k bt475.1 (bt475.1 == 1) s0_0 bt475.2.1 bt475.2.2 bt464.1 bt464.2.1 bt464.2.2.1 bt464.2.2.2.1 bt464.2.2.2.2.1 bt464.2.2.2.2.2.1 bt464.2.2.2.2.2.2.1 bt464.2.2.2.2.2.2.2.1)))) = some (r1, r2, r3, r4, r5, r6, r7, r8, r9, r10) := H
 have A3 := Aside0.mk A30
 clear A30
 replace H := Option.bind_eq_some_iff.mp H
 obtain ⟨⟨t464, t465, t466, t467, t468, t469, t470, t471, t472, t473⟩, A40, H⟩ := H
 replace H : ((spec_l1Below.f s0_0 t472 t473 9).bind fun bt475 => (if bt475.1 = 0 then (spec_l6Any.j0 k bt475.1 (bt475.1 == 0) s0_0 bt475.2.1 bt475.2.2 t464 t465 t466 t467 t468 t469 t470 t471) else (spec_l6Any.j0 k bt475.1 (bt475.1 == 1) s0_0 bt475.2.1 bt475.2.2 t464 t465 t466 t467 t468 t469 t470 t471))) = some (r1, r2, r3, r4, r5, r6, r7, r8, r9, r10) := H
 have A4 := Aside0.mk A40
 clear A40
 replace H := Option.bind_eq_some_iff.mp H
 obtain ⟨⟨t475, t476, t477⟩, A50, H⟩ := H
 replace H : (if t475 = 0 then (spec_l6Any.j0 k t475 (t475 == 0) s0_0 t476 t477 t464 t465 t466 t467 t468 t469 t470 t471) else (spec_l6Any.j0 k t475 (t475 == 1) s0_0 t476 t477 t464 t465 t466 t467 t468 t469 t470 t471)) = some (r1, r2, r3, r4, r5, r6, r7, r8, r9, r10) := H
 have A5 := Aside0.mk A50
 clear A50
 have HC6 := Aside0.mk H
 clear H
 go_enter Try.func78, Try.ntmps78
 go_upto_block 0 with (first | ((with_reducible refine gate_dst (N := 2) rfl ?_); refine box_event ?hg (N := 2) ?hd (cs := #[.string (⟨#[]⟩ : ByteArray), .int .i64 0, .string (⟨#[]⟩ : ByteArray), .int .i64 0, .int .i64 0, .int .i64 0, .int .i64 0, .int .i64 0]) (t := 30) ?hr ?_; (case hd => rfl); (case hg => rfl); (case hr => exact gq); intro gb457 hg w7 hbox hb; have n0_ := Aside0.mk (IsS95.below u13_9 hb); have n1_ := Aside0.mk (KeepBut.trans u13_1 (KeepBut.of_below hb g none) (.inl rfl)); have n2_ := Aside0.mk (below_step u13_8 hb); have n3_ := Aside0.mk (hbox); have n4_ := Aside0.mk ((by rw [hg]; exact (keep_size (w := w) (g := g) (row := none) u13_1) : w.heap.size ≤ gb457)); have n5_ := Aside0.mk ((Nat.le_trans HW0.out (by rw [hg]; exact (keep_size (w := w) (g := g) (row := none) u13_1) : w.heap.size ≤ gb457) : w0.heap.size ≤ gb457)); have n6_ := Aside0.mk ((by rw [hg]; exact Nat.ne_of_lt (IsS95.lt (show IsS95 w0 _ g s0_0 s0_1 s0_2 from by repeat (first | (with_reducible first | exact HI0.out | apply IsS95.alloc | apply IsS95.drewN | apply IsS95.drew | apply IsS95.set_1 | apply IsS95.set_2) | exact HI0.out))) : g ≠ gb457)); have n7_ := Aside0.mk ((by rw [hg]; exact Nat.ne_of_gt (IsS95.lt (show IsS95 w0 _ g s0_0 s0_1 s0_2 from by repeat (first | (with_reducible first | exact HI0.out | apply IsS95.alloc | apply IsS95.drewN | apply IsS95.drew | apply IsS95.set_1 | apply IsS95.set_2) | exact HI0.out))) : gb457 ≠ g)); clear HI0; clear HK; clear HB; have HI0 := n0_; have HK := n1_; have HB := n2_; have BK457 := n3_; have GW457 := n4_; have GE457 := n5_; have NB0_457 := n6_; have NB457_0 := n7_; clear n0_ n1_ n2_ n3_ n4_ n5_ n6_ n7_; clear hb hbox hg) | ((with_reducible refine gate_callee (f := 96) rfl ?_); refine goesL_ (some 6) rfl rfl Try.func96 (by kernel_rfl) rfl #[.pointer (some ⟨g, 0, none⟩)] rfl u13_0 ?_; (with_reducible refine (spec_l6Name.calls g s0_0 s0_1 s0_2 t458 t459 t460 w0 _ ?side1 ?side2 A2.out).mono ?_); (case side1 => exact s13_5); (case side2 => exact s13_6); rintro e w8 ⟨rfl, hi, hb, hk⟩; refine ⟨_, rfl, ?_⟩; have n0_ := Aside0.mk (KeepBut.blk hk (g' := gb457) (o := .cells #[.string (⟨#[]⟩ : ByteArray), .int .i64 0, .string (⟨#[]⟩ : ByteArray), .int .i64 0, .int .i64 0, .int .i64 0, .int .i64 0, .int .i64 0] 30 (0, 0)) u13_3 NB457_0.out u13_12); have n1_ := Aside0.mk (KeepBut.trans u13_5 hk (.inl rfl)); have n2_ := Aside0.mk (hb); have n3_ := Aside0.mk (hi); clear BK457; clear HK; clear HB; clear HI0; have BK457 := n0_; have HK := n1_; have HB := n2_; have HI0 := n3_; clear n0_ n1_ n2_ n3_; (try clear hb); (try clear hb2); (try clear hk); (try clear hi)) | ((with_reducible refine gate_callee (f := 96) rfl ?_); refine goesL_ (some 8) rfl rfl Try.func96 (by kernel_rfl) rfl #[.pointer (some ⟨g, 0, none⟩)] rfl u13_0 ?_; (with_reducible refine (spec_l6Name.calls g s0_0 t459 t460 t461 t462 t463 w0 _ ?side1 ?side2 A3.out).mono ?_); (case side1 => exact s13_5); (case side2 => exact s13_6); rintro e w9 ⟨rfl, hi, hb, hk⟩; refine ⟨_, rfl, ?_⟩; have n0_ := Aside0.mk (KeepBut.blk hk (g' := gb457) (o := .cells #[.string (⟨#[]⟩ : ByteArray), .int .i64 0, .string (⟨#[]⟩ : ByteArray), .int .i64 0, .int .i64 0, .int .i64 0, .int .i64 0, .int .i64 0] 30 (0, 0)) u13_3 NB457_0.out u13_12); have n1_ := Aside0.mk (KeepBut.trans u13_5 hk (.inl rfl)); have n2_ := Aside0.mk (hb); have n3_ := Aside0.mk (hi); clear BK457; clear HK; clear HB; clear HI0; have BK457 := n0_; have HK := n1_; have HB := n2_; have HI0 := n3_; clear n0_ n1_ n2_ n3_; (try clear hb); (try clear hb2); (try clear hk); (try clear hi)) | ((with_reducible refine gate_callee (f := 85) rfl ?_); refine goesL_ (some 9) rfl rfl Try.func85 (by kernel_rfl) rfl #[.pointer (some ⟨g, 0, none⟩), .string t458, .string t461] rfl u13_0 ?_; (with_reducible refine (spec_l6Nozzle.calls g s0_0 t462 t463 t458 t461 t464 t465 t466 t467 t468 t469 t470 t471 t472 t473 w0 _ ?side1 ?side2 A4.out).mono ?_); (case side1 => exact s13_5); (case side2 => exact s13_6); rintro e w10 ⟨rfl, hi, hb, hk⟩; refine ⟨_, rfl, ?_⟩; have n0_ := Aside0.mk (KeepBut.blk hk (g' := gb457) (o := .cells #[.string (⟨#[]⟩ : ByteArray), .int .i64 0, .string (⟨#[]⟩ : ByteArray), .int .i64 0, .int .i64 0, .int .i64 0, .int .i64 0, .int .i64 0] 30 (0, 0)) u13_3 NB457_0.out u13_12); have n1_ := Aside0.mk (KeepBut.trans u13_5 hk (.inl rfl)); have n2_ := Aside0.mk (hb); have n3_ := Aside0.mk (hi); clear BK457; clear HK; clear HB; clear HI0; have BK457 := n0_; have HK := n1_; have HB := n2_; have HI0 := n3_; clear n0_ n1_ n2_ n3_; (try clear hb); (try clear hb2); (try clear hk); (try clear hi)) | ((with_reducible refine gate_dst (N := 3) rfl ?_); refine box_event ?hg (N := 3) ?hd (cs := #[.string (⟨#[]⟩ : ByteArray), .int .i64 0, .string (⟨#[]⟩ : ByteArray), .int .i64 0, .int .i64 0, .int .i64 0, .int .i64 0, .int .i64 0]) (t := 30) ?hr ?_; (case hd => rfl); (case hg => rfl); (case hr => exact gq); intro gb474 hg w11 hbox hb; have n0_ := Aside0.mk (IsS95.below (by repeat (first | (with_reducible first | exact HI0.out | apply IsS95.alloc | apply IsS95.drewN | apply IsS95.drew | apply IsS95.set_1 | apply IsS95.set_2 | refine IsS95.far ?_ NB0_457.out _) | exact HI0.out)) hb); have n1_ := Aside0.mk (blk_below (g := gb457) (o := .cells #[.string (⟨#[]⟩ : ByteArray), .int .i64 0, .string (⟨#[]⟩ : ByteArray), .int .i64 0, .int .i64 0, .int .i64 0, .int .i64 0, .int .i64 0] 30 (0, 0)) u13_3 hb); have n2_ := Aside0.mk (KeepBut.trans u13_5 (KeepBut.of_below hb g none) (.inl rfl)); have n3_ := Aside0.mk (below_step (by repeat (first | (with_reducible first | exact HB.out | apply below_alloc | apply pw_below_drewN | apply below_drew1 | refine below_set ?_ (IsS95.ge HI0.out) | refine below_set ?_ GE457.out) | exact HB.out)) hb); have n4_ := Aside0.mk (hbox); have n5_ := Aside0.mk ((by rw [hg]; exact (keep_size (w := w) (g := g) (row := none) u13_5) : w.heap.size ≤ gb474)); have n6_ := Aside0.mk ((Nat.le_trans HW0.out (by rw [hg]; exact (keep_size (w := w) (g := g) (row := none) u13_5) : w.heap.size ≤ gb474) : w0.heap.size ≤ gb474)); have n7_ := Aside0.mk ((by rw [hg]; exact Nat.ne_of_lt (blk_lt (g := gb457) (o := .cells #[.string (⟨#[]⟩ : ByteArray), .int .i64 0, .string (⟨#[]⟩ : ByteArray), .int .i64 0, .int .i64 0, .int .i64 0, .int .i64 0, .int .i64 0] 30 (0, 0)) u13_3) : gb457 ≠ gb474)); have n8_ := Aside0.mk ((by rw [hg]; exact Nat.ne_of_gt (blk_lt (g := gb457) (o := .cells #[.string (⟨#[]⟩ : ByteArray), .int .i64 0, .string (⟨#[]⟩ : ByteArray), .int .i64 0, .int .i64 0, .int .i64 0, .int .i64 0, .int .i64 0] 30 (0, 0)) u13_3) : gb474 ≠ gb457)); have n9_ := Aside0.mk ((by rw [hg]; exact Nat.ne_of_lt (IsS95.lt (show IsS95 w0 _ g s0_0 t472 t473 from by repeat (first | (with_reducible first | exact HI0.out | apply IsS95.alloc | apply IsS95.drewN | apply IsS95.drew | apply IsS95.set_1 | apply IsS95.set_2 | refine IsS95.far ?_ NB0_457.out _) | exact HI0.out))) : g ≠ gb474)); have n10_ := Aside0.mk ((by rw [hg]; exact Nat.ne_of_gt (IsS95.lt (show IsS95 w0 _ g s0_0 t472 t473 from by repeat (first | (with_reducible first | exact HI0.out | apply IsS95.alloc | apply IsS95.drewN | apply IsS95.drew | apply IsS95.set_1 | apply IsS95.set_2 | refine IsS95.far ?_ NB0_457.out _) | exact HI0.out))) : gb474 ≠ g)); clear HI0; clear BK457; clear HK; clear HB; have HI0 := n0_; have BK457 := n1_; have HK := n2_; have HB := n3_; have BK474 := n4_; have GW474 := n5_; have GE474 := n6_; have NB457_474 := n7_; have NB474_457 := n8_; have NB0_474 := n9_; have NB474_0 := n10_; clear n0_ n1_ n2_ n3_ n4_ n5_ n6_ n7_ n8_ n9_ n10_; clear hb hbox hg; have hnb12 := NB474_457.out; have hnc12 := NB457_474.out; have hnb13 := NB474_0.out; have hnc13 := NB0_474.out; obtain ⟨hcz14_0, hcz14_1, hcz14_2, hcz14_3, hcz14_4, hcz14_5, hcz14_6, hcz14_7, hfz14_0, hfz14_1, hfz14_2, hfz14_3, hfz14_4, hfz14_5, hfz14_6, hfz14_7⟩ := cf8 BK474.out) | ((with_reducible refine gate_callee (f := 84) rfl ?_); refine goesL_ (some 11) rfl rfl Try.func84 (by kernel_rfl) rfl #[.pointer (some ⟨g, 0, none⟩), .int .i64 9] rfl u13_0 ?_; (with_reducible refine (spec_l1Below.calls g s0_0 t472 t473 9 t475 t476 t477 w0 _ ?side1 ?side2 A5.out).mono ?_); (case side1 => exact s13_0); (case side2 => exact s13_1); rintro e w15 ⟨rfl, hi, hb, hk⟩; refine ⟨_, rfl, ?_⟩; have n0_ := Aside0.mk (KeepBut.blk hk (g' := gb457) (o := .cells #[.string (⟨#[]⟩ : ByteArray), .int .i64 0, .string (⟨#[]⟩ : ByteArray), .int .i64 0, .int .i64 0, .int .i64 0, .int .i64 0, .int .i64 0] 30 (0, 0)) (by (with_reducible repeat (first | refine blk_drewN ?_ _ | refine blk_drew ?_ | refine blk_alloc ?_ _)); refine blk_far ?_ NB457_474.out _; (with_reducible repeat (first | refine blk_drewN ?_ _ | refine blk_drew ?_ | refine blk_alloc ?_ _)); refine blk_far ?_ NB457_474.out _; (with_reducible repeat (first | refine blk_drewN ?_ _ | refine blk_drew ?_ | refine blk_alloc ?_ _)); refine blk_far ?_ NB457_474.out _; (with_reducible repeat (first | refine blk_drewN ?_ _ | refine blk_drew ?_ | refine blk_alloc ?_ _)); refine blk_far ?_ NB457_474.out _; (with_reducible repeat (first | refine blk_drewN ?_ _ | refine blk_drew ?_ | refine blk_alloc ?_ _)); refine blk_far ?_ NB457_474.out _; (with_reducible repeat (first | refine blk_drewN ?_ _ | refine blk_drew ?_ | refine blk_alloc ?_ _)); refine blk_far ?_ NB457_474.out _; (with_reducible repeat (first | refine blk_drewN ?_ _ | refine blk_drew ?_ | refine blk_alloc ?_ _)); refine blk_far ?_ NB457_474.out _; (with_reducible repeat (first | refine blk_drewN ?_ _ | refine blk_drew ?_ | refine blk_alloc ?_ _)); refine blk_far ?_ NB457_474.out _; (with_reducible repeat (first | refine blk_drewN ?_ _ | refine blk_drew ?_ | refine blk_alloc ?_ _)); exact BK457.out) NB457_0.out u13_12); have n1_ := Aside0.mk (KeepBut.blk hk (g' := gb474) (o := .cells #[.string t464, .int .i64 t465, .string t466, .int .i64 t467, .int .i64 t468, .int .i64 t469, .int .i64 t470, .int .i64 t471] 30 (0, 0)) (by (with_reducible repeat (first | refine blk_drewN ?_ _ | refine blk_drew ?_ | refine blk_alloc ?_ _)); refine blk_put (cs := #[.string t464, .int .i64 t465, .string t466, .int .i64 t467, .int .i64 t468, .int .i64 t469, .int .i64 t470, .int .i64 0]) ?_ 7 _ rfl; refine blk_put (cs := #[.string t464, .int .i64 t465, .string t466, .int .i64 t467, .int .i64 t468, .int .i64 t469, .int .i64 0, .int .i64 0]) ?_ 6 _ rfl; refine blk_put (cs := #[.string t464, .int .i64 t465, .string t466, .int .i64 t467, .int .i64 t468, .int .i64 0, .int .i64 0, .int .i64 0]) ?_ 5 _ rfl; refine blk_put (cs := #[.string t464, .int .i64 t465, .string t466, .int .i64 t467, .int .i64 0, .int .i64 0, .int .i64 0, .int .i64 0]) ?_ 4 _ rfl; refine blk_put (cs := #[.string t464, .int .i64 t465, .string t466, .int .i64 0, .int .i64 0, .int .i64 0, .int .i64 0, .int .i64 0]) ?_ 3 _ rfl; refine blk_put (cs := #[.string t464, .int .i64 t465, .string (⟨#[]⟩ : ByteArray), .int .i64 0, .int .i64 0, .int .i64 0, .int .i64 0, .int .i64 0]) ?_ 2 _ rfl; (with_reducible repeat (first | refine blk_drewN ?_ _ | refine blk_drew ?_ | refine blk_alloc ?_ _)); refine blk_put (cs := #[.string t464, .int .i64 0, .string (⟨#[]⟩ : ByteArray), .int .i64 0, .int .i64 0, .int .i64 0, .int .i64 0, .int .i64 0]) ?_ 1 _ rfl; (with_reducible repeat (first | refine blk_drewN ?_ _ | refine blk_drew ?_ | refine blk_alloc ?_ _)); refine blk_put (cs := #[.string (⟨#[]⟩ : ByteArray), .int .i64 0, .string (⟨#[]⟩ : ByteArray), .int .i64 0, .int .i64 0, .int .i64 0, .int .i64 0, .int .i64 0]) ?_ 0 _ rfl; (with_reducible repeat (first | refine blk_drewN ?_ _ | refine blk_drew ?_ | refine blk_alloc ?_ _)); exact BK474.out) NB474_0.out u13_12); have n2_ := Aside0.mk (KeepBut.trans u13_2 hk (.inl rfl)); have n3_ := Aside0.mk (hb); have n4_ := Aside0.mk (hi); clear BK457; clear BK474; clear HK; clear HB; clear HI0; have BK457 := n0_; have BK474 := n1_; have HK := n2_; have HB := n3_; have HI0 := n4_; clear n0_ n1_ n2_ n3_ n4_; (try clear hb); (try clear hb2); (try clear hk); (try clear hi)))
 (try simp only [Act.put, List.setIfInBounds_toArray, List.set_cons_zero, List.set_cons_succ])
 go_cut [] (fun wc => ∃ (kq : Nat) (x1001_5 : Int) (x1002_5 : Int) (x475000_5 : ByteArray) (x475001_5 : Int) (x475002_5 : ByteArray) (x475003_5 : Int) (x475004_5 : Int) (x475005_5 : Int) (x475006_5 : Int) (x475007_5 : Int), Aside0 (spec_l6Any.j2 kq s0_0 x1001_5 x1002_5 x475000_5 x475001_5 x475002_5 x475003_5 x475004_5 x475005_5 x475006_5 x475007_5 = some (r1, r2, r3, r4, r5, r6, r7, r8, r9, r10)) ∧ Aside0 (kq ≤ k) ∧ Aside0 (wc.heap[gb457]? = some (.cells #[.string (⟨#[]⟩ : ByteArray), .int .i64 0, .string (⟨#[]⟩ : ByteArray), .int .i64 0, .int .i64 0, .int .i64 0, .int .i64 0, .int .i64 0] 30 (0, 0))) ∧ Aside0 (wc.heap[gb474]? = some (.cells #[.string x475000_5, .int .i64 x475001_5, .string x475002_5, .int .i64 x475003_5, .int .i64 x475004_5, .int .i64 x475005_5, .int .i64 x475006_5, .int .i64 x475007_5] 30 (0, 0))) ∧ Aside0 (IsS95 w0 wc g s0_0 x1001_5 x1002_5) ∧ Aside0 (KeepBut w wc g none) ∧ Aside0 (Below w0.heap.size w0 wc))
 case first =>
  have H := HC6.out
  clear HC6
  have HC16 := Aside0.mk H
  clear H
  go_upto_if 12 with (fail)
  go_cut [12] (fun v12 wc => ∃ (kq : Nat) (x12_15 : Bool), v12 = .bool x12_15 ∧ Aside0 (spec_l6Any.j0 kq t475 x12_15 s0_0 t476 t477 t464 t465 t466 t467 t468 t469 t470 t471 = some (r1, r2, r3, r4, r5, r6, r7, r8, r9, r10)) ∧ Aside0 (kq ≤ k) ∧ Aside0 (wc.heap[gb457]? = some (.cells #[.string (⟨#[]⟩ : ByteArray), .int .i64 0, .string (⟨#[]⟩ : ByteArray), .int .i64 0, .int .i64 0, .int .i64 0, .int .i64 0, .int .i64 0] 30 (0, 0))) ∧ Aside0 (wc.heap[gb474]? = some (.cells #[.string t464, .int .i64 t465, .string t466, .int .i64 t467, .int .i64 t468, .int .i64 t469, .int .i64 t470, .int .i64 t471] 30 (0, 0))) ∧ Aside0 (IsS95 w0 wc g s0_0 t476 t477) ∧ Aside0 (KeepBut w wc g none) ∧ Aside0 (Below w0.heap.size w0 wc))
  case first =>
   have H := HC16.out
   clear HC16
   by_cases c17 : t475 = 0
   ·rw [if_pos c17] at H
    have c17b0 : (t475 == 0) = true := beq_iff_eq.mpr c17
    have c17b1 : (t475 != 0) = false := bne_eq_false_iff_eq.mpr c17
    clear c17
    (first | rw [c17b0] | (simp only [i64_w, i32_w]; rw [c17b0]) | skip)
    have H' := Aside0.mk H
    clear H
    go_wp2
    go_meet
    case rel => exact ⟨_, ((t475 == 0)), u13_11, H', ⟨by first | omega | exact Nat.le_refl _⟩, ⟨by (with_reducible repeat (first | refine blk_drewN ?_ _ | refine blk_drew ?_ | refine blk_alloc ?_ _)); exact BK457.out⟩, ⟨by (with_reducible repeat (first | refine blk_drewN ?_ _ | refine blk_drew ?_ | refine blk_alloc ?_ _)); exact BK474.out⟩, ⟨s13_0⟩, ⟨s13_2⟩, ⟨s13_1⟩⟩
   ·rw [if_neg c17] at H
    have c17b0 : (t475 == 0) = false := beq_eq_false_iff_ne.mpr c17
    have c17b1 : (t475 != 0) = true := bne_iff_ne.mpr c17
    (first | rw [c17b0] | (simp only [i64_w, i32_w]; rw [c17b0]) | skip)
    have H' := Aside0.mk H
    clear H
    go_wp2
    go_meet
    case rel => exact ⟨_, ((t475 == 1)), u13_11, H', ⟨by first | omega | exact Nat.le_refl _⟩, ⟨by (with_reducible repeat (first | refine blk_drewN ?_ _ | refine blk_drew ?_ | refine blk_alloc ?_ _)); exact BK457.out⟩, ⟨by (with_reducible repeat (first | refine blk_drewN ?_ _ | refine blk_drew ?_ | refine blk_alloc ?_ _)); exact BK474.out⟩, ⟨s13_0⟩, ⟨s13_2⟩, ⟨s13_1⟩⟩
  case rest =>
   clear HC16
   try clear c1
   try clear p2
   try clear c7
   try clear c8
   try clear c9
   try clear c12
   try clear c13
   try clear c17
   try clear c17b0
   try clear c17b1
   try clear hcz14_0
   try clear hcz14_1
   try clear hcz14_2
   try clear hcz14_3
   try clear hcz14_4
   try clear hcz14_5
   try clear hcz14_6
   try clear hcz14_7
   try clear hfz14_0
   try clear hfz14_1
   try clear hfz14_2
   try clear hfz14_3
   try clear hfz14_4
   try clear hfz14_5
   try clear hfz14_6
   try clear hfz14_7
   obtain ⟨kq, x12_15, rfl, HA, HJ15, BK457, BK474, HI0, HK, HB⟩ := hcut
   cases kq with
   | zero => exact absurd HA.out (by simp [spec_l6Any.j0])
   | succ kj15 =>
    have H := HA.out
    clear HA
    simp only [spec_l6Any.j0] at H
    by_cases c18 : x12_15 = true
    ·subst c18
     have H1 : ((spec_l6Name.f s0_0 t476 t477).bind fun bt478 => ((spec_l1Below.f s0_0 bt478.2.1 bt478.2.2 600).bind fun bt481 => (spec_l6Any.j2 kj15 s0_0 bt481.2.1 bt481.2.2 bt478.1 1 (⟨#[]⟩ : ByteArray) 0 0 0 0 bt481.1))) = some (r1, r2, r3, r4, r5, r6, r7, r8, r9, r10) := by rw [if_pos rfl] at H; exact H
     clear H
     have H := H1
     clear H1
     replace H := Option.bind_eq_some_iff.mp H
     obtain ⟨⟨t478, t479, t480⟩, A190, H⟩ := H
     replace H : ((spec_l1Below.f s0_0 t479 t480 600).bind fun bt481 => (spec_l6Any.j2 kj15 s0_0 bt481.2.1 bt481.2.2 t478 1 (⟨#[]⟩ : ByteArray) 0 0 0 0 bt481.1)) = some (r1, r2, r3, r4, r5, r6, r7, r8, r9, r10) := H
     have A19 := Aside0.mk A190
     clear A190
     replace H := Option.bind_eq_some_iff.mp H
     obtain ⟨⟨t481, t482, t483⟩, A200, H⟩ := H
     replace H : (spec_l6Any.j2 kj15 s0_0 t482 t483 t478 1 (⟨#[]⟩ : ByteArray) 0 0 0 0 t481) = some (r1, r2, r3, r4, r5, r6, r7, r8, r9, r10) := H
     have A20 := Aside0.mk A200
     clear A200
     have H' := Aside0.mk H
     clear H
     go_wp2_with (first | ((with_reducible refine gate_callee (f := 96) rfl ?_); refine goesL_ (some 16) rfl rfl Try.func96 (by kernel_rfl) rfl #[.pointer (some ⟨g, 0, none⟩)] rfl u13_0 ?_; (with_reducible refine (spec_l6Name.calls g s0_0 t476 t477 t478 t479 t480 w0 _ ?side1 ?side2 A19.out).mono ?_); (case side1 => exact s13_0); (case side2 => exact s13_1); rintro e w21 ⟨rfl, hi, hb, hk⟩; refine ⟨_, rfl, ?_⟩; have n0_ := Aside0.mk (KeepBut.blk hk (g' := gb457) (o := .cells #[.string (⟨#[]⟩ : ByteArray), .int .i64 0, .string (⟨#[]⟩ : ByteArray), .int .i64 0, .int .i64 0, .int .i64 0, .int .i64 0, .int .i64 0] 30 (0, 0)) u13_3 NB457_0.out u13_12); have n1_ := Aside0.mk (KeepBut.blk hk (g' := gb474) (o := .cells #[.string t464, .int .i64 t465, .string t466, .int .i64 t467, .int .i64 t468, .int .i64 t469, .int .i64 t470, .int .i64 t471] 30 (0, 0)) u13_4 NB474_0.out u13_12); have n2_ := Aside0.mk (KeepBut.trans u13_2 hk (.inl rfl)); have n3_ := Aside0.mk (hb); have n4_ := Aside0.mk (hi); clear BK457; clear BK474; clear HK; clear HB; clear HI0; have BK457 := n0_; have BK474 := n1_; have HK := n2_; have HB := n3_; have HI0 := n4_; clear n0_ n1_ n2_ n3_ n4_; (try clear hb); (try clear hb2); (try clear hk); (try clear hi)) | ((with_reducible refine gate_callee (f := 84) rfl ?_); refine goesL_ (some 18) rfl rfl Try.func84 (by kernel_rfl) rfl #[.pointer (some ⟨g, 0, none⟩), .int .i64 600] rfl u13_0 ?_; (with_reducible refine (spec_l1Below.calls g s0_0 t479 t480 600 t481 t482 t483 w0 _ ?side1 ?side2 A20.out).mono ?_); (case side1 => exact s13_0); (case side2 => exact s13_1); rintro e w22 ⟨rfl, hi, hb, hk⟩; refine ⟨_, rfl, ?_⟩; have n0_ := Aside0.mk (KeepBut.blk hk (g' := gb457) (o := .cells #[.string (⟨#[]⟩ : ByteArray), .int .i64 0, .string (⟨#[]⟩ : ByteArray), .int .i64 0, .int .i64 0, .int .i64 0, .int .i64 0, .int .i64 0] 30 (0, 0)) u13_3 NB457_0.out u13_12); have n1_ := Aside0.mk (KeepBut.blk hk (g' := gb474) (o := .cells #[.string t464, .int .i64 t465, .string t466, .int .i64 t467, .int .i64 t468, .int .i64 t469, .int .i64 t470, .int .i64 t471] 30 (0, 0)) u13_4 NB474_0.out u13_12); have n2_ := Aside0.mk (KeepBut.trans u13_2 hk (.inl rfl)); have n3_ := Aside0.mk (hb); have n4_ := Aside0.mk (hi); clear BK457; clear BK474; clear HK; clear HB; clear HI0; have BK457 := n0_; have BK474 := n1_; have HK := n2_; have HB := n3_; have HI0 := n4_; clear n0_ n1_ n2_ n3_ n4_; (try clear hb); (try clear hb2); (try clear hk); (try clear hi); have hnb23 := NB474_457.out; have hnc23 := NB457_474.out; have hnb24 := NB474_0.out; have hnc24 := NB0_474.out; obtain ⟨hcz25_0, hcz25_1, hcz25_2, hcz25_3, hcz25_4, hcz25_5, hcz25_6, hcz25_7, hfz25_0, hfz25_1, hfz25_2, hfz25_3, hfz25_4, hfz25_5, hfz25_6, hfz25_7⟩ := cf8 BK474.out))
     go_meet
     case rel => exact ⟨_, (t482), (t483), (t478), (1), ((⟨#[]⟩ : ByteArray)), (0), (0), (0), (0), (t481), H', ⟨by have := HJ15.out; first | omega | exact Nat.le_refl _⟩, ⟨by (with_reducible repeat (first | refine blk_drewN ?_ _ | refine blk_drew ?_ | refine blk_alloc ?_ _)); refine blk_far ?_ NB457_474.out _; (with_reducible repeat (first | refine blk_drewN ?_ _ | refine blk_drew ?_ | refine blk_alloc ?_ _)); refine blk_far ?_ NB457_474.out _; (with_reducible repeat (first | refine blk_drewN ?_ _ | refine blk_drew ?_ | refine blk_alloc ?_ _)); refine blk_far ?_ NB457_474.out _; (with_reducible repeat (first | refine blk_drewN ?_ _ | refine blk_drew ?_ | refine blk_alloc ?_ _)); refine blk_far ?_ NB457_474.out _; (with_reducible repeat (first | refine blk_drewN ?_ _ | refine blk_drew ?_ | refine blk_alloc ?_ _)); refine blk_far ?_ NB457_474.out _; (with_reducible repeat (first | refine blk_drewN ?_ _ | refine blk_drew ?_ | refine blk_alloc ?_ _)); refine blk_far ?_ NB457_474.out _; (with_reducible repeat (first | refine blk_drewN ?_ _ | refine blk_drew ?_ | refine blk_alloc ?_ _)); refine blk_far ?_ NB457_474.out _; (with_reducible repeat (first | refine blk_drewN ?_ _ | refine blk_drew ?_ | refine blk_alloc ?_ _)); refine blk_far ?_ NB457_474.out _; (with_reducible repeat (first | refine blk_drewN ?_ _ | refine blk_drew ?_ | refine blk_alloc ?_ _)); exact BK457.out⟩, ⟨by (with_reducible repeat (first | refine blk_drewN ?_ _ | refine blk_drew ?_ | refine blk_alloc ?_ _)); refine blk_put (cs := #[.string t478, .int .i64 1, .string (⟨#[]⟩ : ByteArray), .int .i64 0, .int .i64 0, .int .i64 0, .int .i64 0, .int .i64 t471]) ?_ 7 _ rfl; (with_reducible repeat (first | refine blk_drewN ?_ _ | refine blk_drew ?_ | refine blk_alloc ?_ _)); refine blk_put (cs := #[.string t478, .int .i64 1, .string (⟨#[]⟩ : ByteArray), .int .i64 0, .int .i64 0, .int .i64 0, .int .i64 t470, .int .i64 t471]) ?_ 6 _ rfl; (with_reducible repeat (first | refine blk_drewN ?_ _ | refine blk_drew ?_ | refine blk_alloc ?_ _)); refine blk_put (cs := #[.string t478, .int .i64 1, .string (⟨#[]⟩ : ByteArray), .int .i64 0, .int .i64 0, .int .i64 t469, .int .i64 t470, .int .i64 t471]) ?_ 5 _ rfl; (with_reducible repeat (first | refine blk_drewN ?_ _ | refine blk_drew ?_ | refine blk_alloc ?_ _)); refine blk_put (cs := #[.string t478, .int .i64 1, .string (⟨#[]⟩ : ByteArray), .int .i64 0, .int .i64 t468, .int .i64 t469, .int .i64 t470, .int .i64 t471]) ?_ 4 _ rfl; (with_reducible repeat (first | refine blk_drewN ?_ _ | refine blk_drew ?_ | refine blk_alloc ?_ _)); refine blk_put (cs := #[.string t478, .int .i64 1, .string (⟨#[]⟩ : ByteArray), .int .i64 t467, .int .i64 t468, .int .i64 t469, .int .i64 t470, .int .i64 t471]) ?_ 3 _ rfl; (with_reducible repeat (first | refine blk_drewN ?_ _ | refine blk_drew ?_ | refine blk_alloc ?_ _)); refine blk_put (cs := #[.string t478, .int .i64 1, .string t466, .int .i64 t467, .int .i64 t468, .int .i64 t469, .int .i64 t470, .int .i64 t471]) ?_ 2 _ rfl; refine blk_put (cs := #[.string t478, .int .i64 t465, .string t466, .int .i64 t467, .int .i64 t468, .int .i64 t469, .int .i64 t470, .int .i64 t471]) ?_ 1 _ rfl; refine blk_put (cs := #[.string t464, .int .i64 t465, .string t466, .int .i64 t467, .int .i64 t468, .int .i64 t469, .int .i64 t470, .int .i64 t471]) ?_ 0 _ rfl; (with_reducible repeat (first | refine blk_drewN ?_ _ | refine blk_drew ?_ | refine blk_alloc ?_ _)); exact BK474.out⟩, ⟨s13_0⟩, ⟨s13_2⟩, ⟨s13_1⟩⟩
    ·replace c18 := Bool.eq_false_iff.mpr c18
     subst c18
     have H1 : (if t475 = 2 then (spec_l6Any.j1 kj15 t475 (t475 == 2) s0_0 t476 t477 t464 t465 t466 t467 t468 t469 t470 t471) else (spec_l6Any.j1 kj15 t475 (t475 == 3) s0_0 t476 t477 t464 t465 t466 t467 t468 t469 t470 t471)) = some (r1, r2, r3, r4, r5, r6, r7, r8, r9, r10) := by rw [if_neg (show ¬ (false = true) by decide)] at H; exact H
     clear H
     have H := H1
     clear H1
     have HC26 := Aside0.mk H
     clear H
     go_upto_if 20 with (fail)
     go_cut [20] (fun v20 wc => ∃ (kq : Nat) (x20_25 : Bool), v20 = .bool x20_25 ∧ Aside0 (spec_l6Any.j1 kq t475 x20_25 s0_0 t476 t477 t464 t465 t466 t467 t468 t469 t470 t471 = some (r1, r2, r3, r4, r5, r6, r7, r8, r9, r10)) ∧ Aside0 (kq ≤ kj15) ∧ Aside0 (wc.heap[gb457]? = some (.cells #[.string (⟨#[]⟩ : ByteArray), .int .i64 0, .string (⟨#[]⟩ : ByteArray), .int .i64 0, .int .i64 0, .int .i64 0, .int .i64 0, .int .i64 0] 30 (0, 0))) ∧ Aside0 (wc.heap[gb474]? = some (.cells #[.string t464, .int .i64 t465, .string t466, .int .i64 t467, .int .i64 t468, .int .i64 t469, .int .i64 t470, .int .i64 t471] 30 (0, 0))) ∧ Aside0 (IsS95 w0 wc g s0_0 t476 t477) ∧ Aside0 (KeepBut w wc g none) ∧ Aside0 (Below w0.heap.size w0 wc))
     case first =>
      have H := HC26.out
      clear HC26
      by_cases c27 : t475 = 2
      ·rw [if_pos c27] at H
       have c27b0 : (t475 == 2) = true := beq_iff_eq.mpr c27
       have c27b1 : (t475 != 2) = false := bne_eq_false_iff_eq.mpr c27
       clear c27
       (first | rw [c27b0] | (simp only [i64_w, i32_w]; rw [c27b0]) | skip)
       have H' := Aside0.mk H
       clear H
       go_wp2
       go_meet
       case rel => exact ⟨_, ((t475 == 2)), u13_11, H', ⟨by have := HJ15.out; first | omega | exact Nat.le_refl _⟩, ⟨by (with_reducible repeat (first | refine blk_drewN ?_ _ | refine blk_drew ?_ | refine blk_alloc ?_ _)); exact BK457.out⟩, ⟨by (with_reducible repeat (first | refine blk_drewN ?_ _ | refine blk_drew ?_ | refine blk_alloc ?_ _)); exact BK474.out⟩, ⟨s13_0⟩, ⟨s13_2⟩, ⟨s13_1⟩⟩
      ·rw [if_neg c27] at H
       have c27b0 : (t475 == 2) = false := beq_eq_false_iff_ne.mpr c27
       have c27b1 : (t475 != 2) = true := bne_iff_ne.mpr c27
       (first | rw [c27b0] | (simp only [i64_w, i32_w]; rw [c27b0]) | skip)
       have H' := Aside0.mk H
       clear H
       go_wp2
       go_meet
       case rel => exact ⟨_, ((t475 == 3)), u13_11, H', ⟨by have := HJ15.out; first | omega | exact Nat.le_refl _⟩, ⟨by (with_reducible repeat (first | refine blk_drewN ?_ _ | refine blk_drew ?_ | refine blk_alloc ?_ _)); exact BK457.out⟩, ⟨by (with_reducible repeat (first | refine blk_drewN ?_ _ | refine blk_drew ?_ | refine blk_alloc ?_ _)); exact BK474.out⟩, ⟨s13_0⟩, ⟨s13_2⟩, ⟨s13_1⟩⟩
     case rest =>
      clear HC26
      try clear c1
      try clear c2
      try clear p2
      try clear c7
      try clear c8
      try clear c9
      try clear c12
      try clear c13
      try clear c17
      try clear c17b0
      try clear c17b1
      try clear c18
      try clear c23
      try clear c24
      try clear c27
      try clear c27b0
      try clear c27b1
      try clear hcz14_0
      try clear hcz14_1
      try clear hcz14_2
      try clear hcz14_3
      try clear hcz14_4
      try clear hcz14_5
      try clear hcz14_6
      try clear hcz14_7
      try clear hcz25_0
      try clear hcz25_1
      try clear hcz25_2
      try clear hcz25_3
      try clear hcz25_4
      try clear hcz25_5
      try clear hcz25_6
      try clear hcz25_7
      try clear hfz14_0
      try clear hfz14_1
      try clear hfz14_2
      try clear hfz14_3
      try clear hfz14_4
      try clear hfz14_5
      try clear hfz14_6
      try clear hfz14_7
      try clear hfz25_0
      try clear hfz25_1
      try clear hfz25_2
      try clear hfz25_3
      try clear hfz25_4
      try clear hfz25_5
      try clear hfz25_6
      try clear hfz25_7
      try clear p2
      obtain ⟨kq, x20_25, rfl, HA, HJ25, BK457, BK474, HI0, HK, HB⟩ := hcut
      cases kq with
      | zero => exact absurd HA.out (by simp [spec_l6Any.j1])
      | succ kj25 =>
       have H := HA.out
       clear HA
       simp only [spec_l6Any.j1] at H
       by_cases c28 : x20_25 = true
       ·subst c28
        have H1 : ((spec_l6Name.f s0_0 t476 t477).bind fun bt484 => ((spec_l6Name.f s0_0 bt484.2.1 bt484.2.2).bind fun bt487 => ((spec_l2Any.f kj25 s0_0 bt487.2.1 bt487.2.2).bind fun bt490 => (spec_l6Any.j2 kj25 s0_0 bt490.2.2.1 bt490.2.2.2 bt484.1 3 bt487.1 bt490.1 bt490.2.1 0 0 0)))) = some (r1, r2, r3, r4, r5, r6, r7, r8, r9, r10) := by rw [if_pos rfl] at H; exact H
        clear H
        have H := H1
        clear H1
        replace H := Option.bind_eq_some_iff.mp H
        obtain ⟨⟨t484, t485, t486⟩, A290, H⟩ := H
        replace H : ((spec_l6Name.f s0_0 t485 t486).bind fun bt487 => ((spec_l2Any.f kj25 s0_0 bt487.2.1 bt487.2.2).bind fun bt490 => (spec_l6Any.j2 kj25 s0_0 bt490.2.2.1 bt490.2.2.2 t484 3 bt487.1 bt490.1 bt490.2.1 0 0 0))) = some (r1, r2, r3, r4, r5, r6, r7, r8, r9, r10) := H
        have A29 := Aside0.mk A290
        clear A290
        replace H := Option.bind_eq_some_iff.mp H
        obtain ⟨⟨t487, t488, t489⟩, A300, H⟩ := H
        replace H : ((spec_l2Any.f kj25 s0_0 t488 t489).bind fun bt490 => (spec_l6Any.j2 kj25 s0_0 bt490.2.2.1 bt490.2.2.2 t484 3 t487 bt490.1 bt490.2.1 0 0 0)) = some (r1, r2, r3, r4, r5, r6, r7, r8, r9, r10) := H
        have A30 := Aside0.mk A300
        clear A300
        replace H := Option.bind_eq_some_iff.mp H
        obtain ⟨⟨t490, t491, t492, t493⟩, A310, H⟩ := H
        replace H : (spec_l6Any.j2 kj25 s0_0 t492 t493 t484 3 t487 t490 t491 0 0 0) = some (r1, r2, r3, r4, r5, r6, r7, r8, r9, r10) := H
        have A31 := Aside0.mk A310
        clear A310
        have H' := Aside0.mk H
        clear H
        go_wp2_with (first | ((with_reducible refine gate_callee (f := 96) rfl ?_); refine goesL_ (some 24) rfl rfl Try.func96 (by kernel_rfl) rfl #[.pointer (some ⟨g, 0, none⟩)] rfl u13_0 ?_; (with_reducible refine (spec_l6Name.calls g s0_0 t476 t477 t484 t485 t486 w0 _ ?side1 ?side2 A29.out).mono ?_); (case side1 => exact s13_0); (case side2 => exact s13_1); rintro e w32 ⟨rfl, hi, hb, hk⟩; refine ⟨_, rfl, ?_⟩; have n0_ := Aside0.mk (KeepBut.blk hk (g' := gb457) (o := .cells #[.string (⟨#[]⟩ : ByteArray), .int .i64 0, .string (⟨#[]⟩ : ByteArray), .int .i64 0, .int .i64 0, .int .i64 0, .int .i64 0, .int .i64 0] 30 (0, 0)) u13_3 NB457_0.out u13_12); have n1_ := Aside0.mk (KeepBut.blk hk (g' := gb474) (o := .cells #[.string t464, .int .i64 t465, .string t466, .int .i64 t467, .int .i64 t468, .int .i64 t469, .int .i64 t470, .int .i64 t471] 30 (0, 0)) u13_4 NB474_0.out u13_12); have n2_ := Aside0.mk (KeepBut.trans u13_2 hk (.inl rfl)); have n3_ := Aside0.mk (hb); have n4_ := Aside0.mk (hi); clear BK457; clear BK474; clear HK; clear HB; clear HI0; have BK457 := n0_; have BK474 := n1_; have HK := n2_; have HB := n3_; have HI0 := n4_; clear n0_ n1_ n2_ n3_ n4_; (try clear hb); (try clear hb2); (try clear hk); (try clear hi)) | ((with_reducible refine gate_callee (f := 96) rfl ?_); refine goesL_ (some 26) rfl rfl Try.func96 (by kernel_rfl) rfl #[.pointer (some ⟨g, 0, none⟩)] rfl u13_0 ?_; (with_reducible refine (spec_l6Name.calls g s0_0 t485 t486 t487 t488 t489 w0 _ ?side1 ?side2 A30.out).mono ?_); (case side1 => exact s13_0); (case side2 => exact s13_1); rintro e w33 ⟨rfl, hi, hb, hk⟩; refine ⟨_, rfl, ?_⟩; have n0_ := Aside0.mk (KeepBut.blk hk (g' := gb457) (o := .cells #[.string (⟨#[]⟩ : ByteArray), .int .i64 0, .string (⟨#[]⟩ : ByteArray), .int .i64 0, .int .i64 0, .int .i64 0, .int .i64 0, .int .i64 0] 30 (0, 0)) u13_3 NB457_0.out u13_12); have n1_ := Aside0.mk (KeepBut.blk hk (g' := gb474) (o := .cells #[.string t464, .int .i64 t465, .string t466, .int .i64 t467, .int .i64 t468, .int .i64 t469, .int .i64 t470, .int .i64 t471] 30 (0, 0)) u13_4 NB474_0.out u13_12); have n2_ := Aside0.mk (KeepBut.trans u13_2 hk (.inl rfl)); have n3_ := Aside0.mk (hb); have n4_ := Aside0.mk (hi); clear BK457; clear BK474; clear HK; clear HB; clear HI0; have BK457 := n0_; have BK474 := n1_; have HK := n2_; have HB := n3_; have HI0 := n4_; clear n0_ n1_ n2_ n3_ n4_; (try clear hb); (try clear hb2); (try clear hk); (try clear hi)) | ((with_reducible refine gate_callee (f := 97) rfl ?_); refine goesL_ (some 28) rfl rfl Try.func97 (by kernel_rfl) rfl #[.pointer (some ⟨g, 0, none⟩)] rfl u13_0 ?_; (with_reducible refine (spec_l2Any.calls kj25 g s0_0 t488 t489 t490 t491 t492 t493 w0 _ ?side1 ?side2 A31.out).mono ?_); (case side1 => exact s13_0); (case side2 => exact s13_1); rintro e w34 ⟨rfl, hi, hb, hk⟩; refine ⟨_, rfl, ?_⟩; have n0_ := Aside0.mk (KeepBut.blk hk (g' := gb457) (o := .cells #[.string (⟨#[]⟩ : ByteArray), .int .i64 0, .string (⟨#[]⟩ : ByteArray), .int .i64 0, .int .i64 0, .int .i64 0, .int .i64 0, .int .i64 0] 30 (0, 0)) u13_3 NB457_0.out u13_12); have n1_ := Aside0.mk (KeepBut.blk hk (g' := gb474) (o := .cells #[.string t464, .int .i64 t465, .string t466, .int .i64 t467, .int .i64 t468, .int .i64 t469, .int .i64 t470, .int .i64 t471] 30 (0, 0)) u13_4 NB474_0.out u13_12); have n2_ := Aside0.mk (KeepBut.trans u13_2 hk (.inl rfl)); have n3_ := Aside0.mk (hb); have n4_ := Aside0.mk (hi); clear BK457; clear BK474; clear HK; clear HB; clear HI0; have BK457 := n0_; have BK474 := n1_; have HK := n2_; have HB := n3_; have HI0 := n4_; clear n0_ n1_ n2_ n3_ n4_; (try clear hb); (try clear hb2); (try clear hk); (try clear hi); have hnb35 := NB474_457.out; have hnc35 := NB457_474.out; have hnb36 := NB474_0.out; have hnc36 := NB0_474.out; obtain ⟨hcz37_0, hcz37_1, hcz37_2, hcz37_3, hcz37_4, hcz37_5, hcz37_6, hcz37_7, hfz37_0, hfz37_1, hfz37_2, hfz37_3, hfz37_4, hfz37_5, hfz37_6, hfz37_7⟩ := cf8 BK474.out))
        go_meet
        case rel => exact ⟨_, (t492), (t493), (t484), (3), (t487), (t490), (t491), (0), (0), (0), H', ⟨by have := HJ15.out; have := HJ25.out; first | omega | exact Nat.le_refl _⟩, ⟨by (with_reducible repeat (first | refine blk_drewN ?_ _ | refine blk_drew ?_ | refine blk_alloc ?_ _)); refine blk_far ?_ NB457_474.out _; (with_reducible repeat (first | refine blk_drewN ?_ _ | refine blk_drew ?_ | refine blk_alloc ?_ _)); refine blk_far ?_ NB457_474.out _; (with_reducible repeat (first | refine blk_drewN ?_ _ | refine blk_drew ?_ | refine blk_alloc ?_ _)); refine blk_far ?_ NB457_474.out _; (with_reducible repeat (first | refine blk_drewN ?_ _ | refine blk_drew ?_ | refine blk_alloc ?_ _)); refine blk_far ?_ NB457_474.out _; (with_reducible repeat (first | refine blk_drewN ?_ _ | refine blk_drew ?_ | refine blk_alloc ?_ _)); refine blk_far ?_ NB457_474.out _; (with_reducible repeat (first | refine blk_drewN ?_ _ | refine blk_drew ?_ | refine blk_alloc ?_ _)); refine blk_far ?_ NB457_474.out _; (with_reducible repeat (first | refine blk_drewN ?_ _ | refine blk_drew ?_ | refine blk_alloc ?_ _)); refine blk_far ?_ NB457_474.out _; (with_reducible repeat (first | refine blk_drewN ?_ _ | refine blk_drew ?_ | refine blk_alloc ?_ _)); refine blk_far ?_ NB457_474.out _; (with_reducible repeat (first | refine blk_drewN ?_ _ | refine blk_drew ?_ | refine blk_alloc ?_ _)); exact BK457.out⟩, ⟨by (with_reducible repeat (first | refine blk_drewN ?_ _ | refine blk_drew ?_ | refine blk_alloc ?_ _)); refine blk_put (cs := #[.string t484, .int .i64 3, .string t487, .int .i64 t490, .int .i64 t491, .int .i64 0, .int .i64 0, .int .i64 t471]) ?_ 7 _ rfl; refine blk_put (cs := #[.string t484, .int .i64 3, .string t487, .int .i64 t490, .int .i64 t491, .int .i64 0, .int .i64 t470, .int .i64 t471]) ?_ 6 _ rfl; refine blk_put (cs := #[.string t484, .int .i64 3, .string t487, .int .i64 t490, .int .i64 t491, .int .i64 t469, .int .i64 t470, .int .i64 t471]) ?_ 5 _ rfl; refine blk_put (cs := #[.string t484, .int .i64 3, .string t487, .int .i64 t490, .int .i64 t468, .int .i64 t469, .int .i64 t470, .int .i64 t471]) ?_ 4 _ rfl; refine blk_put (cs := #[.string t484, .int .i64 3, .string t487, .int .i64 t467, .int .i64 t468, .int .i64 t469, .int .i64 t470, .int .i64 t471]) ?_ 3 _ rfl; refine blk_put (cs := #[.string t484, .int .i64 3, .string t466, .int .i64 t467, .int .i64 t468, .int .i64 t469, .int .i64 t470, .int .i64 t471]) ?_ 2 _ rfl; refine blk_put (cs := #[.string t484, .int .i64 t465, .string t466, .int .i64 t467, .int .i64 t468, .int .i64 t469, .int .i64 t470, .int .i64 t471]) ?_ 1 _ rfl; refine blk_put (cs := #[.string t464, .int .i64 t465, .string t466, .int .i64 t467, .int .i64 t468, .int .i64 t469, .int .i64 t470, .int .i64 t471]) ?_ 0 _ rfl; (with_reducible repeat (first | refine blk_drewN ?_ _ | refine blk_drew ?_ | refine blk_alloc ?_ _)); exact BK474.out⟩, ⟨s13_0⟩, ⟨s13_2⟩, ⟨s13_1⟩⟩
       ·replace c28 := Bool.eq_false_iff.mpr c28
        subst c28
        have H1 : (if t475 = 4 then ((spec_l1Odd.f s0_0 t476 t477).bind fun bt494 => (spec_l6Any.j2 kj25 s0_0 bt494.2.1 bt494.2.2 t464 t465 t466 t467 t468 t469 t470 bt494.1)) else (if t475 = 5 then ((spec_l1Odd.f s0_0 t476 t477).bind fun bt497 => (spec_l6Any.j2 kj25 s0_0 bt497.2.1 bt497.2.2 t464 bt497.1 t466 t467 t468 t469 t470 t471)) else (spec_l6Any.j2 kj25 s0_0 t476 t477 t464 t465 t466 t467 t468 t469 t470 t471))) = some (r1, r2, r3, r4, r5, r6, r7, r8, r9, r10) := by rw [if_neg (show ¬ (false = true) by decide)] at H; exact H
        clear H
        have H := H1
        clear H1
        by_cases c38 : t475 = 4
        ·rw [if_pos c38] at H
         have c38b0 : (t475 == 4) = true := beq_iff_eq.mpr c38
         have c38b1 : (t475 != 4) = false := bne_eq_false_iff_eq.mpr c38
         clear c38
         replace H := Option.bind_eq_some_iff.mp H
         obtain ⟨⟨t494, t495, t496⟩, A390, H⟩ := H
         replace H : (spec_l6Any.j2 kj25 s0_0 t495 t496 t464 t465 t466 t467 t468 t469 t470 t494) = some (r1, r2, r3, r4, r5, r6, r7, r8, r9, r10) := H
         have A39 := Aside0.mk A390
         clear A390
         have H' := Aside0.mk H
         clear H
         go_wp2_with (first | ((with_reducible refine gate_callee (f := 98) rfl ?_); refine goesL_ (some 33) rfl rfl Try.func98 (by kernel_rfl) rfl #[.pointer (some ⟨g, 0, none⟩)] rfl u13_0 ?_; (with_reducible refine (spec_l1Odd.calls g s0_0 t476 t477 t494 t495 t496 w0 _ ?side1 ?side2 A39.out).mono ?_); (case side1 => exact s13_0); (case side2 => exact s13_1); rintro e w40 ⟨rfl, hi, hb, hk⟩; refine ⟨_, rfl, ?_⟩; have n0_ := Aside0.mk (KeepBut.blk hk (g' := gb457) (o := .cells #[.string (⟨#[]⟩ : ByteArray), .int .i64 0, .string (⟨#[]⟩ : ByteArray), .int .i64 0, .int .i64 0, .int .i64 0, .int .i64 0, .int .i64 0] 30 (0, 0)) u13_3 NB457_0.out u13_12); have n1_ := Aside0.mk (KeepBut.blk hk (g' := gb474) (o := .cells #[.string t464, .int .i64 t465, .string t466, .int .i64 t467, .int .i64 t468, .int .i64 t469, .int .i64 t470, .int .i64 t471] 30 (0, 0)) u13_4 NB474_0.out u13_12); have n2_ := Aside0.mk (KeepBut.trans u13_2 hk (.inl rfl)); have n3_ := Aside0.mk (hb); have n4_ := Aside0.mk (hi); clear BK457; clear BK474; clear HK; clear HB; clear HI0; have BK457 := n0_; have BK474 := n1_; have HK := n2_; have HB := n3_; have HI0 := n4_; clear n0_ n1_ n2_ n3_ n4_; (try clear hb); (try clear hb2); (try clear hk); (try clear hi); have hnb41 := NB474_457.out; have hnc41 := NB457_474.out; have hnb42 := NB474_0.out; have hnc42 := NB0_474.out; obtain ⟨hcz43_0, hcz43_1, hcz43_2, hcz43_3, hcz43_4, hcz43_5, hcz43_6, hcz43_7, hfz43_0, hfz43_1, hfz43_2, hfz43_3, hfz43_4, hfz43_5, hfz43_6, hfz43_7⟩ := cf8 BK474.out))
         go_meet
         case rel => exact ⟨_, (t495), (t496), (t464), (t465), (t466), (t467), (t468), (t469), (t470), (t494), H', ⟨by have := HJ15.out; have := HJ25.out; first | omega | exact Nat.le_refl _⟩, ⟨by (with_reducible repeat (first | refine blk_drewN ?_ _ | refine blk_drew ?_ | refine blk_alloc ?_ _)); refine blk_far ?_ NB457_474.out _; (with_reducible repeat (first | refine blk_drewN ?_ _ | refine blk_drew ?_ | refine blk_alloc ?_ _)); exact BK457.out⟩, ⟨by (with_reducible repeat (first | refine blk_drewN ?_ _ | refine blk_drew ?_ | refine blk_alloc ?_ _)); refine blk_put (cs := #[.string t464, .int .i64 t465, .string t466, .int .i64 t467, .int .i64 t468, .int .i64 t469, .int .i64 t470, .int .i64 t471]) ?_ 7 _ rfl; (with_reducible repeat (first | refine blk_drewN ?_ _ | refine blk_drew ?_ | refine blk_alloc ?_ _)); exact BK474.out⟩, ⟨s13_0⟩, ⟨s13_2⟩, ⟨s13_1⟩⟩
        ·rw [if_neg c38] at H
         have c38b0 : (t475 == 4) = false := beq_eq_false_iff_ne.mpr c38
         have c38b1 : (t475 != 4) = true := bne_iff_ne.mpr c38
         by_cases c44 : t475 = 5
         ·rw [if_pos c44] at H
          have c44b0 : (t475 == 5) = true := beq_iff_eq.mpr c44
          have c44b1 : (t475 != 5) = false := bne_eq_false_iff_eq.mpr c44
          clear c44
          replace H := Option.bind_eq_some_iff.mp H
          obtain ⟨⟨t497, t498, t499⟩, A450, H⟩ := H
          replace H : (spec_l6Any.j2 kj25 s0_0 t498 t499 t464 t497 t466 t467 t468 t469 t470 t471) = some (r1, r2, r3, r4, r5, r6, r7, r8, r9, r10) := H
          have A45 := Aside0.mk A450
          clear A450
          have H' := Aside0.mk H
          clear H
          go_wp2_with (first | ((with_reducible refine gate_callee (f := 98) rfl ?_); refine goesL_ (some 38) rfl rfl Try.func98 (by kernel_rfl) rfl #[.pointer (some ⟨g, 0, none⟩)] rfl u13_0 ?_; (with_reducible refine (spec_l1Odd.calls g s0_0 t476 t477 t497 t498 t499 w0 _ ?side1 ?side2 A45.out).mono ?_); (case side1 => exact s13_0); (case side2 => exact s13_1); rintro e w46 ⟨rfl, hi, hb, hk⟩; refine ⟨_, rfl, ?_⟩; have n0_ := Aside0.mk (KeepBut.blk hk (g' := gb457) (o := .cells #[.string (⟨#[]⟩ : ByteArray), .int .i64 0, .string (⟨#[]⟩ : ByteArray), .int .i64 0, .int .i64 0, .int .i64 0, .int .i64 0, .int .i64 0] 30 (0, 0)) u13_3 NB457_0.out u13_12); have n1_ := Aside0.mk (KeepBut.blk hk (g' := gb474) (o := .cells #[.string t464, .int .i64 t465, .string t466, .int .i64 t467, .int .i64 t468, .int .i64 t469, .int .i64 t470, .int .i64 t471] 30 (0, 0)) u13_4 NB474_0.out u13_12); have n2_ := Aside0.mk (KeepBut.trans u13_2 hk (.inl rfl)); have n3_ := Aside0.mk (hb); have n4_ := Aside0.mk (hi); clear BK457; clear BK474; clear HK; clear HB; clear HI0; have BK457 := n0_; have BK474 := n1_; have HK := n2_; have HB := n3_; have HI0 := n4_; clear n0_ n1_ n2_ n3_ n4_; (try clear hb); (try clear hb2); (try clear hk); (try clear hi); have hnb47 := NB474_457.out; have hnc47 := NB457_474.out; have hnb48 := NB474_0.out; have hnc48 := NB0_474.out; obtain ⟨hcz49_0, hcz49_1, hcz49_2, hcz49_3, hcz49_4, hcz49_5, hcz49_6, hcz49_7, hfz49_0, hfz49_1, hfz49_2, hfz49_3, hfz49_4, hfz49_5, hfz49_6, hfz49_7⟩ := cf8 BK474.out))
          go_meet
          case rel => exact ⟨_, (t498), (t499), (t464), (t497), (t466), (t467), (t468), (t469), (t470), (t471), H', ⟨by have := HJ15.out; have := HJ25.out; first | omega | exact Nat.le_refl _⟩, ⟨by (with_reducible repeat (first | refine blk_drewN ?_ _ | refine blk_drew ?_ | refine blk_alloc ?_ _)); refine blk_far ?_ NB457_474.out _; (with_reducible repeat (first | refine blk_drewN ?_ _ | refine blk_drew ?_ | refine blk_alloc ?_ _)); exact BK457.out⟩, ⟨by (with_reducible repeat (first | refine blk_drewN ?_ _ | refine blk_drew ?_ | refine blk_alloc ?_ _)); refine blk_put (cs := #[.string t464, .int .i64 t465, .string t466, .int .i64 t467, .int .i64 t468, .int .i64 t469, .int .i64 t470, .int .i64 t471]) ?_ 1 _ rfl; (with_reducible repeat (first | refine blk_drewN ?_ _ | refine blk_drew ?_ | refine blk_alloc ?_ _)); exact BK474.out⟩, ⟨s13_0⟩, ⟨s13_2⟩, ⟨s13_1⟩⟩
         ·rw [if_neg c44] at H
          have c44b0 : (t475 == 5) = false := beq_eq_false_iff_ne.mpr c44
          have c44b1 : (t475 != 5) = true := bne_iff_ne.mpr c44
          have H' := Aside0.mk H
          clear H
          go_wp2
          go_meet
          case rel => exact ⟨_, (t476), (t477), (t464), (t465), (t466), (t467), (t468), (t469), (t470), (t471), H', ⟨by have := HJ15.out; have := HJ25.out; first | omega | exact Nat.le_refl _⟩, ⟨by (with_reducible repeat (first | refine blk_drewN ?_ _ | refine blk_drew ?_ | refine blk_alloc ?_ _)); exact BK457.out⟩, ⟨by (with_reducible repeat (first | refine blk_drewN ?_ _ | refine blk_drew ?_ | refine blk_alloc ?_ _)); exact BK474.out⟩, ⟨s13_0⟩, ⟨s13_2⟩, ⟨s13_1⟩⟩
 case rest =>
  clear HC6
  try clear c1
  try clear c2
  try clear p2
  try clear c3
  try clear c4
  try clear c7
  try clear c8
  try clear c9
  try clear c12
  try clear c13
  try clear c17
  try clear c17b0
  try clear c17b1
  try clear c18
  try clear c23
  try clear c24
  try clear c27
  try clear c27b0
  try clear c27b1
  try clear c28
  try clear c35
  try clear c36
  try clear c38
  try clear c38b0
  try clear c38b1
  try clear c41
  try clear c42
  try clear c44
  try clear c44b0
  try clear c44b1
  try clear c47
  try clear c48
  try clear hcz14_0
  try clear hcz14_1
  try clear hcz14_2
  try clear hcz14_3
  try clear hcz14_4
  try clear hcz14_5
  try clear hcz14_6
  try clear hcz14_7
  try clear hcz25_0
  try clear hcz25_1
  try clear hcz25_2
  try clear hcz25_3
  try clear hcz25_4
  try clear hcz25_5
  try clear hcz25_6
  try clear hcz25_7
  try clear hcz37_0
  try clear hcz37_1
  try clear hcz37_2
  try clear hcz37_3
  try clear hcz37_4
  try clear hcz37_5
  try clear hcz37_6
  try clear hcz37_7
  try clear hcz43_0
  try clear hcz43_1
  try clear hcz43_2
  try clear hcz43_3
  try clear hcz43_4
  try clear hcz43_5
  try clear hcz43_6
  try clear hcz43_7
  try clear hcz49_0
  try clear hcz49_1
  try clear hcz49_2
  try clear hcz49_3
  try clear hcz49_4
  try clear hcz49_5
  try clear hcz49_6
  try clear hcz49_7
  try clear hfz14_0
  try clear hfz14_1
  try clear hfz14_2
  try clear hfz14_3
  try clear hfz14_4
  try clear hfz14_5
  try clear hfz14_6
  try clear hfz14_7
  try clear hfz25_0
  try clear hfz25_1
  try clear hfz25_2
  try clear hfz25_3
  try clear hfz25_4
  try clear hfz25_5
  try clear hfz25_6
  try clear hfz25_7
  try clear hfz37_0
  try clear hfz37_1
  try clear hfz37_2
  try clear hfz37_3
  try clear hfz37_4
  try clear hfz37_5
  try clear hfz37_6
  try clear hfz37_7
  try clear hfz43_0
  try clear hfz43_1
  try clear hfz43_2
  try clear hfz43_3
  try clear hfz43_4
  try clear hfz43_5
  try clear hfz43_6
  try clear hfz43_7
  try clear hfz49_0
  try clear hfz49_1
  try clear hfz49_2
  try clear hfz49_3
  try clear hfz49_4
  try clear hfz49_5
  try clear hfz49_6
  try clear hfz49_7
  try clear p2
  obtain ⟨kq, x1001_5, x1002_5, x475000_5, x475001_5, x475002_5, x475003_5, x475004_5, x475005_5, x475006_5, x475007_5, HA, HJ5, BK457, BK474, HI0, HK, HB⟩ := hcut
  cases kq with
  | zero => exact absurd HA.out (by simp [spec_l6Any.j2])
  | succ kj5 =>
   have H := HA.out
   clear HA
   simp only [spec_l6Any.j2] at H
   replace H := Option.bind_eq_some_iff.mp H
   obtain ⟨⟨t500, t501, t502⟩, A500, H⟩ := H
   replace H : (if t500 = 0 then ((spec_l1Word.f s0_0 t501 t502).bind fun bt503 => (some (bt503.1, x475001_5, x475002_5, x475003_5, x475004_5, x475005_5, x475006_5, x475007_5, bt503.2.1, bt503.2.2))) else (if t500 = 1 then ((spec_l1Odd.f s0_0 t501 t502).bind fun bt506 => (some (x475000_5, x475001_5, x475002_5, x475003_5, x475004_5, x475005_5, bt506.1, x475007_5, bt506.2.1, bt506.2.2))) else (if t500 = 2 then ((spec_l3Any.f kj5 s0_0 t501 t502).bind fun bt509 => (some (x475000_5, x475001_5, x475002_5, bt509.1, bt509.2.1, x475005_5, x475006_5, x475007_5, bt509.2.2.2.2.2.1, bt509.2.2.2.2.2.2))) else (some (x475000_5, x475001_5, x475002_5, x475003_5, x475004_5, x475005_5, x475006_5, x475007_5, t501, t502))))) = some (r1, r2, r3, r4, r5, r6, r7, r8, r9, r10) := H
   have A50 := Aside0.mk A500
   clear A500
   by_cases c51 : t500 = 0
   ·rw [if_pos c51] at H
    have c51b0 : (t500 == 0) = true := beq_iff_eq.mpr c51
    have c51b1 : (t500 != 0) = false := bne_eq_false_iff_eq.mpr c51
    clear c51
    replace H := Option.bind_eq_some_iff.mp H
    obtain ⟨⟨t503, t504, t505⟩, A520, H⟩ := H
    replace H : (some (t503, x475001_5, x475002_5, x475003_5, x475004_5, x475005_5, x475006_5, x475007_5, t504, t505)) = some (r1, r2, r3, r4, r5, r6, r7, r8, r9, r10) := H
    have A52 := Aside0.mk A520
    clear A520
    simp only [Option.some.injEq, Prod.mk.injEq] at H
    obtain ⟨rfl, rfl, rfl, rfl, rfl, rfl, rfl, rfl, rfl, rfl⟩ := H
    go_wp2_with (first | ((with_reducible refine gate_callee (f := 84) rfl ?_); refine goesL_ (some 41) rfl rfl Try.func84 (by kernel_rfl) rfl #[.pointer (some ⟨g, 0, none⟩), .int .i64 12] rfl u13_0 ?_; (with_reducible refine (spec_l1Below.calls g s0_0 x1001_5 x1002_5 12 t500 t501 t502 w0 _ ?side1 ?side2 A50.out).mono ?_); (case side1 => exact s13_0); (case side2 => exact s13_1); rintro e w53 ⟨rfl, hi, hb, hk⟩; refine ⟨_, rfl, ?_⟩; have n0_ := Aside0.mk (KeepBut.blk hk (g' := gb457) (o := .cells #[.string (⟨#[]⟩ : ByteArray), .int .i64 0, .string (⟨#[]⟩ : ByteArray), .int .i64 0, .int .i64 0, .int .i64 0, .int .i64 0, .int .i64 0] 30 (0, 0)) u13_3 NB457_0.out u13_12); have n1_ := Aside0.mk (KeepBut.blk hk (g' := gb474) (o := .cells #[.string x475000_5, .int .i64 x475001_5, .string x475002_5, .int .i64 x475003_5, .int .i64 x475004_5, .int .i64 x475005_5, .int .i64 x475006_5, .int .i64 x475007_5] 30 (0, 0)) u13_4 NB474_0.out u13_12); have n2_ := Aside0.mk (KeepBut.trans u13_2 hk (.inl rfl)); have n3_ := Aside0.mk (hb); have n4_ := Aside0.mk (hi); clear BK457; clear BK474; clear HK; clear HB; clear HI0; have BK457 := n0_; have BK474 := n1_; have HK := n2_; have HB := n3_; have HI0 := n4_; clear n0_ n1_ n2_ n3_ n4_; (try clear hb); (try clear hb2); (try clear hk); (try clear hi)) | ((with_reducible refine gate_callee (f := 99) rfl ?_); refine goesL_ (some 45) rfl rfl Try.func99 (by kernel_rfl) rfl #[.pointer (some ⟨g, 0, none⟩)] rfl u13_0 ?_; (with_reducible refine (spec_l1Word.calls g s0_0 t501 t502 t503 t504 t505 w0 _ ?side1 ?side2 A52.out).mono ?_); (case side1 => exact s13_0); (case side2 => exact s13_1); rintro e w54 ⟨rfl, hi, hb, hk⟩; refine ⟨_, rfl, ?_⟩; have n0_ := Aside0.mk (KeepBut.blk hk (g' := gb457) (o := .cells #[.string (⟨#[]⟩ : ByteArray), .int .i64 0, .string (⟨#[]⟩ : ByteArray), .int .i64 0, .int .i64 0, .int .i64 0, .int .i64 0, .int .i64 0] 30 (0, 0)) u13_3 NB457_0.out u13_12); have n1_ := Aside0.mk (KeepBut.blk hk (g' := gb474) (o := .cells #[.string x475000_5, .int .i64 x475001_5, .string x475002_5, .int .i64 x475003_5, .int .i64 x475004_5, .int .i64 x475005_5, .int .i64 x475006_5, .int .i64 x475007_5] 30 (0, 0)) u13_4 NB474_0.out u13_12); have n2_ := Aside0.mk (KeepBut.trans u13_2 hk (.inl rfl)); have n3_ := Aside0.mk (hb); have n4_ := Aside0.mk (hi); clear BK457; clear BK474; clear HK; clear HB; clear HI0; have BK457 := n0_; have BK474 := n1_; have HK := n2_; have HB := n3_; have HI0 := n4_; clear n0_ n1_ n2_ n3_ n4_; (try clear hb); (try clear hb2); (try clear hk); (try clear hi); have hnb55 := NB474_457.out; have hnc55 := NB457_474.out; have hnb56 := NB474_0.out; have hnc56 := NB0_474.out; obtain ⟨hcz57_0, hcz57_1, hcz57_2, hcz57_3, hcz57_4, hcz57_5, hcz57_6, hcz57_7, hfz57_0, hfz57_1, hfz57_2, hfz57_3, hfz57_4, hfz57_5, hfz57_6, hfz57_7⟩ := cf8 BK474.out; have hnb58 := NB457_0.out; have hnc58 := NB0_457.out; obtain ⟨hcz59_0, hcz59_1, hcz59_2, hcz59_3, hcz59_4, hcz59_5, hcz59_6, hcz59_7, hfz59_0, hfz59_1, hfz59_2, hfz59_3, hfz59_4, hfz59_5, hfz59_6, hfz59_7⟩ := cf8 BK457.out))
    refine bodyPost_ret (results_cell_row rfl _ _ gb457 30 #[.string t503, .int .i64 x475001_5, .string x475002_5, .int .i64 x475003_5, .int .i64 x475004_5, .int .i64 x475005_5, .int .i64 x475006_5, .int .i64 x475007_5] (0, 0) _ rfl (by (with_reducible repeat (first | refine blk_drewN ?_ _ | refine blk_drew ?_ | refine blk_alloc ?_ _)); refine blk_put (cs := #[.string t503, .int .i64 x475001_5, .string x475002_5, .int .i64 x475003_5, .int .i64 x475004_5, .int .i64 x475005_5, .int .i64 x475006_5, .int .i64 0]) ?_ 7 _ rfl; refine blk_put (cs := #[.string t503, .int .i64 x475001_5, .string x475002_5, .int .i64 x475003_5, .int .i64 x475004_5, .int .i64 x475005_5, .int .i64 0, .int .i64 0]) ?_ 6 _ rfl; refine blk_put (cs := #[.string t503, .int .i64 x475001_5, .string x475002_5, .int .i64 x475003_5, .int .i64 x475004_5, .int .i64 0, .int .i64 0, .int .i64 0]) ?_ 5 _ rfl; refine blk_put (cs := #[.string t503, .int .i64 x475001_5, .string x475002_5, .int .i64 x475003_5, .int .i64 0, .int .i64 0, .int .i64 0, .int .i64 0]) ?_ 4 _ rfl; refine blk_put (cs := #[.string t503, .int .i64 x475001_5, .string x475002_5, .int .i64 0, .int .i64 0, .int .i64 0, .int .i64 0, .int .i64 0]) ?_ 3 _ rfl; refine blk_put (cs := #[.string t503, .int .i64 x475001_5, .string (⟨#[]⟩ : ByteArray), .int .i64 0, .int .i64 0, .int .i64 0, .int .i64 0, .int .i64 0]) ?_ 2 _ rfl; (with_reducible repeat (first | refine blk_drewN ?_ _ | refine blk_drew ?_ | refine blk_alloc ?_ _)); refine blk_put (cs := #[.string t503, .int .i64 0, .string (⟨#[]⟩ : ByteArray), .int .i64 0, .int .i64 0, .int .i64 0, .int .i64 0, .int .i64 0]) ?_ 1 _ rfl; (with_reducible repeat (first | refine blk_drewN ?_ _ | refine blk_drew ?_ | refine blk_alloc ?_ _)); refine blk_put (cs := #[.string (⟨#[]⟩ : ByteArray), .int .i64 0, .string (⟨#[]⟩ : ByteArray), .int .i64 0, .int .i64 0, .int .i64 0, .int .i64 0, .int .i64 0]) ?_ 0 _ rfl; (with_reducible repeat (first | refine blk_drewN ?_ _ | refine blk_drew ?_ | refine blk_alloc ?_ _)); refine blk_far ?_ NB457_474.out _; (with_reducible repeat (first | refine blk_drewN ?_ _ | refine blk_drew ?_ | refine blk_alloc ?_ _)); exact BK457.out) Try.underlying30 rfl (by kernel_rfl)) rfl ?_
    exact ⟨by first | rfl | (simp [*] <;> rfl), s13_0, s13_1, s13_2⟩
   ·rw [if_neg c51] at H
    have c51b0 : (t500 == 0) = false := beq_eq_false_iff_ne.mpr c51
    have c51b1 : (t500 != 0) = true := bne_iff_ne.mpr c51
    by_cases c60 : t500 = 1
    ·rw [if_pos c60] at H
     have c60b0 : (t500 == 1) = true := beq_iff_eq.mpr c60
     have c60b1 : (t500 != 1) = false := bne_eq_false_iff_eq.mpr c60
     clear c60
     replace H := Option.bind_eq_some_iff.mp H
     obtain ⟨⟨t506, t507, t508⟩, A610, H⟩ := H
     replace H : (some (x475000_5, x475001_5, x475002_5, x475003_5, x475004_5, x475005_5, t506, x475007_5, t507, t508)) = some (r1, r2, r3, r4, r5, r6, r7, r8, r9, r10) := H
     have A61 := Aside0.mk A610
     clear A610
     simp only [Option.some.injEq, Prod.mk.injEq] at H
     obtain ⟨rfl, rfl, rfl, rfl, rfl, rfl, rfl, rfl, rfl, rfl⟩ := H
     go_wp2_with (first | ((with_reducible refine gate_callee (f := 84) rfl ?_); refine goesL_ (some 41) rfl rfl Try.func84 (by kernel_rfl) rfl #[.pointer (some ⟨g, 0, none⟩), .int .i64 12] rfl u13_0 ?_; (with_reducible refine (spec_l1Below.calls g s0_0 x1001_5 x1002_5 12 t500 t501 t502 w0 _ ?side1 ?side2 A50.out).mono ?_); (case side1 => exact s13_0); (case side2 => exact s13_1); rintro e w62 ⟨rfl, hi, hb, hk⟩; refine ⟨_, rfl, ?_⟩; have n0_ := Aside0.mk (KeepBut.blk hk (g' := gb457) (o := .cells #[.string (⟨#[]⟩ : ByteArray), .int .i64 0, .string (⟨#[]⟩ : ByteArray), .int .i64 0, .int .i64 0, .int .i64 0, .int .i64 0, .int .i64 0] 30 (0, 0)) u13_3 NB457_0.out u13_12); have n1_ := Aside0.mk (KeepBut.blk hk (g' := gb474) (o := .cells #[.string x475000_5, .int .i64 x475001_5, .string x475002_5, .int .i64 x475003_5, .int .i64 x475004_5, .int .i64 x475005_5, .int .i64 x475006_5, .int .i64 x475007_5] 30 (0, 0)) u13_4 NB474_0.out u13_12); have n2_ := Aside0.mk (KeepBut.trans u13_2 hk (.inl rfl)); have n3_ := Aside0.mk (hb); have n4_ := Aside0.mk (hi); clear BK457; clear BK474; clear HK; clear HB; clear HI0; have BK457 := n0_; have BK474 := n1_; have HK := n2_; have HB := n3_; have HI0 := n4_; clear n0_ n1_ n2_ n3_ n4_; (try clear hb); (try clear hb2); (try clear hk); (try clear hi)) | ((with_reducible refine gate_callee (f := 98) rfl ?_); refine goesL_ (some 50) rfl rfl Try.func98 (by kernel_rfl) rfl #[.pointer (some ⟨g, 0, none⟩)] rfl u13_0 ?_; (with_reducible refine (spec_l1Odd.calls g s0_0 t501 t502 t506 t507 t508 w0 _ ?side1 ?side2 A61.out).mono ?_); (case side1 => exact s13_0); (case side2 => exact s13_1); rintro e w63 ⟨rfl, hi, hb, hk⟩; refine ⟨_, rfl, ?_⟩; have n0_ := Aside0.mk (KeepBut.blk hk (g' := gb457) (o := .cells #[.string (⟨#[]⟩ : ByteArray), .int .i64 0, .string (⟨#[]⟩ : ByteArray), .int .i64 0, .int .i64 0, .int .i64 0, .int .i64 0, .int .i64 0] 30 (0, 0)) u13_3 NB457_0.out u13_12); have n1_ := Aside0.mk (KeepBut.blk hk (g' := gb474) (o := .cells #[.string x475000_5, .int .i64 x475001_5, .string x475002_5, .int .i64 x475003_5, .int .i64 x475004_5, .int .i64 x475005_5, .int .i64 x475006_5, .int .i64 x475007_5] 30 (0, 0)) u13_4 NB474_0.out u13_12); have n2_ := Aside0.mk (KeepBut.trans u13_2 hk (.inl rfl)); have n3_ := Aside0.mk (hb); have n4_ := Aside0.mk (hi); clear BK457; clear BK474; clear HK; clear HB; clear HI0; have BK457 := n0_; have BK474 := n1_; have HK := n2_; have HB := n3_; have HI0 := n4_; clear n0_ n1_ n2_ n3_ n4_; (try clear hb); (try clear hb2); (try clear hk); (try clear hi); have hnb64 := NB474_457.out; have hnc64 := NB457_474.out; have hnb65 := NB474_0.out; have hnc65 := NB0_474.out; obtain ⟨hcz66_0, hcz66_1, hcz66_2, hcz66_3, hcz66_4, hcz66_5, hcz66_6, hcz66_7, hfz66_0, hfz66_1, hfz66_2, hfz66_3, hfz66_4, hfz66_5, hfz66_6, hfz66_7⟩ := cf8 BK474.out; have hnb67 := NB457_0.out; have hnc67 := NB0_457.out; obtain ⟨hcz68_0, hcz68_1, hcz68_2, hcz68_3, hcz68_4, hcz68_5, hcz68_6, hcz68_7, hfz68_0, hfz68_1, hfz68_2, hfz68_3, hfz68_4, hfz68_5, hfz68_6, hfz68_7⟩ := cf8 BK457.out))
     refine bodyPost_ret (results_cell_row rfl _ _ gb457 30 #[.string x475000_5, .int .i64 x475001_5, .string x475002_5, .int .i64 x475003_5, .int .i64 x475004_5, .int .i64 x475005_5, .int .i64 t506, .int .i64 x475007_5] (0, 0) _ rfl (by (with_reducible repeat (first | refine blk_drewN ?_ _ | refine blk_drew ?_ | refine blk_alloc ?_ _)); refine blk_put (cs := #[.string x475000_5, .int .i64 x475001_5, .string x475002_5, .int .i64 x475003_5, .int .i64 x475004_5, .int .i64 x475005_5, .int .i64 t506, .int .i64 0]) ?_ 7 _ rfl; refine blk_put (cs := #[.string x475000_5, .int .i64 x475001_5, .string x475002_5, .int .i64 x475003_5, .int .i64 x475004_5, .int .i64 x475005_5, .int .i64 0, .int .i64 0]) ?_ 6 _ rfl; refine blk_put (cs := #[.string x475000_5, .int .i64 x475001_5, .string x475002_5, .int .i64 x475003_5, .int .i64 x475004_5, .int .i64 0, .int .i64 0, .int .i64 0]) ?_ 5 _ rfl; refine blk_put (cs := #[.string x475000_5, .int .i64 x475001_5, .string x475002_5, .int .i64 x475003_5, .int .i64 0, .int .i64 0, .int .i64 0, .int .i64 0]) ?_ 4 _ rfl; refine blk_put (cs := #[.string x475000_5, .int .i64 x475001_5, .string x475002_5, .int .i64 0, .int .i64 0, .int .i64 0, .int .i64 0, .int .i64 0]) ?_ 3 _ rfl; refine blk_put (cs := #[.string x475000_5, .int .i64 x475001_5, .string (⟨#[]⟩ : ByteArray), .int .i64 0, .int .i64 0, .int .i64 0, .int .i64 0, .int .i64 0]) ?_ 2 _ rfl; (with_reducible repeat (first | refine blk_drewN ?_ _ | refine blk_drew ?_ | refine blk_alloc ?_ _)); refine blk_put (cs := #[.string x475000_5, .int .i64 0, .string (⟨#[]⟩ : ByteArray), .int .i64 0, .int .i64 0, .int .i64 0, .int .i64 0, .int .i64 0]) ?_ 1 _ rfl; (with_reducible repeat (first | refine blk_drewN ?_ _ | refine blk_drew ?_ | refine blk_alloc ?_ _)); refine blk_put (cs := #[.string (⟨#[]⟩ : ByteArray), .int .i64 0, .string (⟨#[]⟩ : ByteArray), .int .i64 0, .int .i64 0, .int .i64 0, .int .i64 0, .int .i64 0]) ?_ 0 _ rfl; (with_reducible repeat (first | refine blk_drewN ?_ _ | refine blk_drew ?_ | refine blk_alloc ?_ _)); refine blk_far ?_ NB457_474.out _; (with_reducible repeat (first | refine blk_drewN ?_ _ | refine blk_drew ?_ | refine blk_alloc ?_ _)); exact BK457.out) Try.underlying30 rfl (by kernel_rfl)) rfl ?_
     exact ⟨by first | rfl | (simp [*] <;> rfl), s13_0, s13_1, s13_2⟩
    ·rw [if_neg c60] at H
     have c60b0 : (t500 == 1) = false := beq_eq_false_iff_ne.mpr c60
     have c60b1 : (t500 != 1) = true := bne_iff_ne.mpr c60
     by_cases c69 : t500 = 2
     ·rw [if_pos c69] at H
      have c69b0 : (t500 == 2) = true := beq_iff_eq.mpr c69
      have c69b1 : (t500 != 2) = false := bne_eq_false_iff_eq.mpr c69
      clear c69
      replace H := Option.bind_eq_some_iff.mp H
      obtain ⟨⟨t509, t510, t511, t512, t513, t514, t515⟩, A700, H⟩ := H
      have hF_ : ∀ w_, (Instr.field 71 (.agg #[.int .i64 t509, .int .i64 t510, .int .i64 t511, .int .i64 t512, .int .i64 t513]) 0).run Try.prog w_ = .ok (.agg #[.int .i64 t509, .int .i64 t510]) w_ := fun _ => by go_simp; rfl
      replace H : (some (x475000_5, x475001_5, x475002_5, t509, t510, x475005_5, x475006_5, x475007_5, t514, t515)) = some (r1, r2, r3, r4, r5, r6, r7, r8, r9, r10) := H
      have A70 := Aside0.mk A700
      clear A700
      simp only [Option.some.injEq, Prod.mk.injEq] at H
      obtain ⟨rfl, rfl, rfl, rfl, rfl, rfl, rfl, rfl, rfl, rfl⟩ := H
      go_wp2_with (first | ((with_reducible refine gate_callee (f := 84) rfl ?_); refine goesL_ (some 41) rfl rfl Try.func84 (by kernel_rfl) rfl #[.pointer (some ⟨g, 0, none⟩), .int .i64 12] rfl u13_0 ?_; (with_reducible refine (spec_l1Below.calls g s0_0 x1001_5 x1002_5 12 t500 t501 t502 w0 _ ?side1 ?side2 A50.out).mono ?_); (case side1 => exact s13_0); (case side2 => exact s13_1); rintro e w71 ⟨rfl, hi, hb, hk⟩; refine ⟨_, rfl, ?_⟩; have n0_ := Aside0.mk (KeepBut.blk hk (g' := gb457) (o := .cells #[.string (⟨#[]⟩ : ByteArray), .int .i64 0, .string (⟨#[]⟩ : ByteArray), .int .i64 0, .int .i64 0, .int .i64 0, .int .i64 0, .int .i64 0] 30 (0, 0)) u13_3 NB457_0.out u13_12); have n1_ := Aside0.mk (KeepBut.blk hk (g' := gb474) (o := .cells #[.string x475000_5, .int .i64 x475001_5, .string x475002_5, .int .i64 x475003_5, .int .i64 x475004_5, .int .i64 x475005_5, .int .i64 x475006_5, .int .i64 x475007_5] 30 (0, 0)) u13_4 NB474_0.out u13_12); have n2_ := Aside0.mk (KeepBut.trans u13_2 hk (.inl rfl)); have n3_ := Aside0.mk (hb); have n4_ := Aside0.mk (hi); clear BK457; clear BK474; clear HK; clear HB; clear HI0; have BK457 := n0_; have BK474 := n1_; have HK := n2_; have HB := n3_; have HI0 := n4_; clear n0_ n1_ n2_ n3_ n4_; (try clear hb); (try clear hb2); (try clear hk); (try clear hi)) | ((with_reducible refine gate_callee (f := 100) rfl ?_); refine goesL_ (some 55) rfl rfl Try.func100 (by kernel_rfl) rfl #[.pointer (some ⟨g, 0, none⟩)] rfl u13_0 ?_; (with_reducible refine (spec_l3Any.calls kj5 g s0_0 t501 t502 t509 t510 t511 t512 t513 t514 t515 w0 _ ?side1 ?side2 A70.out).mono ?_); (case side1 => exact s13_0); (case side2 => exact s13_1); rintro e w72 ⟨rfl, hi, hb, hk⟩; refine ⟨_, rfl, ?_⟩; have n0_ := Aside0.mk (KeepBut.blk hk (g' := gb457) (o := .cells #[.string (⟨#[]⟩ : ByteArray), .int .i64 0, .string (⟨#[]⟩ : ByteArray), .int .i64 0, .int .i64 0, .int .i64 0, .int .i64 0, .int .i64 0] 30 (0, 0)) u13_3 NB457_0.out u13_12); have n1_ := Aside0.mk (KeepBut.blk hk (g' := gb474) (o := .cells #[.string x475000_5, .int .i64 x475001_5, .string x475002_5, .int .i64 x475003_5, .int .i64 x475004_5, .int .i64 x475005_5, .int .i64 x475006_5, .int .i64 x475007_5] 30 (0, 0)) u13_4 NB474_0.out u13_12); have n2_ := Aside0.mk (KeepBut.trans u13_2 hk (.inl rfl)); have n3_ := Aside0.mk (hb); have n4_ := Aside0.mk (hi); clear BK457; clear BK474; clear HK; clear HB; clear HI0; have BK457 := n0_; have BK474 := n1_; have HK := n2_; have HB := n3_; have HI0 := n4_; clear n0_ n1_ n2_ n3_ n4_; (try clear hb); (try clear hb2); (try clear hk); (try clear hi); have hnb73 := NB474_457.out; have hnc73 := NB457_474.out; have hnb74 := NB474_0.out; have hnc74 := NB0_474.out; obtain ⟨hcz75_0, hcz75_1, hcz75_2, hcz75_3, hcz75_4, hcz75_5, hcz75_6, hcz75_7, hfz75_0, hfz75_1, hfz75_2, hfz75_3, hfz75_4, hfz75_5, hfz75_6, hfz75_7⟩ := cf8 BK474.out; have hnb76 := NB457_0.out; have hnc76 := NB0_457.out; obtain ⟨hcz77_0, hcz77_1, hcz77_2, hcz77_3, hcz77_4, hcz77_5, hcz77_6, hcz77_7, hfz77_0, hfz77_1, hfz77_2, hfz77_3, hfz77_4, hfz77_5, hfz77_6, hfz77_7⟩ := cf8 BK457.out))
      refine bodyPost_ret (results_cell_row rfl _ _ gb457 30 #[.string x475000_5, .int .i64 x475001_5, .string x475002_5, .int .i64 t509, .int .i64 t510, .int .i64 x475005_5, .int .i64 x475006_5, .int .i64 x475007_5] (0, 0) _ rfl (by (with_reducible repeat (first | refine blk_drewN ?_ _ | refine blk_drew ?_ | refine blk_alloc ?_ _)); refine blk_put (cs := #[.string x475000_5, .int .i64 x475001_5, .string x475002_5, .int .i64 t509, .int .i64 t510, .int .i64 x475005_5, .int .i64 x475006_5, .int .i64 0]) ?_ 7 _ rfl; refine blk_put (cs := #[.string x475000_5, .int .i64 x475001_5, .string x475002_5, .int .i64 t509, .int .i64 t510, .int .i64 x475005_5, .int .i64 0, .int .i64 0]) ?_ 6 _ rfl; refine blk_put (cs := #[.string x475000_5, .int .i64 x475001_5, .string x475002_5, .int .i64 t509, .int .i64 t510, .int .i64 0, .int .i64 0, .int .i64 0]) ?_ 5 _ rfl; refine blk_put (cs := #[.string x475000_5, .int .i64 x475001_5, .string x475002_5, .int .i64 t509, .int .i64 0, .int .i64 0, .int .i64 0, .int .i64 0]) ?_ 4 _ rfl; refine blk_put (cs := #[.string x475000_5, .int .i64 x475001_5, .string x475002_5, .int .i64 0, .int .i64 0, .int .i64 0, .int .i64 0, .int .i64 0]) ?_ 3 _ rfl; refine blk_put (cs := #[.string x475000_5, .int .i64 x475001_5, .string (⟨#[]⟩ : ByteArray), .int .i64 0, .int .i64 0, .int .i64 0, .int .i64 0, .int .i64 0]) ?_ 2 _ rfl; (with_reducible repeat (first | refine blk_drewN ?_ _ | refine blk_drew ?_ | refine blk_alloc ?_ _)); refine blk_put (cs := #[.string x475000_5, .int .i64 0, .string (⟨#[]⟩ : ByteArray), .int .i64 0, .int .i64 0, .int .i64 0, .int .i64 0, .int .i64 0]) ?_ 1 _ rfl; (with_reducible repeat (first | refine blk_drewN ?_ _ | refine blk_drew ?_ | refine blk_alloc ?_ _)); refine blk_put (cs := #[.string (⟨#[]⟩ : ByteArray), .int .i64 0, .string (⟨#[]⟩ : ByteArray), .int .i64 0, .int .i64 0, .int .i64 0, .int .i64 0, .int .i64 0]) ?_ 0 _ rfl; (with_reducible repeat (first | refine blk_drewN ?_ _ | refine blk_drew ?_ | refine blk_alloc ?_ _)); refine blk_far ?_ NB457_474.out _; (with_reducible repeat (first | refine blk_drewN ?_ _ | refine blk_drew ?_ | refine blk_alloc ?_ _)); refine blk_far ?_ NB457_474.out _; (with_reducible repeat (first | refine blk_drewN ?_ _ | refine blk_drew ?_ | refine blk_alloc ?_ _)); exact BK457.out) Try.underlying30 rfl (by kernel_rfl)) rfl ?_
      exact ⟨by first | rfl | (simp [*] <;> rfl), s13_0, s13_1, s13_2⟩
     ·rw [if_neg c69] at H
      have c69b0 : (t500 == 2) = false := beq_eq_false_iff_ne.mpr c69
      have c69b1 : (t500 != 2) = true := bne_iff_ne.mpr c69
      simp only [Option.some.injEq, Prod.mk.injEq] at H
      obtain ⟨rfl, rfl, rfl, rfl, rfl, rfl, rfl, rfl, rfl, rfl⟩ := H
      go_wp2_with (first | ((with_reducible refine gate_callee (f := 84) rfl ?_); refine goesL_ (some 41) rfl rfl Try.func84 (by kernel_rfl) rfl #[.pointer (some ⟨g, 0, none⟩), .int .i64 12] rfl u13_0 ?_; (with_reducible refine (spec_l1Below.calls g s0_0 x1001_5 x1002_5 12 t500 t501 t502 w0 _ ?side1 ?side2 A50.out).mono ?_); (case side1 => exact s13_0); (case side2 => exact s13_1); rintro e w78 ⟨rfl, hi, hb, hk⟩; refine ⟨_, rfl, ?_⟩; have n0_ := Aside0.mk (KeepBut.blk hk (g' := gb457) (o := .cells #[.string (⟨#[]⟩ : ByteArray), .int .i64 0, .string (⟨#[]⟩ : ByteArray), .int .i64 0, .int .i64 0, .int .i64 0, .int .i64 0, .int .i64 0] 30 (0, 0)) u13_3 NB457_0.out u13_12); have n1_ := Aside0.mk (KeepBut.blk hk (g' := gb474) (o := .cells #[.string x475000_5, .int .i64 x475001_5, .string x475002_5, .int .i64 x475003_5, .int .i64 x475004_5, .int .i64 x475005_5, .int .i64 x475006_5, .int .i64 x475007_5] 30 (0, 0)) u13_4 NB474_0.out u13_12); have n2_ := Aside0.mk (KeepBut.trans u13_2 hk (.inl rfl)); have n3_ := Aside0.mk (hb); have n4_ := Aside0.mk (hi); clear BK457; clear BK474; clear HK; clear HB; clear HI0; have BK457 := n0_; have BK474 := n1_; have HK := n2_; have HB := n3_; have HI0 := n4_; clear n0_ n1_ n2_ n3_ n4_; (try clear hb); (try clear hb2); (try clear hk); (try clear hi); have hnb79 := NB474_457.out; have hnc79 := NB457_474.out; have hnb80 := NB474_0.out; have hnc80 := NB0_474.out; obtain ⟨hcz81_0, hcz81_1, hcz81_2, hcz81_3, hcz81_4, hcz81_5, hcz81_6, hcz81_7, hfz81_0, hfz81_1, hfz81_2, hfz81_3, hfz81_4, hfz81_5, hfz81_6, hfz81_7⟩ := cf8 BK474.out; have hnb82 := NB457_0.out; have hnc82 := NB0_457.out; obtain ⟨hcz83_0, hcz83_1, hcz83_2, hcz83_3, hcz83_4, hcz83_5, hcz83_6, hcz83_7, hfz83_0, hfz83_1, hfz83_2, hfz83_3, hfz83_4, hfz83_5, hfz83_6, hfz83_7⟩ := cf8 BK457.out))
      refine bodyPost_ret (results_cell_row rfl _ _ gb457 30 #[.string x475000_5, .int .i64 x475001_5, .string x475002_5, .int .i64 x475003_5, .int .i64 x475004_5, .int .i64 x475005_5, .int .i64 x475006_5, .int .i64 x475007_5] (0, 0) _ rfl (by (with_reducible repeat (first | refine blk_drewN ?_ _ | refine blk_drew ?_ | refine blk_alloc ?_ _)); refine blk_put (cs := #[.string x475000_5, .int .i64 x475001_5, .string x475002_5, .int .i64 x475003_5, .int .i64 x475004_5, .int .i64 x475005_5, .int .i64 x475006_5, .int .i64 0]) ?_ 7 _ rfl; refine blk_put (cs := #[.string x475000_5, .int .i64 x475001_5, .string x475002_5, .int .i64 x475003_5, .int .i64 x475004_5, .int .i64 x475005_5, .int .i64 0, .int .i64 0]) ?_ 6 _ rfl; refine blk_put (cs := #[.string x475000_5, .int .i64 x475001_5, .string x475002_5, .int .i64 x475003_5, .int .i64 x475004_5, .int .i64 0, .int .i64 0, .int .i64 0]) ?_ 5 _ rfl; refine blk_put (cs := #[.string x475000_5, .int .i64 x475001_5, .string x475002_5, .int .i64 x475003_5, .int .i64 0, .int .i64 0, .int .i64 0, .int .i64 0]) ?_ 4 _ rfl; refine blk_put (cs := #[.string x475000_5, .int .i64 x475001_5, .string x475002_5, .int .i64 0, .int .i64 0, .int .i64 0, .int .i64 0, .int .i64 0]) ?_ 3 _ rfl; refine blk_put (cs := #[.string x475000_5, .int .i64 x475001_5, .string (⟨#[]⟩ : ByteArray), .int .i64 0, .int .i64 0, .int .i64 0, .int .i64 0, .int .i64 0]) ?_ 2 _ rfl; (with_reducible repeat (first | refine blk_drewN ?_ _ | refine blk_drew ?_ | refine blk_alloc ?_ _)); refine blk_put (cs := #[.string x475000_5, .int .i64 0, .string (⟨#[]⟩ : ByteArray), .int .i64 0, .int .i64 0, .int .i64 0, .int .i64 0, .int .i64 0]) ?_ 1 _ rfl; (with_reducible repeat (first | refine blk_drewN ?_ _ | refine blk_drew ?_ | refine blk_alloc ?_ _)); refine blk_put (cs := #[.string (⟨#[]⟩ : ByteArray), .int .i64 0, .string (⟨#[]⟩ : ByteArray), .int .i64 0, .int .i64 0, .int .i64 0, .int .i64 0, .int .i64 0]) ?_ 0 _ rfl; (with_reducible repeat (first | refine blk_drewN ?_ _ | refine blk_drew ?_ | refine blk_alloc ?_ _)); exact BK457.out) Try.underlying30 rfl (by kernel_rfl)) rfl ?_
      exact ⟨by first | rfl | (simp [*] <;> rfl), s13_0, s13_1, s13_2⟩

def spec_l6List.l0 : Nat → List (S30) → List ByteArray → Int → Int → List Int → Int → Int → Option ((List (S30)) × Int × Int)
 | 0, _, _, _, _, _, _, _ => none
 | k + 1, x3, x23, x24, x25, x1000, x1001, x1002 => if x25 < x24 then (if 0 ≤ x25 then (if x25 < (x23.length : Int) then (if x3.length < 1759218604441 then (spec_l6List.l0 k (x3 ++ [(⟨rdOf ByteArray.empty x23 x25, 1, (⟨#[]⟩ : ByteArray), (⟨0, 0⟩ : S28), 0, 0, 0⟩ : S30)]) x23 x24 (wrap64 (x25 + 1)) x1000 x1001 x1002) else (none)) else (none)) else (none)) else (some (x3, x1001, x1002))
def spec_l6List.f (k : Nat) (s0_0 : List Int) (s0_1 : Int) (s0_2 : Int) : Option ((List (S30)) × Int × Int) := (spec_l6Draw.f k s0_0 s0_1 s0_2).bind fun bt516 => ((spec_l1Below.f s0_0 bt516.2.1 bt516.2.2 12).bind fun bt521 => (if bt521.1 = 0 then ((spec_l6Any.f k s0_0 bt521.2.1 bt521.2.2).bind fun bt524 => (if bt516.1.length < 1759218604441 then (some ((bt516.1 ++ [(⟨bt524.1, bt524.2.1, bt524.2.2.1, (⟨bt524.2.2.2.1, bt524.2.2.2.2.1⟩ : S28), bt524.2.2.2.2.2.1, bt524.2.2.2.2.2.2.1, bt524.2.2.2.2.2.2.2.1⟩ : S30)]), bt524.2.2.2.2.2.2.2.2.1, bt524.2.2.2.2.2.2.2.2.2)) else (none))) else (if bt521.1 = 1 then (if 1 ≤ (bt516.1.length : Int) then (some ((bt516.1.drop (1 : Int).toNat), bt521.2.1, bt521.2.2)) else (none)) else (if bt521.1 = 2 then ((some (([(⟨#[115]⟩ : ByteArray), (⟨#[116]⟩ : ByteArray), (⟨#[117]⟩ : ByteArray), (⟨#[118]⟩ : ByteArray), (⟨#[119]⟩ : ByteArray), (⟨#[120]⟩ : ByteArray)] : List ByteArray) : List ByteArray)).bind fun y540 => (spec_l6List.l0 k bt516.1 y540 (y540.length : Int) 0 s0_0 bt521.2.1 bt521.2.2)) else (some (bt516.1, bt521.2.1, bt521.2.2))))))
theorem spec_l6List.mono_l : ∀ k, (∀ y0 y1 y2 y3 y4 y5 y6, LeO (spec_l6List.l0 k y0 y1 y2 y3 y4 y5 y6) (spec_l6List.l0 (k + 1) y0 y1 y2 y3 y4 y5 y6))
 | 0 => fun _ _ _ _ _ _ _ r h => by simp [spec_l6List.l0] at h
 | k + 1 => by
  have ih0 := spec_l6List.mono_l k
  ·intro y0 y1 y2 y3 y4 y5 y6
   unfold spec_l6List.l0
   repeat' first
   | (with_reducible exact ih0 _ _ _ _ _ _ _)
   | (with_reducible exact spec_l6Any.mono _ _ _ _)
   | (with_reducible exact spec_l6Draw.mono _ _ _ _)
   | (with_reducible exact LeO.refl _)
   | (with_reducible exact LeO.none _)
   | (with_reducible refine LeO.ite ?_ ?_)
   | (with_reducible refine LeO.bind ?_ (fun _ => ?_))
theorem spec_l6List.mono : ∀ a0 a1 a2 k, LeO (spec_l6List.f k a0 a1 a2) (spec_l6List.f (k + 1) a0 a1 a2) := by
 intro a0 a1 a2 k
 have ih0 := spec_l6List.mono_l k
 unfold spec_l6List.f
 repeat' first
   | (with_reducible exact ih0 _ _ _ _ _ _ _)
   | (with_reducible exact spec_l6Any.mono _ _ _ _)
   | (with_reducible exact spec_l6Draw.mono _ _ _ _)
   | (with_reducible exact LeO.refl _)
   | (with_reducible exact LeO.none _)
   | (with_reducible refine LeO.ite ?_ ?_)
   | (with_reducible refine LeO.bind ?_ (fun _ => ?_))
set_option maxHeartbeats 8000000 in
set_option maxRecDepth 100000 in
theorem spec_l6List.calls (k : Nat) (g : Nat) (s0_0 : List Int) (s0_1 : Int) (s0_2 : Int) (r1 : List (S30)) (r2 : Int) (r3 : Int) (w0 w : World) (hI : IsS95 w0 w g s0_0 s0_1 s0_2) (hB : Below w0.heap.size w0 w) (h : spec_l6List.f k s0_0 s0_1 s0_2 = some (r1, r2, r3)) :
  Calls Try.prog 77 #[.pointer (some ⟨g, 0, none⟩)] w fun e w' => ∃ v0_ : Value, e = .returned (v0_) ∧ Kd.Q k30 30 w' w.heap.size (fun _ => True) v0_ r1 ∧ IsS95 w0 w' g s0_0 r2 r3 ∧ Below w0.heap.size w0 w' ∧ KeepBut w w' g none := by
 have hu30 := Try.underlying30
 have HI0 := Aside0.mk hI
 have HK := Aside0.mk (KeepBut.refl w g none)
 have HL := Aside0.mk hB.size
 clear hI
 have HW0 := Aside0.mk hB.size
 have HB := Aside0.mk hB
 clear hB
 have H : ((spec_l6Draw.f k s0_0 s0_1 s0_2).bind fun bt516 => ((spec_l1Below.f s0_0 bt516.2.1 bt516.2.2 12).bind fun bt521 => (if bt521.1 = 0 then ((spec_l6Any.f k s0_0 bt521.2.1 bt521.2.2).bind fun bt524 => (if bt516.1.length < 1759218604441 then (some ((bt516.1 ++ [(⟨bt524.1, bt524.2.1, bt524.2.2.1, (⟨bt524.2.2.2.1, bt524.2.2.2.2.1⟩ : S28), bt524.2.2.2.2.2.1, bt524.2.2.2.2.2.2.1, bt524.2.2.2.2.2.2.2.1⟩ : S30)]), bt524.2.2.2.2.2.2.2.2.1, bt524.2.2.2.2.2.2.2.2.2)) else (none))) else (if bt521.1 = 1 then (if 1 ≤ (bt516.1.length : Int) then (some ((bt516.1.drop (1 : Int).toNat), bt521.2.1, bt521.2.2)) else (none)) else (if bt521.1 = 2 then ((some (([(⟨#[115]⟩ : ByteArray), (⟨#[116]⟩ : ByteArray), (⟨#[117]⟩ : ByteArray), (⟨#[118]⟩ : ByteArray), (⟨#[119]⟩ : ByteArray), (⟨#[120]⟩ : ByteArray)] : List ByteArray) : List ByteArray)).bind fun y540 => (spec_l6List.l0 k bt516.1 y540 (y540.length : Int) 0 s0_0 bt521.2.1 bt521.2.2)) else (some (bt516.1, bt521.2.1, bt521.2.2))))))) = some (r1, r2, r3) := h
 clear h
 replace H := Option.bind_eq_some_iff.mp H
 obtain ⟨⟨t516, t519, t520⟩, A20, H⟩ := H
 replace H : ((spec_l1Below.f s0_0 t519 t520 12).bind fun bt521 => (if bt521.1 = 0 then ((spec_l6Any.f k s0_0 bt521.2.1 bt521.2.2).bind fun bt524 => (if t516.length < 1759218604441 then (some ((t516 ++ [(⟨bt524.1, bt524.2.1, bt524.2.2.1, (⟨bt524.2.2.2.1, bt524.2.2.2.2.1⟩ : S28), bt524.2.2.2.2.2.1, bt524.2.2.2.2.2.2.1, bt524.2.2.2.2.2.2.2.1⟩ : S30)]), bt524.2.2.2.2.2.2.2.2.1, bt524.2.2.2.2.2.2.2.2.2)) else (none))) else (if bt521.1 = 1 then (if 1 ≤ (t516.length : Int) then (some ((t516.drop (1 : Int).toNat), bt521.2.1, bt521.2.2)) else (none)) else (if bt521.1 = 2 then ((some (([(⟨#[115]⟩ : ByteArray), (⟨#[116]⟩ : ByteArray), (⟨#[117]⟩ : ByteArray), (⟨#[118]⟩ : ByteArray), (⟨#[119]⟩ : ByteArray), (⟨#[120]⟩ : ByteArray)] : List ByteArray) : List ByteArray)).bind fun y540 => (spec_l6List.l0 k t516 y540 (y540.length : Int) 0 s0_0 bt521.2.1 bt521.2.2)) else (some (t516, bt521.2.1, bt521.2.2)))))) = some (r1, r2, r3) := H
 have A2 := Aside0.mk A20
 clear A20
 replace H := Option.bind_eq_some_iff.mp H
 obtain ⟨⟨t521, t522, t523⟩, A30, H⟩ := H
 replace H : (if t521 = 0 then ((spec_l6Any.f k s0_0 t522 t523).bind fun bt524 => (if t516.length < 1759218604441 then (some ((t516 ++ [(⟨bt524.1, bt524.2.1, bt524.2.2.1, (⟨bt524.2.2.2.1, bt524.2.2.2.2.1⟩ : S28), bt524.2.2.2.2.2.1, bt524.2.2.2.2.2.2.1, bt524.2.2.2.2.2.2.2.1⟩ : S30)]), bt524.2.2.2.2.2.2.2.2.1, bt524.2.2.2.2.2.2.2.2.2)) else (none))) else (if t521 = 1 then (if 1 ≤ (t516.length : Int) then (some ((t516.drop (1 : Int).toNat), t522, t523)) else (none)) else (if t521 = 2 then ((some (([(⟨#[115]⟩ : ByteArray), (⟨#[116]⟩ : ByteArray), (⟨#[117]⟩ : ByteArray), (⟨#[118]⟩ : ByteArray), (⟨#[119]⟩ : ByteArray), (⟨#[120]⟩ : ByteArray)] : List ByteArray) : List ByteArray)).bind fun y540 => (spec_l6List.l0 k t516 y540 (y540.length : Int) 0 s0_0 t522 t523)) else (some (t516, t522, t523))))) = some (r1, r2, r3) := H
 have A3 := Aside0.mk A30
 clear A30
 by_cases c4 : t521 = 0
 ·rw [if_pos c4] at H
  have c4b0 : (t521 == 0) = true := beq_iff_eq.mpr c4
  have c4b1 : (t521 != 0) = false := bne_eq_false_iff_eq.mpr c4
  clear c4
  replace H := Option.bind_eq_some_iff.mp H
  obtain ⟨⟨t524, t525, t526, t527, t528, t529, t530, t531, t532, t533⟩, A50, H⟩ := H
  replace H : (if t516.length < 1759218604441 then (some ((t516 ++ [(⟨t524, t525, t526, (⟨t527, t528⟩ : S28), t529, t530, t531⟩ : S30)]), t532, t533)) else (none)) = some (r1, r2, r3) := H
  have A5 := Aside0.mk A50
  clear A50
  by_cases c6 : t516.length < 1759218604441
  ·rw [if_pos c6] at H
   have LMc6 := Aside0.mk c6
   clear c6
   obtain ⟨y534, hy534⟩ : ∃ y_ : List (S30), y_ = (t516 ++ [(⟨t524, t525, t526, (⟨t527, t528⟩ : S28), t529, t530, t531⟩ : S30)]) := ⟨_, rfl⟩
   replace H : (some (y534, t532, t533)) = some (r1, r2, r3) := by first | (rw [hy534]; with_reducible exact H) | (have H2_ := (Option.bind_some _ _).symm.trans H; rw [hy534]; with_reducible exact H2_) | (have H2_ := (Option.bind_some _ _).symm.trans H; with_reducible exact H2_) | with_reducible exact H | (rw [hy534]; exact H) | exact H
   have Ny534 := Aside0.mk hy534
   clear hy534
   simp only [Option.some.injEq, Prod.mk.injEq] at H
   obtain ⟨rfl, rfl, rfl⟩ := H
   go_enter Try.func77, Try.ntmps77
   go_wp2_with (first | ((with_reducible refine gate_callee (f := 66) rfl ?_); refine goesL_ (some 7) rfl rfl Try.func66 (by kernel_rfl) rfl #[.pointer (some ⟨g, 0, none⟩)] rfl u13_0 ?_; (with_reducible refine (spec_l6Draw.calls k g s0_0 s0_1 s0_2 t516 t519 t520 w0 _ ?side1 ?side2 A2.out).mono ?_); (case side1 => exact s13_8); (case side2 => exact s13_7); rintro e w7 ⟨v517, rfl, ho0, hi, hb, hk⟩; refine ⟨_, rfl, ?_⟩; have n0_ := Aside0.mk (Kd.R_lower ho0 (keep_size (w := w) (g := g) (row := none) u13_1)); have n1_ := Aside0.mk (KeepBut.trans u13_1 hk (.inl rfl)); have n2_ := Aside0.mk (hb); have n3_ := Aside0.mk (hi); clear HK; clear HB; clear HI0; have HO518 := n0_; have HK := n1_; have HB := n2_; have HI0 := n3_; clear n0_ n1_ n2_ n3_; (try clear hb); (try clear hb2); (try clear hk); (try clear hi); (try clear ho0)) | ((with_reducible refine gate_callee (f := 84) rfl ?_); refine goesL_ (some 9) rfl rfl Try.func84 (by kernel_rfl) rfl #[.pointer (some ⟨g, 0, none⟩), .int .i64 12] rfl u13_0 ?_; (with_reducible refine (spec_l1Below.calls g s0_0 t519 t520 12 t521 t522 t523 w0 _ ?side1 ?side2 A3.out).mono ?_); (case side1 => exact s13_8); (case side2 => exact s13_7); rintro e w8 ⟨rfl, hi, hb, hk⟩; refine ⟨_, rfl, ?_⟩; have n0_ := Aside0.mk (Kd.R_mono (Kd.R_keep (IsS95.apart (show IsS95 w0 _ g s0_0 t519 t520 from by repeat (first | (with_reducible first | exact HI0.out | apply IsS95.alloc | apply IsS95.drewN | apply IsS95.drew | apply IsS95.set_1 | apply IsS95.set_2) | exact HI0.out)) u13_6 (by decide)) hk (fun _ h => h.2)) (fun _ h => h.1)); have n1_ := Aside0.mk (KeepBut.trans u13_1 hk (.inl rfl)); have n2_ := Aside0.mk (hb); have n3_ := Aside0.mk (hi); clear HO518; clear HK; clear HB; clear HI0; have HO518 := n0_; have HK := n1_; have HB := n2_; have HI0 := n3_; clear n0_ n1_ n2_ n3_; (try clear hb); (try clear hb2); (try clear hk); (try clear hi)) | ((with_reducible refine gate_callee (f := 78) rfl ?_); refine goesL_ (some 14) rfl rfl Try.func78 (by kernel_rfl) rfl #[.pointer (some ⟨g, 0, none⟩)] rfl u13_0 ?_; (with_reducible refine (spec_l6Any.calls k g s0_0 t522 t523 t524 t525 t526 t527 t528 t529 t530 t531 t532 t533 w0 _ ?side1 ?side2 A5.out).mono ?_); (case side1 => exact s13_8); (case side2 => exact s13_7); rintro e w9 ⟨rfl, hi, hb, hk⟩; refine ⟨_, rfl, ?_⟩; have n0_ := Aside0.mk (Kd.R_mono (Kd.R_keep (IsS95.apart (show IsS95 w0 _ g s0_0 t522 t523 from by repeat (first | (with_reducible first | exact HI0.out | apply IsS95.alloc | apply IsS95.drewN | apply IsS95.drew | apply IsS95.set_1 | apply IsS95.set_2) | exact HI0.out)) u13_6 (by decide)) hk (fun _ h => h.2)) (fun _ h => h.1)); have n1_ := Aside0.mk (KeepBut.trans u13_1 hk (.inl rfl)); have n2_ := Aside0.mk (hb); have n3_ := Aside0.mk (hi); clear HO518; clear HK; clear HB; clear HI0; have HO518 := n0_; have HK := n1_; have HB := n2_; have HI0 := n3_; clear n0_ n1_ n2_ n3_; (try clear hb); (try clear hb2); (try clear hk); (try clear hi)) | ((with_reducible refine gate_builtin (b := .append) (xs := #[.tmp 12, .tmp 15]) rfl ?_); at_builtin; refine Kd.R_append k30 w.heap.size rfl (.tmp 12) (.tmp 15) 36 30 (.agg #[(.string ⟨#[]⟩), (.int .i64 0), (.string ⟨#[]⟩), (.int .i64 0), (.int .i64 0), (.int .i64 0), (.int .i64 0), (.int .i64 0)]) 80 rfl Try.underlying36 info30 rfl (by decide) (by omega) v517 t516 (⟨t524, t525, t526, (⟨t527, t528⟩ : S28), t529, t530, t531⟩ : S30) [.string t524, .int .i64 t525, .string t526, .int .i64 t527, .int .i64 t528, .int .i64 t529, .int .i64 t530, .int .i64 t531] (fun _ => True) (fun _ => False) rfl rfl ?aP (fun _ hk => hk.elim) ?aF ?aO (Below.refl _ _) ?aS ?aL ?_; (case aP => exact k30_mkM _ _ _ (⟨t524, t525, t526, (⟨t527, t528⟩ : S28), t529, t530, t531⟩ : S30)); (case aF => exact (fun _ _ => trivial)); (case aO => exact u13_6); (case aS => exact (keep_size (w := w) (g := g) (row := none) u13_1)); (case aL => have := LMc6.out; omega); intro v535 w10 ho hb hg hat; rw [← Ny534.out] at ho; have n0_ := Aside0.mk (IsS95.grown u13_9 hg (IsS95.own_ne HI0.out HO518.out (by decide))); have n1_ := Aside0.mk (below_weaken u13_8 HL.out hb); have n2_ := Aside0.mk (KeepBut.trans u13_1 (KeepBut.of_grown hg g) (Kd.R_base2 HO518.out)); have n3_ := Aside0.mk (ho); clear HI0; clear HB; clear HK; clear HO518; have HI0 := n0_; have HB := n1_; have HK := n2_; have HO536 := n3_; clear n0_ n1_ n2_ n3_; clear ho hb hg hat))
   go_ret
   exact ⟨_, by first | rfl | (simp [*] <;> rfl), Kd.Q_of_R (by (with_reducible repeat (first | apply Kd.R_alloc | apply Kd.R_drewN | apply Kd.R_drew)); exact HO536.out), s13_8, s13_7, s13_9⟩
  ·rw [if_neg c6] at H
   exact absurd H u13_12
 ·rw [if_neg c4] at H
  have c4b0 : (t521 == 0) = false := beq_eq_false_iff_ne.mpr c4
  have c4b1 : (t521 != 0) = true := bne_iff_ne.mpr c4
  by_cases c11 : t521 = 1
  ·rw [if_pos c11] at H
   have c11b0 : (t521 == 1) = true := beq_iff_eq.mpr c11
   have c11b1 : (t521 != 1) = false := bne_eq_false_iff_eq.mpr c11
   clear c11
   by_cases c12 : 1 ≤ (t516.length : Int)
   ·rw [if_pos c12] at H
    have c12b0 := eq_true c12
    have c12b1 : decide (1 ≤ (t516.length : Int)) = true := decide_eq_true c12
    clear c12
    obtain ⟨y537, hy537⟩ : ∃ y_ : List (S30), y_ = (t516.drop (1 : Int).toNat) := ⟨_, rfl⟩
    replace H : (some (y537, t522, t523)) = some (r1, r2, r3) := by first | (rw [hy537]; with_reducible exact H) | (have H2_ := (Option.bind_some _ _).symm.trans H; rw [hy537]; with_reducible exact H2_) | (have H2_ := (Option.bind_some _ _).symm.trans H; with_reducible exact H2_) | with_reducible exact H | (rw [hy537]; exact H) | exact H
    have Ny537 := Aside0.mk hy537
    clear hy537
    simp only [Option.some.injEq, Prod.mk.injEq] at H
    obtain ⟨rfl, rfl, rfl⟩ := H
    go_enter Try.func77, Try.ntmps77
    go_wp2_with (first | ((with_reducible refine gate_callee (f := 66) rfl ?_); refine goesL_ (some 7) rfl rfl Try.func66 (by kernel_rfl) rfl #[.pointer (some ⟨g, 0, none⟩)] rfl u13_0 ?_; (with_reducible refine (spec_l6Draw.calls k g s0_0 s0_1 s0_2 t516 t519 t520 w0 _ ?side1 ?side2 A2.out).mono ?_); (case side1 => exact s13_8); (case side2 => exact s13_7); rintro e w13 ⟨v517, rfl, ho0, hi, hb, hk⟩; refine ⟨_, rfl, ?_⟩; have n0_ := Aside0.mk (Kd.R_lower ho0 (keep_size (w := w) (g := g) (row := none) u13_1)); have n1_ := Aside0.mk (KeepBut.trans u13_1 hk (.inl rfl)); have n2_ := Aside0.mk (hb); have n3_ := Aside0.mk (hi); clear HK; clear HB; clear HI0; have HO518 := n0_; have HK := n1_; have HB := n2_; have HI0 := n3_; clear n0_ n1_ n2_ n3_; (try clear hb); (try clear hb2); (try clear hk); (try clear hi); (try clear ho0)) | ((with_reducible refine gate_callee (f := 84) rfl ?_); refine goesL_ (some 9) rfl rfl Try.func84 (by kernel_rfl) rfl #[.pointer (some ⟨g, 0, none⟩), .int .i64 12] rfl u13_0 ?_; (with_reducible refine (spec_l1Below.calls g s0_0 t519 t520 12 t521 t522 t523 w0 _ ?side1 ?side2 A3.out).mono ?_); (case side1 => exact s13_8); (case side2 => exact s13_7); rintro e w14 ⟨rfl, hi, hb, hk⟩; refine ⟨_, rfl, ?_⟩; have n0_ := Aside0.mk (Kd.R_mono (Kd.R_keep (IsS95.apart (show IsS95 w0 _ g s0_0 t519 t520 from by repeat (first | (with_reducible first | exact HI0.out | apply IsS95.alloc | apply IsS95.drewN | apply IsS95.drew | apply IsS95.set_1 | apply IsS95.set_2) | exact HI0.out)) u13_6 (by decide)) hk (fun _ h => h.2)) (fun _ h => h.1)); have n1_ := Aside0.mk (KeepBut.trans u13_1 hk (.inl rfl)); have n2_ := Aside0.mk (hb); have n3_ := Aside0.mk (hi); clear HO518; clear HK; clear HB; clear HI0; have HO518 := n0_; have HK := n1_; have HB := n2_; have HI0 := n3_; clear n0_ n1_ n2_ n3_; (try clear hb); (try clear hb2); (try clear hk); (try clear hi); obtain ⟨Ao15, co15, eo15⟩ := Kd.R_slice HO518.out; subst eo15; have q16 : (1 : Int) ≤ ((t516.length : Int) : Int) := of_decide_eq_true (by assumption); obtain ⟨i016, hi016, _, hsz16, _⟩ := info_parts info30; have hcut16 := cut_from (P := Try.prog) 36 30 .i64 Try.underlying36 hi016 8 hsz16 Ao15 t516.length co15 1 (by omega) q16; have hr16 := Kd.Q_drop (k := (1 : Int).toNat) (Kd.Q_of_R HO518.out) (by omega); obtain ⟨A16, hA16⟩ : ∃ A1, A1 = (if co15 = (1 : Int).toNat then Ao15 else (Ao15 : Option Addr).map (·.add ((1 : Int).toNat * 8))) := ⟨_, rfl⟩; obtain ⟨c16, hc16⟩ : ∃ c1, c1 = co15 - (1 : Int).toNat := ⟨_, rfl⟩; have hy16 : y537.length = t516.length - (1 : Int).toNat := (by rw [Ny537.out, List.length_drop]); rw [← Ny537.out] at hr16; rw [← hy16, ← hA16, ← hc16] at hcut16; replace hr16 : Kd.Q k30 30 w14 w.heap.size (fun _ => True) (.slice A16 y537.length c16) y537 := (by rw [hA16, hc16, hy16]; exact hr16); have HE16 : Aside0 ((Value.slice A16 y537.length c16).ownBlock = (.slice Ao15 t516.length co15 : Value).ownBlock) := ⟨by rw [hA16]; split <;> (cases (Ao15 : Option Addr) <;> rfl)⟩; clear hy16 hi016 hsz16 HO518 hA16 hc16; have HO539 := Aside0.mk hr16; clear hr16; replace q16 := eq_true q16))
    go_ret
    exact ⟨_, by first | rfl | (simp [*] <;> rfl), by (with_reducible repeat (first | apply Kd.Q_alloc | apply Kd.Q_drewN | apply Kd.Q_drew)); exact HO539.out, s13_8, s13_7, s13_9⟩
   ·rw [if_neg c12] at H
    exact absurd H u13_12
  ·rw [if_neg c11] at H
   have c11b0 : (t521 == 1) = false := beq_eq_false_iff_ne.mpr c11
   have c11b1 : (t521 != 1) = true := bne_iff_ne.mpr c11
   by_cases c17 : t521 = 2
   ·rw [if_pos c17] at H
    have c17b0 : (t521 == 2) = true := beq_iff_eq.mpr c17
    have c17b1 : (t521 != 2) = false := bne_eq_false_iff_eq.mpr c17
    clear c17
    obtain ⟨y540, hy540⟩ : ∃ y_ : List ByteArray, y_ = (([(⟨#[115]⟩ : ByteArray), (⟨#[116]⟩ : ByteArray), (⟨#[117]⟩ : ByteArray), (⟨#[118]⟩ : ByteArray), (⟨#[119]⟩ : ByteArray), (⟨#[120]⟩ : ByteArray)] : List ByteArray)) := ⟨_, rfl⟩
    replace H : (spec_l6List.l0 k t516 y540 (y540.length : Int) 0 s0_0 t522 t523) = some (r1, r2, r3) := by first | (rw [hy540]; with_reducible exact H) | (have H2_ := (Option.bind_some _ _).symm.trans H; rw [hy540]; with_reducible exact H2_) | (have H2_ := (Option.bind_some _ _).symm.trans H; with_reducible exact H2_) | with_reducible exact H | (rw [hy540]; exact H) | exact H
    have Ny540 := Aside0.mk hy540
    clear hy540
    have H' := Aside0.mk H
    clear H
    go_enter Try.func77, Try.ntmps77
    go_wp2_with (first | ((with_reducible refine gate_callee (f := 66) rfl ?_); refine goesL_ (some 7) rfl rfl Try.func66 (by kernel_rfl) rfl #[.pointer (some ⟨g, 0, none⟩)] rfl u13_0 ?_; (with_reducible refine (spec_l6Draw.calls k g s0_0 s0_1 s0_2 t516 t519 t520 w0 _ ?side1 ?side2 A2.out).mono ?_); (case side1 => exact s13_8); (case side2 => exact s13_7); rintro e w18 ⟨v517, rfl, ho0, hi, hb, hk⟩; refine ⟨_, rfl, ?_⟩; have n0_ := Aside0.mk (Kd.R_lower ho0 (keep_size (w := w) (g := g) (row := none) u13_1)); have n1_ := Aside0.mk (KeepBut.trans u13_1 hk (.inl rfl)); have n2_ := Aside0.mk (hb); have n3_ := Aside0.mk (hi); clear HK; clear HB; clear HI0; have HO518 := n0_; have HK := n1_; have HB := n2_; have HI0 := n3_; clear n0_ n1_ n2_ n3_; (try clear hb); (try clear hb2); (try clear hk); (try clear hi); (try clear ho0)) | ((with_reducible refine gate_callee (f := 84) rfl ?_); refine goesL_ (some 9) rfl rfl Try.func84 (by kernel_rfl) rfl #[.pointer (some ⟨g, 0, none⟩), .int .i64 12] rfl u13_0 ?_; (with_reducible refine (spec_l1Below.calls g s0_0 t519 t520 12 t521 t522 t523 w0 _ ?side1 ?side2 A3.out).mono ?_); (case side1 => exact s13_8); (case side2 => exact s13_7); rintro e w19 ⟨rfl, hi, hb, hk⟩; refine ⟨_, rfl, ?_⟩; have n0_ := Aside0.mk (Kd.R_mono (Kd.R_keep (IsS95.apart (show IsS95 w0 _ g s0_0 t519 t520 from by repeat (first | (with_reducible first | exact HI0.out | apply IsS95.alloc | apply IsS95.drewN | apply IsS95.drew | apply IsS95.set_1 | apply IsS95.set_2) | exact HI0.out)) u13_6 (by decide)) hk (fun _ h => h.2)) (fun _ h => h.1)); have n1_ := Aside0.mk (KeepBut.trans u13_1 hk (.inl rfl)); have n2_ := Aside0.mk (hb); have n3_ := Aside0.mk (hi); clear HO518; clear HK; clear HB; clear HI0; have HO518 := n0_; have HK := n1_; have HB := n2_; have HI0 := n3_; clear n0_ n1_ n2_ n3_; (try clear hb); (try clear hb2); (try clear hk); (try clear hi)) | ((with_reducible refine gate_dst (N := 23) rfl ?_); refine Kd.R_lit Kd.string _ 9 ?hg (N := 23) ?hd (xs := ([(⟨#[115]⟩ : ByteArray), (⟨#[116]⟩ : ByteArray), (⟨#[117]⟩ : ByteArray), (⟨#[118]⟩ : ByteArray), (⟨#[119]⟩ : ByteArray), (⟨#[120]⟩ : ByteArray)] : List ByteArray)) (inner := [.string (⟨#[115]⟩ : ByteArray), .string (⟨#[116]⟩ : ByteArray), .string (⟨#[117]⟩ : ByteArray), .string (⟨#[118]⟩ : ByteArray), .string (⟨#[119]⟩ : ByteArray), .string (⟨#[120]⟩ : ByteArray)]) (ok := fun _ => True) (okp := fun _ => True) ?hr ?hp (fun _ hk => hk) trivial (Below.refl _ _) (Nat.le_refl _) u13_12 ?_; (case hd => rfl); (case hg => rfl); (case hr => exact gq); (case hp => exact (Reps.one (show Kd.M Kd.string _ _ _ (⟨#[115]⟩ : ByteArray) [.string (⟨#[115]⟩ : ByteArray)] from rfl) (Reps.one (show Kd.M Kd.string _ _ _ (⟨#[116]⟩ : ByteArray) [.string (⟨#[116]⟩ : ByteArray)] from rfl) (Reps.one (show Kd.M Kd.string _ _ _ (⟨#[117]⟩ : ByteArray) [.string (⟨#[117]⟩ : ByteArray)] from rfl) (Reps.one (show Kd.M Kd.string _ _ _ (⟨#[118]⟩ : ByteArray) [.string (⟨#[118]⟩ : ByteArray)] from rfl) (Reps.one (show Kd.M Kd.string _ _ _ (⟨#[119]⟩ : ByteArray) [.string (⟨#[119]⟩ : ByteArray)] from rfl) (Reps.one (show Kd.M Kd.string _ _ _ (⟨#[120]⟩ : ByteArray) [.string (⟨#[120]⟩ : ByteArray)] from rfl) (Reps.none _ _)))))))); intro v541 w20 ho21 hb hg_ hnew_; clear hg_ hnew_; (first | rw [← Ny540.out] at ho21 | (simp only [Int.reduceToNat] at ho21; rw [← Ny540.out] at ho21)); have n0_ := Aside0.mk (Kd.R_below u13_6 hb); have n1_ := Aside0.mk (Kd.R_lower ho21 (keep_size (w := w) (g := g) (row := none) u13_1)); have n2_ := Aside0.mk (IsS95.below u13_9 hb); have n3_ := Aside0.mk (KeepBut.trans u13_1 (KeepBut.of_below hb g none) (.inl rfl)); have n4_ := Aside0.mk (below_step u13_8 hb); clear HO518; clear HI0; clear HK; clear HB; have HO518 := n0_; have HO542 := n1_; have HI0 := n2_; have HK := n3_; have HB := n4_; clear n0_ n1_ n2_ n3_ n4_; clear hb ho21; obtain ⟨Ao22, co22, eo22⟩ := Kd.R_slice HO542.out; subst eo22))
    go_loopg [3, 25] k (fun kq v3 v25 w' => ∃ (x3_1 : List (S30)) (x25_1 : Int), v25 = .int .i64 x25_1 ∧ Aside0 (spec_l6List.l0 kq x3_1 y540 (y540.length : Int) x25_1 s0_0 t522 t523 = some (r1, r2, r3)) ∧ Aside0 (kq ≤ k) ∧ Aside0 (Kd.Q k30 30 w' w.heap.size (fun _ => True) v3 x3_1) ∧ Aside0 (Kd.R Kd.string 9 w' w.heap.size (fun _ => True) (.slice Ao22 y540.length co22) y540) ∧ Aside0 (IsS95 w0 w' g s0_0 t522 t523) ∧ Aside0 (KeepBut w w' g none) ∧ Aside0 (Below w0.heap.size w0 w'))
    case atStart => exact ⟨(t516), (0), u13_11, H', ⟨Nat.le_refl _⟩, ⟨Kd.Q_of_R u13_6⟩, ⟨by (with_reducible repeat (first | apply Kd.R_alloc | apply Kd.R_drewN | apply Kd.R_drew)); exact HO542.out⟩, ⟨s13_8⟩, ⟨s13_9⟩, ⟨s13_7⟩⟩
    case round =>
     clear H'
     try clear c1
     try clear q1
     try clear p2
     try clear c4
     try clear c4b0
     try clear c4b1
     try clear c6
     try clear c7
     try clear c8
     try clear c11
     try clear c11b0
     try clear c11b1
     try clear c12
     try clear c12b0
     try clear c12b1
     try clear c16
     try clear q16
     try clear c17
     try clear c17b0
     try clear c17b1
     try clear q16
     obtain ⟨x3_1, x25_1, rfl, HA, HK1, HO_3, HO_23, HI0, HK, HB⟩ := hrel
     cases gk with
     | zero => exact absurd HA.out (by simp [spec_l6List.l0])
     | succ k1 =>
      have H := HA.out
      clear HA
      simp only [spec_l6List.l0] at H
      by_cases c23 : x25_1 < (y540.length : Int)
      ·rw [if_pos c23] at H
       have c23b0 : decide (x25_1 < (y540.length : Int)) = true := decide_eq_true c23
       clear c23
       by_cases c24 : 0 ≤ x25_1
       ·rw [if_pos c24] at H
        have c24b0 : decide (0 ≤ x25_1) = true := decide_eq_true c24
        clear c24
        by_cases c25 : x25_1 < (y540.length : Int)
        ·rw [if_pos c25] at H
         have c25b0 : decide (x25_1 < (y540.length : Int)) = true := decide_eq_true c25
         clear c25
         by_cases c26 : x3_1.length < 1759218604441
         ·rw [if_pos c26] at H
          have LMc26 := Aside0.mk c26
          clear c26
          obtain ⟨y544, hy544⟩ : ∃ y_ : List (S30), y_ = (x3_1 ++ [(⟨rdOf ByteArray.empty y540 x25_1, 1, (⟨#[]⟩ : ByteArray), (⟨0, 0⟩ : S28), 0, 0, 0⟩ : S30)]) := ⟨_, rfl⟩
          replace H : (spec_l6List.l0 k1 y544 y540 (y540.length : Int) (wrap64 (x25_1 + 1)) s0_0 t522 t523) = some (r1, r2, r3) := by first | (rw [hy544]; with_reducible exact H) | (have H2_ := (Option.bind_some _ _).symm.trans H; rw [hy544]; with_reducible exact H2_) | (have H2_ := (Option.bind_some _ _).symm.trans H; with_reducible exact H2_) | with_reducible exact H | (rw [hy544]; exact H) | exact H
          have Ny544 := Aside0.mk hy544
          clear hy544
          have H' := Aside0.mk H
          clear H
          have p543 : 0 ≤ (x25_1 : Int) := of_decide_eq_true (by assumption)
          have q543 : x25_1 < (y540.length : Int) := of_decide_eq_true (by assumption)
          obtain ⟨ad543, e543, hx543_0⟩ := Kd.at_string (Kd.R_reads' HO_23.out).2.2 x25_1 p543 q543
          cases e543
          replace p543 := eq_true p543
          replace q543 := eq_true q543
          go_wp2_with (first | ((with_reducible refine gate_builtin (b := .append) (xs := #[.tmp 29, .tmp 32]) rfl ?_); at_builtin; refine Kd.Q_append k30 w.heap.size rfl (.tmp 29) (.tmp 32) 36 30 (.agg #[(.string ⟨#[]⟩), (.int .i64 0), (.string ⟨#[]⟩), (.int .i64 0), (.int .i64 0), (.int .i64 0), (.int .i64 0), (.int .i64 0)]) 80 rfl Try.underlying36 info30 rfl (by decide) (by omega) u3 x3_1 (⟨rdOf ByteArray.empty y540 x25_1, 1, (⟨#[]⟩ : ByteArray), (⟨0, 0⟩ : S28), 0, 0, 0⟩ : S30) [.string (rdOf ByteArray.empty y540 x25_1), .int .i64 1, .string (⟨#[]⟩ : ByteArray), .int .i64 0, .int .i64 0, .int .i64 0, .int .i64 0, .int .i64 0] (fun _ => True) (fun _ => False) rfl rfl ?aP (fun _ hk => hk.elim) ?aF ?aO (Below.refl _ _) ?aS ?aL ?_; (case aP => exact k30_mkM _ _ _ (⟨rdOf ByteArray.empty y540 x25_1, 1, (⟨#[]⟩ : ByteArray), (⟨0, 0⟩ : S28), 0, 0, 0⟩ : S30)); (case aF => exact (fun _ _ => trivial)); (case aO => exact (by (with_reducible repeat (first | apply Kd.Q_alloc | apply Kd.Q_drewN | apply Kd.Q_drew)); exact HO_3.out)); (case aS => exact (keep_size (w := w) (g := g) (row := none) u13_1)); (case aL => have := LMc26.out; omega); intro v545 w27 ho hb hg hat; rw [← Ny544.out] at ho; have n0_ := Aside0.mk (Kd.R_over' (by (with_reducible repeat (first | apply Kd.R_alloc | apply Kd.R_drewN | apply Kd.R_drew)); exact HO_23.out) (Kd.Q_typed (by (with_reducible repeat (first | apply Kd.Q_alloc | apply Kd.Q_drewN | apply Kd.Q_drew)); exact HO_3.out)) (by decide) hg); have n1_ := Aside0.mk (IsS95.grown u13_9 hg (IsS95.own_neQ HI0.out HO_3.out (by decide))); have n2_ := Aside0.mk (below_weaken u13_8 HL.out hb); have n3_ := Aside0.mk (KeepBut.trans u13_1 (KeepBut.of_grown hg g) (Kd.Q_base2 HO_3.out)); have n4_ := Aside0.mk (ho); clear HO_23; clear HI0; clear HB; clear HK; clear HO_3; have HO_23 := n0_; have HI0 := n1_; have HB := n2_; have HK := n3_; have HO546 := n4_; clear n0_ n1_ n2_ n3_ n4_; clear ho hb hg hat))
          go_roundg k1
          case measure => have := HK1.out; omega
          case rel => exact ⟨(y544), (wrap64 (x25_1 + 1)), u13_11, H', ⟨by have := HK1.out; omega⟩, ⟨by (with_reducible repeat (first | apply Kd.Q_alloc | apply Kd.Q_drewN | apply Kd.Q_drew)); exact HO546.out⟩, ⟨by (with_reducible repeat (first | apply Kd.R_alloc | apply Kd.R_drewN | apply Kd.R_drew)); exact HO_23.out⟩, ⟨s13_8⟩, ⟨s13_9⟩, ⟨s13_7⟩⟩
         ·rw [if_neg c26] at H
          exact absurd H u13_12
        ·rw [if_neg c25] at H
         exact absurd H u13_12
       ·rw [if_neg c24] at H
        exact absurd H u13_12
      ·rw [if_neg c23] at H
       have c23b0 : decide (x25_1 < (y540.length : Int)) = false := decide_eq_false c23
       clear c23
       simp only [Option.some.injEq, Prod.mk.injEq] at H
       obtain ⟨rfl, rfl, rfl⟩ := H
       go_wp2
       go_ret
       exact ⟨_, by first | rfl | (simp [*] <;> rfl), by (with_reducible repeat (first | apply Kd.Q_alloc | apply Kd.Q_drewN | apply Kd.Q_drew)); exact HO_3.out, s13_8, s13_7, s13_9⟩
   ·rw [if_neg c17] at H
    have c17b0 : (t521 == 2) = false := beq_eq_false_iff_ne.mpr c17
    have c17b1 : (t521 != 2) = true := bne_iff_ne.mpr c17
    simp only [Option.some.injEq, Prod.mk.injEq] at H
    obtain ⟨rfl, rfl, rfl⟩ := H
    go_enter Try.func77, Try.ntmps77
    go_wp2_with (first | ((with_reducible refine gate_callee (f := 66) rfl ?_); refine goesL_ (some 7) rfl rfl Try.func66 (by kernel_rfl) rfl #[.pointer (some ⟨g, 0, none⟩)] rfl u13_0 ?_; (with_reducible refine (spec_l6Draw.calls k g s0_0 s0_1 s0_2 t516 t519 t520 w0 _ ?side1 ?side2 A2.out).mono ?_); (case side1 => exact s13_8); (case side2 => exact s13_7); rintro e w28 ⟨v517, rfl, ho0, hi, hb, hk⟩; refine ⟨_, rfl, ?_⟩; have n0_ := Aside0.mk (Kd.R_lower ho0 (keep_size (w := w) (g := g) (row := none) u13_1)); have n1_ := Aside0.mk (KeepBut.trans u13_1 hk (.inl rfl)); have n2_ := Aside0.mk (hb); have n3_ := Aside0.mk (hi); clear HK; clear HB; clear HI0; have HO518 := n0_; have HK := n1_; have HB := n2_; have HI0 := n3_; clear n0_ n1_ n2_ n3_; (try clear hb); (try clear hb2); (try clear hk); (try clear hi); (try clear ho0)) | ((with_reducible refine gate_callee (f := 84) rfl ?_); refine goesL_ (some 9) rfl rfl Try.func84 (by kernel_rfl) rfl #[.pointer (some ⟨g, 0, none⟩), .int .i64 12] rfl u13_0 ?_; (with_reducible refine (spec_l1Below.calls g s0_0 t519 t520 12 t521 t522 t523 w0 _ ?side1 ?side2 A3.out).mono ?_); (case side1 => exact s13_8); (case side2 => exact s13_7); rintro e w29 ⟨rfl, hi, hb, hk⟩; refine ⟨_, rfl, ?_⟩; have n0_ := Aside0.mk (Kd.R_mono (Kd.R_keep (IsS95.apart (show IsS95 w0 _ g s0_0 t519 t520 from by repeat (first | (with_reducible first | exact HI0.out | apply IsS95.alloc | apply IsS95.drewN | apply IsS95.drew | apply IsS95.set_1 | apply IsS95.set_2) | exact HI0.out)) u13_6 (by decide)) hk (fun _ h => h.2)) (fun _ h => h.1)); have n1_ := Aside0.mk (KeepBut.trans u13_1 hk (.inl rfl)); have n2_ := Aside0.mk (hb); have n3_ := Aside0.mk (hi); clear HO518; clear HK; clear HB; clear HI0; have HO518 := n0_; have HK := n1_; have HB := n2_; have HI0 := n3_; clear n0_ n1_ n2_ n3_; (try clear hb); (try clear hb2); (try clear hk); (try clear hi)))
    go_ret
    exact ⟨_, by first | rfl | (simp [*] <;> rfl), Kd.Q_of_R u13_6, s13_8, s13_7, s13_9⟩

def spec_DrawAddDevice.f (k : Nat) (l0 : List Int) : Option ((List (S30)) × ByteArray × Int × ByteArray × Int × Int × Int × Int × Int) := (spec_l1New.f k l0).bind fun bt548 => ((spec_l6List.f k bt548.1 bt548.2.1 bt548.2.2).bind fun bt552 => ((spec_l6Any.f k bt548.1 bt552.2.1 bt552.2.2).bind fun bt557 => (some (bt552.1, bt557.1, bt557.2.1, bt557.2.2.1, bt557.2.2.2.1, bt557.2.2.2.2.1, bt557.2.2.2.2.2.1, bt557.2.2.2.2.2.2.1, bt557.2.2.2.2.2.2.2.1))))
theorem spec_DrawAddDevice.mono : ∀ a0 k, LeO (spec_DrawAddDevice.f k a0) (spec_DrawAddDevice.f (k + 1) a0) := by
 intro a0 k
 unfold spec_DrawAddDevice.f
 repeat' first
   | (with_reducible exact spec_l1New.mono _ _)
   | (with_reducible exact spec_l6Any.mono _ _ _ _)
   | (with_reducible exact spec_l6List.mono _ _ _ _)
   | (with_reducible exact LeO.refl _)
   | (with_reducible exact LeO.none _)
   | (with_reducible refine LeO.ite ?_ ?_)
   | (with_reducible refine LeO.bind ?_ (fun _ => ?_))
set_option maxHeartbeats 8000000 in
set_option maxRecDepth 100000 in
theorem spec_DrawAddDevice.calls (k : Nat) (A0 : Option Addr) (c0 : Nat) (l0 : List Int) (r1 : List (S30)) (r2 : ByteArray) (r3 : Int) (r4 : ByteArray) (r5 : Int) (r6 : Int) (r7 : Int) (r8 : Int) (r9 : Int) (w : World) (hr0 : Kd.C (Kd.int .u8) w A0 l0.length l0) (hc0 : l0.length ≤ c0) (h : spec_DrawAddDevice.f k l0 = some (r1, r2, r3, r4, r5, r6, r7, r8, r9)) :
  Calls Try.prog 49 #[.slice A0 l0.length c0] w fun e w' => ∃ v0_ : Value, e = .returned (.tuple #[v0_, .agg #[.string r2, .int .i64 r3, .string r4, .int .i64 r5, .int .i64 r6, .int .i64 r7, .int .i64 r8, .int .i64 r9]]) ∧ Kd.Q k30 30 w' w.heap.size (fun _ => True) v0_ r1 ∧ Below w.heap.size w w' := by
 have hu30 := Try.underlying30
 have HR0 := Aside0.mk hr0
 have HC0 := Aside0.mk hc0
 clear hr0 hc0
 have HB := Aside0.mk (Below.refl w.heap.size w)
 have H : ((spec_l1New.f k l0).bind fun bt548 => ((spec_l6List.f k bt548.1 bt548.2.1 bt548.2.2).bind fun bt552 => ((spec_l6Any.f k bt548.1 bt552.2.1 bt552.2.2).bind fun bt557 => (some (bt552.1, bt557.1, bt557.2.1, bt557.2.2.1, bt557.2.2.2.1, bt557.2.2.2.2.1, bt557.2.2.2.2.2.1, bt557.2.2.2.2.2.2.1, bt557.2.2.2.2.2.2.2.1))))) = some (r1, r2, r3, r4, r5, r6, r7, r8, r9) := h
 clear h
 replace H := Option.bind_eq_some_iff.mp H
 obtain ⟨⟨t548, t549, t550⟩, A20, H⟩ := H
 replace H : ((spec_l6List.f k t548 t549 t550).bind fun bt552 => ((spec_l6Any.f k t548 bt552.2.1 bt552.2.2).bind fun bt557 => (some (bt552.1, bt557.1, bt557.2.1, bt557.2.2.1, bt557.2.2.2.1, bt557.2.2.2.2.1, bt557.2.2.2.2.2.1, bt557.2.2.2.2.2.2.1, bt557.2.2.2.2.2.2.2.1)))) = some (r1, r2, r3, r4, r5, r6, r7, r8, r9) := H
 have A2 := Aside0.mk A20
 clear A20
 replace H := Option.bind_eq_some_iff.mp H
 obtain ⟨⟨t552, t555, t556⟩, A30, H⟩ := H
 replace H : ((spec_l6Any.f k t548 t555 t556).bind fun bt557 => (some (t552, bt557.1, bt557.2.1, bt557.2.2.1, bt557.2.2.2.1, bt557.2.2.2.2.1, bt557.2.2.2.2.2.1, bt557.2.2.2.2.2.2.1, bt557.2.2.2.2.2.2.2.1))) = some (r1, r2, r3, r4, r5, r6, r7, r8, r9) := H
 have A3 := Aside0.mk A30
 clear A30
 replace H := Option.bind_eq_some_iff.mp H
 obtain ⟨⟨t557, t558, t559, t560, t561, t562, t563, t564, t565, t566⟩, A40, H⟩ := H
 replace H : (some (t552, t557, t558, t559, t560, t561, t562, t563, t564)) = some (r1, r2, r3, r4, r5, r6, r7, r8, r9) := H
 have A4 := Aside0.mk A40
 clear A40
 simp only [Option.some.injEq, Prod.mk.injEq] at H
 obtain ⟨rfl, rfl, rfl, rfl, rfl, rfl, rfl, rfl, rfl⟩ := H
 go_enter Try.func49, Try.ntmps49
 go_wp2_with (first | ((with_reducible refine gate_dst (N := 3) rfl ?_); refine box_event ?hg (N := 3) ?hd (cs := #[.string (⟨#[]⟩ : ByteArray), .int .i64 0, .string (⟨#[]⟩ : ByteArray), .int .i64 0, .int .i64 0, .int .i64 0, .int .i64 0, .int .i64 0]) (t := 30) ?hr ?_; (case hd => rfl); (case hg => rfl); (case hr => exact gq); intro gb547 hg w5 hbox hb; have n0_ := Aside0.mk (below_step u13_10 hb); have n1_ := Aside0.mk (hbox); have n2_ := bsw w hg (below_size u13_10); have n3_ := bsw w hg (below_size u13_10); clear HB; have HB := n0_; have BK547 := n1_; have GW547 := n2_; have GE547 := n3_; clear n0_ n1_ n2_ n3_; clear hb hbox hg) | ((with_reducible refine gate_callee (f := 67) rfl ?_); refine goesL_ (some 6) rfl rfl Try.func67 (by kernel_rfl) rfl #[.slice A0 l0.length c0] rfl u13_0 ?_; (with_reducible refine (spec_l1New.calls k _ _ l0 t548 t549 t550 w _ ?side1 ?side2 ?side3 A2.out).mono ?_); (case side1 => repeat (first | (with_reducible first | exact HB.out | apply below_alloc | apply pw_below_drewN | apply below_drew1 | refine below_set ?_ GE547.out) | exact HB.out)); (case side2 => exact HR0.out); (case side3 => exact HC0.out); rintro e w6 ⟨g551, rfl, hi, hb, hb2⟩; refine ⟨_, rfl, ?_⟩; have n0_ := Aside0.mk (blk_below (g := gb547) (o := .cells #[.string (⟨#[]⟩ : ByteArray), .int .i64 0, .string (⟨#[]⟩ : ByteArray), .int .i64 0, .int .i64 0, .int .i64 0, .int .i64 0, .int .i64 0] 30 (0, 0)) u13_7 hb2); have n1_ := Aside0.mk (hb); have n2_ := Aside0.mk (hi); have n3_ := Aside0.mk (IsS95.ne_blk hi (blk_below (g := gb547) (o := .cells #[.string (⟨#[]⟩ : ByteArray), .int .i64 0, .string (⟨#[]⟩ : ByteArray), .int .i64 0, .int .i64 0, .int .i64 0, .int .i64 0, .int .i64 0] 30 (0, 0)) u13_7 hb2) (by decide)); have n4_ := Aside0.mk (Ne.symm (IsS95.ne_blk hi (blk_below (g := gb547) (o := .cells #[.string (⟨#[]⟩ : ByteArray), .int .i64 0, .string (⟨#[]⟩ : ByteArray), .int .i64 0, .int .i64 0, .int .i64 0, .int .i64 0, .int .i64 0] 30 (0, 0)) u13_7 hb2) (by decide))); clear BK547; clear HB; have BK547 := n0_; have HB := n1_; have HI551 := n2_; have NB551_547 := n3_; have NB547_551 := n4_; clear n0_ n1_ n2_ n3_ n4_; (try clear hb); (try clear hb2); (try clear hk); (try clear hi)) | ((with_reducible refine gate_callee (f := 77) rfl ?_); refine goesL_ (some 8) rfl rfl Try.func77 (by kernel_rfl) rfl #[.pointer (some ⟨g551, 0, none⟩)] rfl u13_0 ?_; (with_reducible refine (spec_l6List.calls k g551 t548 t549 t550 t552 t555 t556 w _ ?side1 ?side2 A3.out).mono ?_); (case side1 => exact s13_3); (case side2 => exact s13_4); rintro e w7 ⟨v553, rfl, ho0, hi, hb, hk⟩; refine ⟨_, rfl, ?_⟩; have n0_ := Aside0.mk (KeepBut.blk hk (g' := gb547) (o := .cells #[.string (⟨#[]⟩ : ByteArray), .int .i64 0, .string (⟨#[]⟩ : ByteArray), .int .i64 0, .int .i64 0, .int .i64 0, .int .i64 0, .int .i64 0] 30 (0, 0)) u13_7 NB547_551.out u13_12); have n1_ := Aside0.mk (Kd.Q_lower (Kd.Q_newB ho0 (g := gb547) (o := .cells #[.string (⟨#[]⟩ : ByteArray), .int .i64 0, .string (⟨#[]⟩ : ByteArray), .int .i64 0, .int .i64 0, .int .i64 0, .int .i64 0, .int .i64 0] 30 (0, 0)) u13_7) (below_size (by repeat (first | (with_reducible first | exact HB.out | apply below_alloc | apply pw_below_drewN | apply below_drew1 | refine below_set ?_ (IsS95.ge HI551.out) | refine below_set ?_ GE547.out) | exact HB.out)))); have n2_ := Aside0.mk (hb); have n3_ := Aside0.mk (hi); clear BK547; clear HB; clear HI551; have BK547 := n0_; have HO554 := n1_; have HB := n2_; have HI551 := n3_; clear n0_ n1_ n2_ n3_; (try clear hb); (try clear hb2); (try clear hk); (try clear hi); (try clear ho0)) | ((with_reducible refine gate_callee (f := 78) rfl ?_); refine goesL_ (some 10) rfl rfl Try.func78 (by kernel_rfl) rfl #[.pointer (some ⟨g551, 0, none⟩)] rfl u13_0 ?_; (with_reducible refine (spec_l6Any.calls k g551 t548 t555 t556 t557 t558 t559 t560 t561 t562 t563 t564 t565 t566 w _ ?side1 ?side2 A4.out).mono ?_); (case side1 => exact s13_3); (case side2 => exact s13_4); rintro e w8 ⟨rfl, hi, hb, hk⟩; refine ⟨_, rfl, ?_⟩; have n0_ := Aside0.mk (KeepBut.blk hk (g' := gb547) (o := .cells #[.string (⟨#[]⟩ : ByteArray), .int .i64 0, .string (⟨#[]⟩ : ByteArray), .int .i64 0, .int .i64 0, .int .i64 0, .int .i64 0, .int .i64 0] 30 (0, 0)) u13_7 NB547_551.out u13_12); have n1_ := Aside0.mk (Kd.Q_mono (Kd.Q_keep (IsS95.apartQ (show IsS95 w _ g551 t548 t555 t556 from by repeat (first | (with_reducible first | exact HI551.out | apply IsS95.alloc | apply IsS95.drewN | apply IsS95.drew | apply IsS95.set_1 | apply IsS95.set_2 | refine IsS95.far ?_ NB551_547.out _) | exact HI551.out)) (by (with_reducible repeat (first | apply Kd.Q_alloc | apply Kd.Q_drewN | apply Kd.Q_drew)); exact HO554.out) (by decide)) hk (fun _ h => h.2)) (fun _ h => h.1)); have n2_ := Aside0.mk (hb); have n3_ := Aside0.mk (hi); clear BK547; clear HO554; clear HB; clear HI551; have BK547 := n0_; have HO554 := n1_; have HB := n2_; have HI551 := n3_; clear n0_ n1_ n2_ n3_; (try clear hb); (try clear hb2); (try clear hk); (try clear hi); have hnb9 := NB547_551.out; have hnc9 := NB551_547.out; obtain ⟨hcz10_0, hcz10_1, hcz10_2, hcz10_3, hcz10_4, hcz10_5, hcz10_6, hcz10_7, hfz10_0, hfz10_1, hfz10_2, hfz10_3, hfz10_4, hfz10_5, hfz10_6, hfz10_7⟩ := cf8 BK547.out))
 refine bodyPost_ret (results_tc rfl _ _ gb547 30 #[.string t557, .int .i64 t558, .string t559, .int .i64 t560, .int .i64 t561, .int .i64 t562, .int .i64 t563, .int .i64 t564] (0, 0) _ rfl (by (with_reducible repeat (first | refine blk_drewN ?_ _ | refine blk_drew ?_ | refine blk_alloc ?_ _)); refine blk_put (cs := #[.string t557, .int .i64 t558, .string t559, .int .i64 t560, .int .i64 t561, .int .i64 t562, .int .i64 t563, .int .i64 0]) ?_ 7 _ rfl; refine blk_put (cs := #[.string t557, .int .i64 t558, .string t559, .int .i64 t560, .int .i64 t561, .int .i64 t562, .int .i64 0, .int .i64 0]) ?_ 6 _ rfl; refine blk_put (cs := #[.string t557, .int .i64 t558, .string t559, .int .i64 t560, .int .i64 t561, .int .i64 0, .int .i64 0, .int .i64 0]) ?_ 5 _ rfl; refine blk_put (cs := #[.string t557, .int .i64 t558, .string t559, .int .i64 t560, .int .i64 0, .int .i64 0, .int .i64 0, .int .i64 0]) ?_ 4 _ rfl; refine blk_put (cs := #[.string t557, .int .i64 t558, .string t559, .int .i64 0, .int .i64 0, .int .i64 0, .int .i64 0, .int .i64 0]) ?_ 3 _ rfl; refine blk_put (cs := #[.string t557, .int .i64 t558, .string (⟨#[]⟩ : ByteArray), .int .i64 0, .int .i64 0, .int .i64 0, .int .i64 0, .int .i64 0]) ?_ 2 _ rfl; (with_reducible repeat (first | refine blk_drewN ?_ _ | refine blk_drew ?_ | refine blk_alloc ?_ _)); refine blk_put (cs := #[.string t557, .int .i64 0, .string (⟨#[]⟩ : ByteArray), .int .i64 0, .int .i64 0, .int .i64 0, .int .i64 0, .int .i64 0]) ?_ 1 _ rfl; (with_reducible repeat (first | refine blk_drewN ?_ _ | refine blk_drew ?_ | refine blk_alloc ?_ _)); refine blk_put (cs := #[.string (⟨#[]⟩ : ByteArray), .int .i64 0, .string (⟨#[]⟩ : ByteArray), .int .i64 0, .int .i64 0, .int .i64 0, .int .i64 0, .int .i64 0]) ?_ 0 _ rfl; (with_reducible repeat (first | refine blk_drewN ?_ _ | refine blk_drew ?_ | refine blk_alloc ?_ _)); exact BK547.out) Try.underlying30 rfl (by kernel_rfl)) rfl ?_
 exact ⟨_, by first | rfl | (simp [*] <;> rfl), by (with_reducible repeat (first | apply Kd.Q_alloc | apply Kd.Q_drewN | apply Kd.Q_drew)); exact Kd.Q_mono (Kd.Q_far (p := ⟨gb547, 7, none⟩) (Kd.Q_far (p := ⟨gb547, 6, none⟩) (Kd.Q_far (p := ⟨gb547, 5, none⟩) (Kd.Q_far (p := ⟨gb547, 4, none⟩) (Kd.Q_far (p := ⟨gb547, 3, none⟩) (Kd.Q_far (p := ⟨gb547, 2, none⟩) (Kd.Q_far (p := ⟨gb547, 1, none⟩) (Kd.Q_far (p := ⟨gb547, 0, none⟩) (Kd.Q_mono HO554.out (fun k_ hk => (⟨hk, hk.2⟩ : _ ∧ k_ ≠ gb547))) (fun _ hk => hk.2) (.string t557)) (fun _ hk => hk.2) (.int .i64 t558)) (fun _ hk => hk.2) (.string t559)) (fun _ hk => hk.2) (.int .i64 t560)) (fun _ hk => hk.2) (.int .i64 t561)) (fun _ hk => hk.2) (.int .i64 t562)) (fun _ hk => hk.2) (.int .i64 t563)) (fun _ hk => hk.2) (.int .i64 t564)) (fun _ hk => trivial), s13_4⟩

end Go.Proofs.Ytkedcokhcgklpaa.MFnRig
