-- Written by a program for this claim.
import Derived.Test.YthofcclbkihemaaDoorMFnExactParseDevicex0
import Derived.Test.YthofcclbkihemaaDoorMFnExactParseDevicex11
import Derived.Test.YthofcclbkihemaaDoorMFnExactParseDevicex12
import Derived.Test.YthofcclbkihemaaDoorMFnExactParseDevicex13
namespace Go.Proofs.YthofcclbkihemaaDoor.MFnExactParseDevice
open Go.RowKit Go.Proofs.YthofcclbkihemaaDoorW.PrintWords Go.Proofs.YthofcclbkihemaaDoorW.PrintLast Go.Proofs.YthofcclbkihemaaDoorW.PrintMore
attribute [local go_sem] max2_int min2_int max_two min_two max_three min_three max_four min_four
set_option linter.unusedVariables false
set_option linter.unusedSimpArgs false
set_option maxHeartbeats 8000000
set_option maxRecDepth 100000

theorem s14_0 {p : Prop} (h : p := by repeat (first | (with_reducible first | exact HB.out | apply below_alloc | apply pw_below_drewN | apply below_drew1 | refine below_set ?_ GE291.out | refine below_set ?_ GE302.out) | exact HB.out)) : p := h
theorem s14_1 {p : Prop} (h : p := by repeat (first | (with_reducible first | exact HB.out | apply below_alloc | apply pw_below_drewN | apply below_drew1 | refine below_set ?_ GE323.out | refine below_set ?_ GE324.out) | exact HB.out)) : p := h
theorem v14_0 {p : Prop} (h : p := by decide) : p := h
theorem u14_0 {p : Prop} (h : p := by (with_reducible repeat (first | refine bN ?_ _ | refine bD ?_ | refine bA ?_ _)); refine blk_put (cs := zr6 (⟨#[]⟩ : ByteArray) 0 (⟨#[]⟩ : ByteArray) 0 0 0 0 0) ?_ 7 _ rfl; (with_reducible repeat (first | refine bN ?_ _ | refine bD ?_ | refine bA ?_ _)); refine blk_put (cs := zr6 (⟨#[]⟩ : ByteArray) 0 (⟨#[]⟩ : ByteArray) 0 0 0 0 0) ?_ 6 _ rfl; (with_reducible repeat (first | refine bN ?_ _ | refine bD ?_ | refine bA ?_ _)); refine blk_put (cs := zr6 (⟨#[]⟩ : ByteArray) 0 (⟨#[]⟩ : ByteArray) 0 0 0 0 0) ?_ 5 _ rfl; (with_reducible repeat (first | refine bN ?_ _ | refine bD ?_ | refine bA ?_ _)); refine blk_put (cs := zr6 (⟨#[]⟩ : ByteArray) 0 (⟨#[]⟩ : ByteArray) 0 0 0 0 0) ?_ 4 _ rfl; (with_reducible repeat (first | refine bN ?_ _ | refine bD ?_ | refine bA ?_ _)); refine blk_put (cs := zr6 (⟨#[]⟩ : ByteArray) 0 (⟨#[]⟩ : ByteArray) 0 0 0 0 0) ?_ 3 _ rfl; (with_reducible repeat (first | refine bN ?_ _ | refine bD ?_ | refine bA ?_ _)); refine blk_put (cs := zr6 (⟨#[]⟩ : ByteArray) 0 (⟨#[]⟩ : ByteArray) 0 0 0 0 0) ?_ 2 _ rfl; (with_reducible repeat (first | refine bN ?_ _ | refine bD ?_ | refine bA ?_ _)); refine blk_put (cs := zr6 (⟨#[]⟩ : ByteArray) 0 (⟨#[]⟩ : ByteArray) 0 0 0 0 0) ?_ 1 _ rfl; (with_reducible repeat (first | refine bN ?_ _ | refine bD ?_ | refine bA ?_ _)); refine blk_put (cs := zr6 (⟨#[]⟩ : ByteArray) 0 (⟨#[]⟩ : ByteArray) 0 0 0 0 0) ?_ 0 _ rfl; exact bd BK291.out) : p := h
theorem u14_1 {p : Prop} (h : p := by (with_reducible repeat (first | refine bN ?_ _ | refine bD ?_ | refine bA ?_ _)); refine blk_put (cs := zr6 (rdOf ByteArray.empty y298 1) 0 (⟨#[]⟩ : ByteArray) 0 0 0 0 0) ?_ 1 _ rfl; (with_reducible repeat (first | refine bN ?_ _ | refine bD ?_ | refine bA ?_ _)); refine blk_put (cs := zr6 (rdOf ByteArray.empty y298 1) 0 (⟨#[]⟩ : ByteArray) 0 0 0 0 0) ?_ 7 _ rfl; (with_reducible repeat (first | refine bN ?_ _ | refine bD ?_ | refine bA ?_ _)); refine blk_put (cs := zr6 (rdOf ByteArray.empty y298 1) 0 (⟨#[]⟩ : ByteArray) 0 0 0 0 0) ?_ 6 _ rfl; (with_reducible repeat (first | refine bN ?_ _ | refine bD ?_ | refine bA ?_ _)); refine blk_put (cs := zr6 (rdOf ByteArray.empty y298 1) 0 (⟨#[]⟩ : ByteArray) 0 0 0 0 0) ?_ 5 _ rfl; (with_reducible repeat (first | refine bN ?_ _ | refine bD ?_ | refine bA ?_ _)); refine blk_put (cs := zr6 (rdOf ByteArray.empty y298 1) 0 (⟨#[]⟩ : ByteArray) 0 0 0 0 0) ?_ 4 _ rfl; (with_reducible repeat (first | refine bN ?_ _ | refine bD ?_ | refine bA ?_ _)); refine blk_put (cs := zr6 (rdOf ByteArray.empty y298 1) 0 (⟨#[]⟩ : ByteArray) 0 0 0 0 0) ?_ 3 _ rfl; (with_reducible repeat (first | refine bN ?_ _ | refine bD ?_ | refine bA ?_ _)); refine blk_put (cs := zr6 (rdOf ByteArray.empty y298 1) 0 (⟨#[]⟩ : ByteArray) 0 0 0 0 0) ?_ 2 _ rfl; (with_reducible repeat (first | refine bN ?_ _ | refine bD ?_ | refine bA ?_ _)); refine blk_put (cs := zr6 (rdOf ByteArray.empty y298 1) 0 (⟨#[]⟩ : ByteArray) 0 0 0 0 0) ?_ 1 _ rfl; (with_reducible repeat (first | refine bN ?_ _ | refine bD ?_ | refine bA ?_ _)); refine blk_put (cs := zr6 (⟨#[]⟩ : ByteArray) 0 (⟨#[]⟩ : ByteArray) 0 0 0 0 0) ?_ 0 _ rfl; exact bd BK302.out) : p := h
theorem u14_2 {p : Prop} (h : p := by repeat (first | (with_reducible first | exact HB.out | apply below_alloc | apply pw_below_drewN | apply below_drew1 | refine below_set ?_ GE291.out | refine below_set ?_ GE302.out) | exact HB.out)) : p := h
theorem u14_3 {p : Prop} (h : p := by repeat (first | (with_reducible first | exact HB.out | apply below_alloc | apply pw_below_drewN | apply below_drew1) | exact HB.out)) : p := h
theorem u14_4 {p : Prop} (h : p := by (with_reducible repeat (first | refine bN ?_ _ | refine bD ?_ | refine bA ?_ _)); refine blk_far ?_ NB291_302.out _; (with_reducible repeat (first | refine bN ?_ _ | refine bD ?_ | refine bA ?_ _)); refine blk_far ?_ NB291_302.out _; (with_reducible repeat (first | refine bN ?_ _ | refine bD ?_ | refine bA ?_ _)); refine blk_far ?_ NB291_302.out _; (with_reducible repeat (first | refine bN ?_ _ | refine bD ?_ | refine bA ?_ _)); refine blk_far ?_ NB291_302.out _; (with_reducible repeat (first | refine bN ?_ _ | refine bD ?_ | refine bA ?_ _)); refine blk_far ?_ NB291_302.out _; (with_reducible repeat (first | refine bN ?_ _ | refine bD ?_ | refine bA ?_ _)); refine blk_far ?_ NB291_302.out _; (with_reducible repeat (first | refine bN ?_ _ | refine bD ?_ | refine bA ?_ _)); refine blk_far ?_ NB291_302.out _; (with_reducible repeat (first | refine bN ?_ _ | refine bD ?_ | refine bA ?_ _)); refine blk_far ?_ NB291_302.out _; (with_reducible repeat (first | refine bN ?_ _ | refine bD ?_ | refine bA ?_ _)); refine blk_far ?_ NB291_302.out _; exact bd BK291.out) : p := h
theorem u14_5 {p : Prop} (h : p := by repeat (first | (with_reducible first | exact HB.out | apply below_alloc | apply pw_below_drewN | apply below_drew1 | refine below_set ?_ GE323.out) | exact HB.out)) : p := h
theorem u14_6 {p : Prop} (h : p := by repeat (first | (with_reducible first | exact HB.out | apply below_alloc | apply pw_below_drewN | apply below_drew1 | refine below_set ?_ GE291.out) | exact HB.out)) : p := h
theorem u14_7 {p : Prop} (h : p := by (with_reducible repeat (first | refine bN ?_ _ | refine bD ?_ | refine bA ?_ _)); refine blk_far ?_ NB291_302.out _; exact bd BK291.out) : p := h
theorem u14_8 {p : Prop} (h : p := by exact bd BK323.out) : p := h
theorem u14_9 {p : Prop} (h : p := by (with_reducible repeat (first | refine bN ?_ _ | refine bD ?_ | refine bA ?_ _)); refine blk_put (cs := zr6 (rdOf ByteArray.empty y298 1) x303001_5 (⟨#[]⟩ : ByteArray) 0 0 x303005_5 x303006_5 x303007_5) ?_ 2 _ rfl; exact bd BK302.out) : p := h
theorem u14_10 {p : Prop} (h : p := by exact bd BK291.out) : p := h
theorem u14_11 {p : Prop} (h : p := by (with_reducible repeat (first | refine bN ?_ _ | refine bD ?_ | refine bA ?_ _)); refine blk_put (cs := zr6 (rdOf ByteArray.empty y298 1) x303001_5 (rdOf ByteArray.empty y298 3) t318 0 x303005_5 x303006_5 x303007_5) ?_ 4 _ rfl; refine blk_put (cs := zr6 (rdOf ByteArray.empty y298 1) x303001_5 (rdOf ByteArray.empty y298 3) 0 0 x303005_5 x303006_5 x303007_5) ?_ 3 _ rfl; exact bd BK302.out) : p := h
theorem u14_12 {p : Prop} (h : p := by (try simp only [List.map_toArray, List.map_cons, List.map_nil]); first | done | rfl) : p := h
theorem u14_13 {p : Prop} (h : p := by (with_reducible repeat (first | apply Kd.R_alloc | apply Kd.R_drewN | apply Kd.R_drew)); exact (Kd.R_mono (Kd.R_far (p := ⟨gb302, 2, none⟩) (Kd.R_types HO_4.out BK302.out v14_0) (fun _ hk => hk.2) (.string (rdOf ByteArray.empty y298 3))) (fun _ h_ => h_.1))) : p := h
theorem u14_14 {p : Prop} (h : p := by (with_reducible repeat (first | refine bN ?_ _ | refine bD ?_ | refine bA ?_ _)); refine blk_far ?_ NB291_302.out _; (with_reducible repeat (first | refine bN ?_ _ | refine bD ?_ | refine bA ?_ _)); refine blk_far ?_ NB291_302.out _; exact bd BK291.out) : p := h
theorem u14_16 {p : Prop} (h : p := by (with_reducible repeat (first | apply Kd.R_alloc | apply Kd.R_drewN | apply Kd.R_drew)); exact (Kd.R_mono (Kd.R_far (p := ⟨gb302, 4, none⟩) (Kd.R_far (p := ⟨gb302, 3, none⟩) (Kd.R_types HO_4.out BK302.out v14_0) (fun _ hk => hk.2) (.int .i64 t318)) (fun _ hk => hk.2) (.int .i64 t319)) (fun _ h_ => h_.1))) : p := h
theorem u14_17 {p : Prop} (h : p := by first | (rw [add_block]; exact hn317_0) | (show (Addr.add _ _).block ≠ _; rw [add_block]; exact hn317_0) | exact hn317_0) : p := h
theorem u14_18 {p : Prop} (h : p := by (with_reducible repeat (first | apply Kd.R_alloc | apply Kd.R_drewN | apply Kd.R_drew)); exact HO297.out) : p := h
/-! ### spec_ParseDevice: function 24 -/
def spec_ParseDevice.j0 : Nat → ByteArray → List ByteArray → ByteArray → Int → ByteArray → Int → Int → Int → Int → Int → Option (ByteArray × Int × ByteArray × Int × Int × Int × Int × Int × Bool)
 | 0, _, _, _, _, _, _, _, _, _, _ => none
 | k + 1, x0, x4, x303000, x303001, x303002, x303003, x303004, x303005, x303006, x303007 => if x303001 > 1 then (if 3 < (x4.length : Int) then (if 5 < (x4.length : Int) then ((spec_ParsePlace.f k (rdOf ByteArray.empty x4 5)).bind fun bt318 => (if x0.toList = ([] : List UInt8) then (some ((⟨#[]⟩ : ByteArray), 0, (⟨#[]⟩ : ByteArray), 0, 0, 0, 0, 0, false)) else ((spec_FormatDevice.f k x303000 x303001 (rdOf ByteArray.empty x4 3) bt318.1 bt318.2.1 x303005 x303006 x303007).bind fun t321 => (if t321.toList = x0.toList then (some (x303000, x303001, rdOf ByteArray.empty x4 3, bt318.1, bt318.2.1, x303005, x303006, x303007, true)) else (some ((⟨#[]⟩ : ByteArray), 0, (⟨#[]⟩ : ByteArray), 0, 0, 0, 0, 0, false)))))) else (none)) else (none)) else (if x0.toList = ([] : List UInt8) then (some ((⟨#[]⟩ : ByteArray), 0, (⟨#[]⟩ : ByteArray), 0, 0, 0, 0, 0, false)) else ((spec_FormatDevice.f k x303000 x303001 x303002 x303003 x303004 x303005 x303006 x303007).bind fun t322 => (if t322.toList = x0.toList then (some (x303000, x303001, x303002, x303003, x303004, x303005, x303006, x303007, true)) else (some ((⟨#[]⟩ : ByteArray), 0, (⟨#[]⟩ : ByteArray), 0, 0, 0, 0, 0, false)))))
def spec_ParseDevice.f (k : Nat) (a0 : ByteArray) : Option (ByteArray × Int × ByteArray × Int × Int × Int × Int × Int × Bool) := (spec_SplitAt.f k a0 (⟨#[32]⟩ : ByteArray)).bind fun t292 => ((some (([(⟨#[]⟩ : ByteArray), (⟨#[]⟩ : ByteArray), (⟨#[]⟩ : ByteArray), (⟨#[]⟩ : ByteArray), (⟨#[]⟩ : ByteArray), (⟨#[]⟩ : ByteArray), (⟨#[]⟩ : ByteArray), (⟨#[]⟩ : ByteArray), (⟨#[]⟩ : ByteArray), (⟨#[]⟩ : ByteArray), (⟨#[]⟩ : ByteArray)] : List ByteArray) : List ByteArray)).bind fun y295 => (if t292.length + y295.length < 8796093022208 then ((some (t292 ++ y295 : List ByteArray)).bind fun y298 => (if 1 < (y298.length : Int) then (if 0 < (y298.length : Int) then (if (rdOf ByteArray.empty y298 0).toList = ([112, 117, 109, 112] : List UInt8) then (if 3 < (y298.length : Int) then ((spec_ParseMeasure.f k (rdOf ByteArray.empty y298 3)).bind fun bt305 => (spec_ParseDevice.j0 k a0 y298 (rdOf ByteArray.empty y298 1) 1 (⟨#[]⟩ : ByteArray) 0 0 0 0 bt305.1)) else (none)) else (if (rdOf ByteArray.empty y298 0).toList = ([110, 111, 122, 122, 108, 101] : List UInt8) then (if 7 < (y298.length : Int) then ((spec_ParseNumber.f k (rdOf ByteArray.empty y298 7)).bind fun bt308 => (if 9 < (y298.length : Int) then ((spec_ParseMeasure.f k (rdOf ByteArray.empty y298 9)).bind fun bt311 => (if 11 < (y298.length : Int) then ((spec_ParseMeasure.f k (rdOf ByteArray.empty y298 11)).bind fun bt314 => (spec_ParseDevice.j0 k a0 y298 (rdOf ByteArray.empty y298 1) 2 (⟨#[]⟩ : ByteArray) 0 0 bt308.1 bt311.1 bt314.1)) else (none))) else (none))) else (none)) else (if (rdOf ByteArray.empty y298 0).toList = ([108, 97, 109, 112] : List UInt8) then (spec_ParseDevice.j0 k a0 y298 (rdOf ByteArray.empty y298 1) 3 (⟨#[]⟩ : ByteArray) 0 0 0 0 0) else (spec_ParseDevice.j0 k a0 y298 (rdOf ByteArray.empty y298 1) 0 (⟨#[]⟩ : ByteArray) 0 0 0 0 0)))) else (none)) else (none))) else (none)))
theorem spec_ParseDevice.mono_l : ∀ k, (∀ y0 y1 y2 y3 y4 y5 y6 y7 y8 y9, LeO (spec_ParseDevice.j0 k y0 y1 y2 y3 y4 y5 y6 y7 y8 y9) (spec_ParseDevice.j0 (k + 1) y0 y1 y2 y3 y4 y5 y6 y7 y8 y9))
 | 0 => fun _ _ _ _ _ _ _ _ _ _ r h => by simp [spec_ParseDevice.j0] at h
 | k + 1 => by
  have ih0 := spec_ParseDevice.mono_l k
  ·intro y0 y1 y2 y3 y4 y5 y6 y7 y8 y9
   unfold spec_ParseDevice.j0
   repeat' first
   | (with_reducible exact ih0 _ _ _ _ _ _ _ _ _ _)
   | (with_reducible exact spec_FormatDevice.mono _ _ _ _ _ _ _ _ _)
   | (with_reducible exact spec_ParseMeasure.mono _ _)
   | (with_reducible exact spec_ParseNumber.mono _ _)
   | (with_reducible exact spec_ParsePlace.mono _ _)
   | (with_reducible exact spec_SplitAt.mono _ _ _)
   | (with_reducible exact LeO.refl _)
   | (with_reducible exact LeO.none _)
   | (with_reducible refine LeO.ite ?_ ?_)
   | (with_reducible refine LeO.bind ?_ (fun _ => ?_))
theorem spec_ParseDevice.mono : ∀ a0 k, LeO (spec_ParseDevice.f k a0) (spec_ParseDevice.f (k + 1) a0) := by
 intro a0 k
 have ih0 := spec_ParseDevice.mono_l k
 unfold spec_ParseDevice.f
 repeat' first
   | (with_reducible exact ih0 _ _ _ _ _ _ _ _ _ _)
   | (with_reducible exact spec_FormatDevice.mono _ _ _ _ _ _ _ _ _)
   | (with_reducible exact spec_ParseMeasure.mono _ _)
   | (with_reducible exact spec_ParseNumber.mono _ _)
   | (with_reducible exact spec_ParsePlace.mono _ _)
   | (with_reducible exact spec_SplitAt.mono _ _ _)
   | (with_reducible exact LeO.refl _)
   | (with_reducible exact LeO.none _)
   | (with_reducible refine LeO.ite ?_ ?_)
   | (with_reducible refine LeO.bind ?_ (fun _ => ?_))
theorem spec_ParseDevice.calls (k : Nat) (a0 : ByteArray) (r1 : ByteArray) (r2 : Int) (r3 : ByteArray) (r4 : Int) (r5 : Int) (r6 : Int) (r7 : Int) (r8 : Int) (r9 : Bool) (w : World) (h : spec_ParseDevice.f k a0 = some (r1, r2, r3, r4, r5, r6, r7, r8, r9)) :
  Calls Tryd.prog 24 #[.string a0] w fun e w' => e = .returned (.tuple #[.agg #[.string r1, .int .i64 r2, .string r3, .int .i64 r4, .int .i64 r5, .int .i64 r6, .int .i64 r7, .int .i64 r8], .bool r9]) ∧ Below w.heap.size w w' := by
 have hu38 := Tryd.underlying38
 have hu36 := Tryd.underlying36
 have HB := am (Below.refl w.heap.size w)
 have H : ((spec_SplitAt.f k a0 (⟨#[32]⟩ : ByteArray)).bind fun t292 => ((some (([(⟨#[]⟩ : ByteArray), (⟨#[]⟩ : ByteArray), (⟨#[]⟩ : ByteArray), (⟨#[]⟩ : ByteArray), (⟨#[]⟩ : ByteArray), (⟨#[]⟩ : ByteArray), (⟨#[]⟩ : ByteArray), (⟨#[]⟩ : ByteArray), (⟨#[]⟩ : ByteArray), (⟨#[]⟩ : ByteArray), (⟨#[]⟩ : ByteArray)] : List ByteArray) : List ByteArray)).bind fun y295 => (if t292.length + y295.length < 8796093022208 then ((some (t292 ++ y295 : List ByteArray)).bind fun y298 => (if 1 < (y298.length : Int) then (if 0 < (y298.length : Int) then (if (rdOf ByteArray.empty y298 0).toList = ([112, 117, 109, 112] : List UInt8) then (if 3 < (y298.length : Int) then ((spec_ParseMeasure.f k (rdOf ByteArray.empty y298 3)).bind fun bt305 => (spec_ParseDevice.j0 k a0 y298 (rdOf ByteArray.empty y298 1) 1 (⟨#[]⟩ : ByteArray) 0 0 0 0 bt305.1)) else (none)) else (if (rdOf ByteArray.empty y298 0).toList = ([110, 111, 122, 122, 108, 101] : List UInt8) then (if 7 < (y298.length : Int) then ((spec_ParseNumber.f k (rdOf ByteArray.empty y298 7)).bind fun bt308 => (if 9 < (y298.length : Int) then ((spec_ParseMeasure.f k (rdOf ByteArray.empty y298 9)).bind fun bt311 => (if 11 < (y298.length : Int) then ((spec_ParseMeasure.f k (rdOf ByteArray.empty y298 11)).bind fun bt314 => (spec_ParseDevice.j0 k a0 y298 (rdOf ByteArray.empty y298 1) 2 (⟨#[]⟩ : ByteArray) 0 0 bt308.1 bt311.1 bt314.1)) else (none))) else (none))) else (none)) else (if (rdOf ByteArray.empty y298 0).toList = ([108, 97, 109, 112] : List UInt8) then (spec_ParseDevice.j0 k a0 y298 (rdOf ByteArray.empty y298 1) 3 (⟨#[]⟩ : ByteArray) 0 0 0 0 0) else (spec_ParseDevice.j0 k a0 y298 (rdOf ByteArray.empty y298 1) 0 (⟨#[]⟩ : ByteArray) 0 0 0 0 0)))) else (none)) else (none))) else (none)))) = some (r1, r2, r3, r4, r5, r6, r7, r8, r9) := h
 clear h
 replace H := ob H
 obtain ⟨t292, A20, H⟩ := H
 replace H : ((some (([(⟨#[]⟩ : ByteArray), (⟨#[]⟩ : ByteArray), (⟨#[]⟩ : ByteArray), (⟨#[]⟩ : ByteArray), (⟨#[]⟩ : ByteArray), (⟨#[]⟩ : ByteArray), (⟨#[]⟩ : ByteArray), (⟨#[]⟩ : ByteArray), (⟨#[]⟩ : ByteArray), (⟨#[]⟩ : ByteArray), (⟨#[]⟩ : ByteArray)] : List ByteArray) : List ByteArray)).bind fun y295 => (if t292.length + y295.length < 8796093022208 then ((some (t292 ++ y295 : List ByteArray)).bind fun y298 => (if 1 < (y298.length : Int) then (if 0 < (y298.length : Int) then (if (rdOf ByteArray.empty y298 0).toList = ([112, 117, 109, 112] : List UInt8) then (if 3 < (y298.length : Int) then ((spec_ParseMeasure.f k (rdOf ByteArray.empty y298 3)).bind fun bt305 => (spec_ParseDevice.j0 k a0 y298 (rdOf ByteArray.empty y298 1) 1 (⟨#[]⟩ : ByteArray) 0 0 0 0 bt305.1)) else (none)) else (if (rdOf ByteArray.empty y298 0).toList = ([110, 111, 122, 122, 108, 101] : List UInt8) then (if 7 < (y298.length : Int) then ((spec_ParseNumber.f k (rdOf ByteArray.empty y298 7)).bind fun bt308 => (if 9 < (y298.length : Int) then ((spec_ParseMeasure.f k (rdOf ByteArray.empty y298 9)).bind fun bt311 => (if 11 < (y298.length : Int) then ((spec_ParseMeasure.f k (rdOf ByteArray.empty y298 11)).bind fun bt314 => (spec_ParseDevice.j0 k a0 y298 (rdOf ByteArray.empty y298 1) 2 (⟨#[]⟩ : ByteArray) 0 0 bt308.1 bt311.1 bt314.1)) else (none))) else (none))) else (none)) else (if (rdOf ByteArray.empty y298 0).toList = ([108, 97, 109, 112] : List UInt8) then (spec_ParseDevice.j0 k a0 y298 (rdOf ByteArray.empty y298 1) 3 (⟨#[]⟩ : ByteArray) 0 0 0 0 0) else (spec_ParseDevice.j0 k a0 y298 (rdOf ByteArray.empty y298 1) 0 (⟨#[]⟩ : ByteArray) 0 0 0 0 0)))) else (none)) else (none))) else (none))) = some (r1, r2, r3, r4, r5, r6, r7, r8, r9) := H
 have A2 := am A20
 clear A20
 obtain ⟨y295, hy295⟩ : ∃ y_ : List ByteArray, y_ = (([(⟨#[]⟩ : ByteArray), (⟨#[]⟩ : ByteArray), (⟨#[]⟩ : ByteArray), (⟨#[]⟩ : ByteArray), (⟨#[]⟩ : ByteArray), (⟨#[]⟩ : ByteArray), (⟨#[]⟩ : ByteArray), (⟨#[]⟩ : ByteArray), (⟨#[]⟩ : ByteArray), (⟨#[]⟩ : ByteArray), (⟨#[]⟩ : ByteArray)] : List ByteArray)) := ⟨_, rfl⟩
 replace H : (if t292.length + y295.length < 8796093022208 then ((some (t292 ++ y295 : List ByteArray)).bind fun y298 => (if 1 < (y298.length : Int) then (if 0 < (y298.length : Int) then (if (rdOf ByteArray.empty y298 0).toList = ([112, 117, 109, 112] : List UInt8) then (if 3 < (y298.length : Int) then ((spec_ParseMeasure.f k (rdOf ByteArray.empty y298 3)).bind fun bt305 => (spec_ParseDevice.j0 k a0 y298 (rdOf ByteArray.empty y298 1) 1 (⟨#[]⟩ : ByteArray) 0 0 0 0 bt305.1)) else (none)) else (if (rdOf ByteArray.empty y298 0).toList = ([110, 111, 122, 122, 108, 101] : List UInt8) then (if 7 < (y298.length : Int) then ((spec_ParseNumber.f k (rdOf ByteArray.empty y298 7)).bind fun bt308 => (if 9 < (y298.length : Int) then ((spec_ParseMeasure.f k (rdOf ByteArray.empty y298 9)).bind fun bt311 => (if 11 < (y298.length : Int) then ((spec_ParseMeasure.f k (rdOf ByteArray.empty y298 11)).bind fun bt314 => (spec_ParseDevice.j0 k a0 y298 (rdOf ByteArray.empty y298 1) 2 (⟨#[]⟩ : ByteArray) 0 0 bt308.1 bt311.1 bt314.1)) else (none))) else (none))) else (none)) else (if (rdOf ByteArray.empty y298 0).toList = ([108, 97, 109, 112] : List UInt8) then (spec_ParseDevice.j0 k a0 y298 (rdOf ByteArray.empty y298 1) 3 (⟨#[]⟩ : ByteArray) 0 0 0 0 0) else (spec_ParseDevice.j0 k a0 y298 (rdOf ByteArray.empty y298 1) 0 (⟨#[]⟩ : ByteArray) 0 0 0 0 0)))) else (none)) else (none))) else (none)) = some (r1, r2, r3, r4, r5, r6, r7, r8, r9) := by first | (rw [hy295]; with_reducible exact H) | (have H2_ := (Option.bind_some _ _).symm.trans H; rw [hy295]; with_reducible exact H2_) | (have H2_ := (Option.bind_some _ _).symm.trans H; with_reducible exact H2_) | with_reducible exact H | (rw [hy295]; exact H) | exact H
 have Ny295 := am hy295
 clear hy295
 by_cases c3 : t292.length + y295.length < 8796093022208
 ·rw [if_pos c3] at H
  have LMc3 := am c3
  clear c3
  obtain ⟨y298, hy298⟩ : ∃ y_ : List ByteArray, y_ = (t292 ++ y295) := ⟨_, rfl⟩
  replace H : (if 1 < (y298.length : Int) then (if 0 < (y298.length : Int) then (if (rdOf ByteArray.empty y298 0).toList = ([112, 117, 109, 112] : List UInt8) then (if 3 < (y298.length : Int) then ((spec_ParseMeasure.f k (rdOf ByteArray.empty y298 3)).bind fun bt305 => (spec_ParseDevice.j0 k a0 y298 (rdOf ByteArray.empty y298 1) 1 (⟨#[]⟩ : ByteArray) 0 0 0 0 bt305.1)) else (none)) else (if (rdOf ByteArray.empty y298 0).toList = ([110, 111, 122, 122, 108, 101] : List UInt8) then (if 7 < (y298.length : Int) then ((spec_ParseNumber.f k (rdOf ByteArray.empty y298 7)).bind fun bt308 => (if 9 < (y298.length : Int) then ((spec_ParseMeasure.f k (rdOf ByteArray.empty y298 9)).bind fun bt311 => (if 11 < (y298.length : Int) then ((spec_ParseMeasure.f k (rdOf ByteArray.empty y298 11)).bind fun bt314 => (spec_ParseDevice.j0 k a0 y298 (rdOf ByteArray.empty y298 1) 2 (⟨#[]⟩ : ByteArray) 0 0 bt308.1 bt311.1 bt314.1)) else (none))) else (none))) else (none)) else (if (rdOf ByteArray.empty y298 0).toList = ([108, 97, 109, 112] : List UInt8) then (spec_ParseDevice.j0 k a0 y298 (rdOf ByteArray.empty y298 1) 3 (⟨#[]⟩ : ByteArray) 0 0 0 0 0) else (spec_ParseDevice.j0 k a0 y298 (rdOf ByteArray.empty y298 1) 0 (⟨#[]⟩ : ByteArray) 0 0 0 0 0)))) else (none)) else (none)) = some (r1, r2, r3, r4, r5, r6, r7, r8, r9) := by first | (rw [hy298]; with_reducible exact H) | (have H2_ := (Option.bind_some _ _).symm.trans H; rw [hy298]; with_reducible exact H2_) | (have H2_ := (Option.bind_some _ _).symm.trans H; with_reducible exact H2_) | with_reducible exact H | (rw [hy298]; exact H) | exact H
  have Ny298 := am hy298
  clear hy298
  by_cases c4 : 1 < (y298.length : Int)
  ·rw [if_pos c4] at H
   have c4b0 : decide (1 < (y298.length : Int)) = true := decide_eq_true c4
   have c4b1 : decide (1 < y298.length) = true := decide_eq_true (by omega)
   clear c4
   by_cases c5 : 0 < (y298.length : Int)
   ·rw [if_pos c5] at H
    have c5b0 : decide (0 < (y298.length : Int)) = true := decide_eq_true c5
    have c5b1 : decide (0 < y298.length) = true := decide_eq_true (by omega)
    clear c5
    have HC6 := am H
    clear H
    go_enter Tryd.func24, Tryd.ntmps24
    go_upto_block 0 with (first | ((with_reducible refine gate_dst (N := 2) rfl ?_); refine box_event ?hg (N := 2) ?hd (cs := #[.string (⟨#[]⟩ : ByteArray), .int .i64 0, .string (⟨#[]⟩ : ByteArray), .int .i64 0, .int .i64 0, .int .i64 0, .int .i64 0, .int .i64 0]) (t := 38) ?hr ?_; (case hd => rfl); (case hg => rfl); (case hr => exact gq); intro gb291 hg w7 hbox hb; have n0_ := am (below_step u14_3 hb); have n1_ := am (hbox); have n2_ := bsw w hg (below_size u14_3); have n3_ := bsw w hg (below_size u14_3); clear HB; have HB := n0_; have BK291 := n1_; have GW291 := n2_; have GE291 := n3_; clear n0_ n1_ n2_ n3_ hb hbox hg) | ((with_reducible refine gate_callee (f := 61) rfl ?_); refine goesL_ (some 7) rfl rfl Tryd.func61 (by kernel_rfl) rfl #[.string a0, .string (⟨#[32]⟩ : ByteArray)] rfl u14_12 ?_; (with_reducible refine (spec_SplitAt.calls k a0 (⟨#[32]⟩ : ByteArray) t292 _ A2.out).mono ?_); rintro e w8 ⟨v293, rfl, ho0, hb⟩; refine ⟨_, rfl, ?_⟩; have n0_ := am (Kd.R_lower ho0 (below_size u14_6)); have n1_ := am (blk_below (g := gb291) (o := zo0 (⟨#[]⟩ : ByteArray) 0 (⟨#[]⟩ : ByteArray) 0 0 0 0 0) u14_10 hb); have n2_ := am (below_step u14_6 hb); clear BK291 HB; have HO294 := n0_; have BK291 := n1_; have HB := n2_; clear n0_ n1_ n2_; (try clear hb); (try clear hb2); (try clear hk); (try clear hi); (try clear ho0)) | ((with_reducible refine gate_dst (N := 8) rfl ?_); refine Kd.R_lit Kd.string _ 9 ?hg (N := 8) ?hd (xs := ([(⟨#[]⟩ : ByteArray), (⟨#[]⟩ : ByteArray), (⟨#[]⟩ : ByteArray), (⟨#[]⟩ : ByteArray), (⟨#[]⟩ : ByteArray), (⟨#[]⟩ : ByteArray), (⟨#[]⟩ : ByteArray), (⟨#[]⟩ : ByteArray), (⟨#[]⟩ : ByteArray), (⟨#[]⟩ : ByteArray), (⟨#[]⟩ : ByteArray)] : List ByteArray)) (inner := [.string (⟨#[]⟩ : ByteArray), .string (⟨#[]⟩ : ByteArray), .string (⟨#[]⟩ : ByteArray), .string (⟨#[]⟩ : ByteArray), .string (⟨#[]⟩ : ByteArray), .string (⟨#[]⟩ : ByteArray), .string (⟨#[]⟩ : ByteArray), .string (⟨#[]⟩ : ByteArray), .string (⟨#[]⟩ : ByteArray), .string (⟨#[]⟩ : ByteArray), .string (⟨#[]⟩ : ByteArray)]) (ok := fun _ => True) (okp := fun _ => True) ?hr ?hp (fun _ hk => hk) trivial (Below.refl _ _) (Nat.le_refl _) (by simp) ?_; (case hd => rfl); (case hg => rfl); (case hr => exact gq); (case hp => exact (Reps.one (show Kd.M Kd.string _ _ _ (⟨#[]⟩ : ByteArray) [.string (⟨#[]⟩ : ByteArray)] from rfl) (Reps.one (show Kd.M Kd.string _ _ _ (⟨#[]⟩ : ByteArray) [.string (⟨#[]⟩ : ByteArray)] from rfl) (Reps.one (show Kd.M Kd.string _ _ _ (⟨#[]⟩ : ByteArray) [.string (⟨#[]⟩ : ByteArray)] from rfl) (Reps.one (show Kd.M Kd.string _ _ _ (⟨#[]⟩ : ByteArray) [.string (⟨#[]⟩ : ByteArray)] from rfl) (Reps.one (show Kd.M Kd.string _ _ _ (⟨#[]⟩ : ByteArray) [.string (⟨#[]⟩ : ByteArray)] from rfl) (Reps.one (show Kd.M Kd.string _ _ _ (⟨#[]⟩ : ByteArray) [.string (⟨#[]⟩ : ByteArray)] from rfl) (Reps.one (show Kd.M Kd.string _ _ _ (⟨#[]⟩ : ByteArray) [.string (⟨#[]⟩ : ByteArray)] from rfl) (Reps.one (show Kd.M Kd.string _ _ _ (⟨#[]⟩ : ByteArray) [.string (⟨#[]⟩ : ByteArray)] from rfl) (Reps.one (show Kd.M Kd.string _ _ _ (⟨#[]⟩ : ByteArray) [.string (⟨#[]⟩ : ByteArray)] from rfl) (Reps.one (show Kd.M Kd.string _ _ _ (⟨#[]⟩ : ByteArray) [.string (⟨#[]⟩ : ByteArray)] from rfl) (Reps.one (show Kd.M Kd.string _ _ _ (⟨#[]⟩ : ByteArray) [.string (⟨#[]⟩ : ByteArray)] from rfl) (Reps.none _ _))))))))))))); intro v296 w9 ho10 hb hg_ hnew_; clear hg_ hnew_; (first | rw [← Ny295.out] at ho10 | (simp only [Int.reduceToNat] at ho10; rw [← Ny295.out] at ho10)); have n0_ := am (Kd.R_elder' (by (with_reducible repeat (first | apply Kd.R_alloc | apply Kd.R_drewN | apply Kd.R_drew)); exact HO294.out) (Kd.R_base ho10) hb); have n1_ := am (Kd.R_lower (Kd.R_new' ho10 (Kd.R_lt (by (with_reducible repeat (first | apply Kd.R_alloc | apply Kd.R_drewN | apply Kd.R_drew)); exact HO294.out))) (below_size u14_6)); have n2_ := am (blk_below (g := gb291) (o := zo0 (⟨#[]⟩ : ByteArray) 0 (⟨#[]⟩ : ByteArray) 0 0 0 0 0) u14_10 hb); have n3_ := am (below_step u14_6 hb); clear HO294 BK291 HB; have HO294 := n0_; have HO297 := n1_; have BK291 := n2_; have HB := n3_; clear n0_ n1_ n2_ n3_ hb ho10; obtain ⟨Ao12, co12, eo12⟩ := Kd.R_slice HO297.out; subst eo12) | ((with_reducible refine gate_builtin (b := .append) (xs := #[.tmp 7, .tmp 8]) rfl ?_); at_builtin; refine Kd.R_append_rows Kd.string (w0 := w) w.heap.size rfl (.tmp 7) (.tmp 8) 60 9 (.string ⟨#[]⟩) 16 rfl Tryd.underlying60 info9 rfl v14_0 (by omega) v293 t292 y295 _ _ _ (fun k_ => some k_ ≠ (.slice Ao12 y295.length co12 : Value).ownBlock) (fun _ => False) rfl rfl ?aO ?aR (fun _ _ h => h) (fun _ h => h.elim) ?aF ?aB ?aS ?aL ?_; (case aR => repeat (first | exact (Kd.R_reads' HO297.out).2.2 | (with_reducible refine Kd.C_alloc ?_ _) | (with_reducible refine Kd.C_drewN ?_ _) | (with_reducible refine Kd.C_drew ?_))); (case aB => exact u14_6); (case aF => exact (fun k_ hk => Kd.fresh' (Kd.R_lt u14_18) k_ hk)); (case aO => exact (by (with_reducible repeat (first | apply Kd.R_alloc | apply Kd.R_drewN | apply Kd.R_drew)); exact Kd.R_mono HO294.out (fun _ hk => hk.2))); (case aS => exact (below_size u14_6)); (case aL => have := LMc3.out; omega); intro v299 w11 ho hb hg hat; rw [← Ny298.out] at ho; have n0_ := am (blk_grown (g := gb291) (o := zo0 (⟨#[]⟩ : ByteArray) 0 (⟨#[]⟩ : ByteArray) 0 0 0 0 0) u14_10 hg (Kd.R_ne HO294.out BK291.out v14_0)); have n1_ := am (Kd.R_after (ok := (fun _ => True)) u14_18 hg hat); have n2_ := am (hb); have n3_ := am (ho); clear BK291 HO297 HB HO294; have BK291 := n0_; have HO297 := n1_; have HB := n2_; have HO300 := n3_; clear n0_ n1_ n2_ n3_ ho hb hg hat; obtain ⟨Ao13, co13, eo13⟩ := Kd.R_slice HO300.out; subst eo13; have p301 : 0 ≤ (1 : Int) := (by omega); have q301 : 1 < (y298.length : Int) := od (by first | (with_reducible assumption) | assumption); obtain ⟨ad301, e301, hx301_0⟩ := Kd.at_string (Kd.R_reads' HO300.out).2.2 1 p301 q301; cases e301; (try simp only [show (1 : Int).toNat = 1 from rfl, Nat.reduceMul, Nat.reduceEqDiff, Go.Addr.add, ↓reduceIte] at hx301_0); have qi301 : (1 < y298.length) = True := eq_true (by omega); (try rw [show ((1 : Int)).toNat = 1 from rfl] at hx301_0); replace p301 := eq_true p301; replace q301 := eq_true q301) | ((with_reducible refine gate_dst (N := 5) rfl ?_); refine box_event ?hg (N := 5) ?hd (cs := #[.string (⟨#[]⟩ : ByteArray), .int .i64 0, .string (⟨#[]⟩ : ByteArray), .int .i64 0, .int .i64 0, .int .i64 0, .int .i64 0, .int .i64 0]) (t := 38) ?hr ?_; (case hd => rfl); (case hg => rfl); (case hr => exact gq); intro gb302 hg w14 hbox hb; have n0_ := am (Kd.R_below u14_18 hb); have n1_ := am (Kd.R_below (by (with_reducible repeat (first | apply Kd.R_alloc | apply Kd.R_drewN | apply Kd.R_drew)); exact HO300.out) hb); have n2_ := am (blk_below (g := gb291) (o := zo0 (⟨#[]⟩ : ByteArray) 0 (⟨#[]⟩ : ByteArray) 0 0 0 0 0) u14_10 hb); have n3_ := am (below_step u14_6 hb); have n4_ := am (hbox); have n5_ := bsw w hg (below_size u14_6); have n6_ := bsw w hg (below_size u14_6); have n7_ := am ((by rw [hg]; exact Nat.ne_of_lt (blk_lt (g := gb291) (o := zo0 (⟨#[]⟩ : ByteArray) 0 (⟨#[]⟩ : ByteArray) 0 0 0 0 0) u14_10) : gb291 ≠ gb302)); have n8_ := am ((by rw [hg]; exact Nat.ne_of_gt (blk_lt (g := gb291) (o := zo0 (⟨#[]⟩ : ByteArray) 0 (⟨#[]⟩ : ByteArray) 0 0 0 0 0) u14_10) : gb302 ≠ gb291)); clear HO297 HO300 BK291 HB; have HO297 := n0_; have HO300 := n1_; have BK291 := n2_; have HB := n3_; have BK302 := n4_; have GW302 := n5_; have GE302 := n6_; have NB291_302 := n7_; have NB302_291 := n8_; clear n0_ n1_ n2_ n3_ n4_ n5_ n6_ n7_ n8_ hb hbox hg; have hnb15 := NB302_291.out; have hnc15 := NB291_302.out; obtain ⟨hcz16_0, hcz16_1, hcz16_2, hcz16_3, hcz16_4, hcz16_5, hcz16_6, hcz16_7, hfz16_0, hfz16_1, hfz16_2, hfz16_3, hfz16_4, hfz16_5, hfz16_6, hfz16_7⟩ := cf8 BK302.out; have p303 : 0 ≤ (0 : Int) := (by omega); have q303 : 0 < (y298.length : Int) := od (by first | (with_reducible assumption) | assumption); obtain ⟨ad303, e303, hx303_0⟩ := Kd.at_string (Kd.R_reads' HO300.out).2.2 0 p303 q303; obtain rfl : ad301 = ad303 := (by injection e303); have qi303 : (0 < y298.length) = True := eq_true (by omega); (try rw [show ((0 : Int)).toNat = 0 from rfl] at hx303_0); (try rw [Addr.add_zero'] at hx303_0); have hn303_0 : ad301.block ≠ gb302 := Kd.own_blk (Kd.R_ne HO300.out BK302.out v14_0); have hn303_1 : ad301.block ≠ gb302 := Kd.own_blk (Kd.R_ne HO300.out BK302.out v14_0); have hn303_2 : ad301.block ≠ gb302 := Kd.own_blk (Kd.R_ne HO300.out BK302.out v14_0); have hn303_3 : ad301.block ≠ gb302 := Kd.own_blk (Kd.R_ne HO300.out BK302.out v14_0); have hn303_4 : ad301.block ≠ gb302 := Kd.own_blk (Kd.R_ne HO300.out BK302.out v14_0); have hn303_5 : ad301.block ≠ gb302 := Kd.own_blk (Kd.R_ne HO300.out BK302.out v14_0); have hn303_6 : ad301.block ≠ gb302 := Kd.own_blk (Kd.R_ne HO300.out BK302.out v14_0); have hn303_7 : ad301.block ≠ gb302 := Kd.own_blk (Kd.R_ne HO300.out BK302.out v14_0); replace hx303_0 := (cell_far (p := ⟨gb302, 0, none⟩) (by first | (rw [add_block]; exact hn303_0) | (show (Addr.add _ _).block ≠ _; rw [add_block]; exact hn303_0) | exact hn303_0) (.string (rdOf ByteArray.empty y298 1))).trans hx303_0; replace hx303_0 := (cell_far (p := ⟨gb302, 1, none⟩) (by first | (rw [add_block]; exact hn303_1) | (show (Addr.add _ _).block ≠ _; rw [add_block]; exact hn303_1) | exact hn303_1) (.int .i64 0)).trans hx303_0; replace hx303_0 := (cell_far (p := ⟨gb302, 2, none⟩) (by first | (rw [add_block]; exact hn303_2) | (show (Addr.add _ _).block ≠ _; rw [add_block]; exact hn303_2) | exact hn303_2) (.string (⟨#[]⟩ : ByteArray))).trans hx303_0; replace hx303_0 := (cell_far (p := ⟨gb302, 3, none⟩) (by first | (rw [add_block]; exact hn303_3) | (show (Addr.add _ _).block ≠ _; rw [add_block]; exact hn303_3) | exact hn303_3) (.int .i64 0)).trans hx303_0; replace hx303_0 := (cell_far (p := ⟨gb302, 4, none⟩) (by first | (rw [add_block]; exact hn303_4) | (show (Addr.add _ _).block ≠ _; rw [add_block]; exact hn303_4) | exact hn303_4) (.int .i64 0)).trans hx303_0; replace hx303_0 := (cell_far (p := ⟨gb302, 5, none⟩) (by first | (rw [add_block]; exact hn303_5) | (show (Addr.add _ _).block ≠ _; rw [add_block]; exact hn303_5) | exact hn303_5) (.int .i64 0)).trans hx303_0; replace hx303_0 := (cell_far (p := ⟨gb302, 6, none⟩) (by first | (rw [add_block]; exact hn303_6) | (show (Addr.add _ _).block ≠ _; rw [add_block]; exact hn303_6) | exact hn303_6) (.int .i64 0)).trans hx303_0; replace hx303_0 := (cell_far (p := ⟨gb302, 7, none⟩) (by first | (rw [add_block]; exact hn303_7) | (show (Addr.add _ _).block ≠ _; rw [add_block]; exact hn303_7) | exact hn303_7) (.int .i64 0)).trans hx303_0; clear hn303_0 hn303_1 hn303_2 hn303_3 hn303_4 hn303_5 hn303_6 hn303_7; replace p303 := eq_true p303; replace q303 := eq_true q303))
    (try simp only [Act.put, List.setIfInBounds_toArray, List.set_cons_zero, List.set_cons_succ])
    go_cut [] (fun wc => ∃ (kq : Nat) (x303001_5 : Int) (x303005_5 : Int) (x303006_5 : Int) (x303007_5 : Int), Aside0 (spec_ParseDevice.j0 kq a0 y298 (rdOf ByteArray.empty y298 1) x303001_5 (⟨#[]⟩ : ByteArray) 0 0 x303005_5 x303006_5 x303007_5 = some (r1, r2, r3, r4, r5, r6, r7, r8, r9)) ∧ Aside0 (kq ≤ k) ∧ Aside0 (Kd.R Kd.string 9 wc w.heap.size (fun _ => True) (.slice (some ad301) y298.length co13) y298) ∧ Aside0 (wc.heap[gb291]? = some (.cells #[.string (⟨#[]⟩ : ByteArray), .int .i64 0, .string (⟨#[]⟩ : ByteArray), .int .i64 0, .int .i64 0, .int .i64 0, .int .i64 0, .int .i64 0] 38 (0, 0))) ∧ Aside0 (wc.heap[gb302]? = some (.cells #[.string (rdOf ByteArray.empty y298 1), .int .i64 x303001_5, .string (⟨#[]⟩ : ByteArray), .int .i64 0, .int .i64 0, .int .i64 x303005_5, .int .i64 x303006_5, .int .i64 x303007_5] 38 (0, 0))) ∧ Aside0 (Below w.heap.size w wc))
    case first =>
     have H := HC6.out
     clear HC6
     by_cases c17 : (rdOf ByteArray.empty y298 0).toList = ([112, 117, 109, 112] : List UInt8)
     ·rw [if_pos c17] at H
      have c17b0 : ((rdOf ByteArray.empty y298 0).toList == ([112, 117, 109, 112] : List UInt8)) = true := beq_iff_eq.mpr c17
      have c17b1 : ((rdOf ByteArray.empty y298 0).toList != ([112, 117, 109, 112] : List UInt8)) = false := bne_eq_false_iff_eq.mpr c17
      clear c17
      (first | rw [c17b0] | (simp only [i64_w, i32_w]; rw [c17b0]) | skip)
      by_cases c18 : 3 < (y298.length : Int)
      ·rw [if_pos c18] at H
       have c18b0 : decide (3 < (y298.length : Int)) = true := decide_eq_true c18
       have c18b1 : decide (3 < y298.length) = true := decide_eq_true (by omega)
       clear c18
       replace H := ob H
       obtain ⟨⟨t305, t306⟩, A190, H⟩ := H
       replace H : (spec_ParseDevice.j0 k a0 y298 (rdOf ByteArray.empty y298 1) 1 (⟨#[]⟩ : ByteArray) 0 0 0 0 t305) = some (r1, r2, r3, r4, r5, r6, r7, r8, r9) := H
       have A19 := am A190
       clear A190
       have H' := am H
       clear H
       have hnb20 := NB302_291.out
       have hnc20 := NB291_302.out
       obtain ⟨hcz21_0, hcz21_1, hcz21_2, hcz21_3, hcz21_4, hcz21_5, hcz21_6, hcz21_7, hfz21_0, hfz21_1, hfz21_2, hfz21_3, hfz21_4, hfz21_5, hfz21_6, hfz21_7⟩ := cf8 BK302.out
       have p304 : 0 ≤ (3 : Int) := (by omega)
       have q304 : 3 < (y298.length : Int) := od (by first | (with_reducible assumption) | assumption)
       obtain ⟨ad304, e304, hx304_0⟩ := Kd.at_string (Kd.R_reads' HO300.out).2.2 3 p304 q304
       obtain rfl : ad301 = ad304 := (by injection e304)
       (try simp only [show (3 : Int).toNat = 3 from rfl, Nat.reduceMul, Nat.reduceEqDiff, Go.Addr.add, ↓reduceIte] at hx304_0)
       have qi304 : (3 < y298.length) = True := eq_true (by omega)
       (try rw [show ((3 : Int)).toNat = 3 from rfl] at hx304_0)
       have hn304_0 : ad301.block ≠ gb302 := Kd.own_blk (Kd.R_ne HO300.out BK302.out v14_0)
       have hn304_1 : ad301.block ≠ gb302 := Kd.own_blk (Kd.R_ne HO300.out BK302.out v14_0)
       have hn304_2 : ad301.block ≠ gb302 := Kd.own_blk (Kd.R_ne HO300.out BK302.out v14_0)
       have hn304_3 : ad301.block ≠ gb302 := Kd.own_blk (Kd.R_ne HO300.out BK302.out v14_0)
       have hn304_4 : ad301.block ≠ gb302 := Kd.own_blk (Kd.R_ne HO300.out BK302.out v14_0)
       have hn304_5 : ad301.block ≠ gb302 := Kd.own_blk (Kd.R_ne HO300.out BK302.out v14_0)
       have hn304_6 : ad301.block ≠ gb302 := Kd.own_blk (Kd.R_ne HO300.out BK302.out v14_0)
       have hn304_7 : ad301.block ≠ gb302 := Kd.own_blk (Kd.R_ne HO300.out BK302.out v14_0)
       have hn304_8 : ad301.block ≠ gb302 := Kd.own_blk (Kd.R_ne HO300.out BK302.out v14_0)
       replace hx304_0 := (cell_far (p := ⟨gb302, 0, none⟩) (by first | (rw [add_block]; exact hn304_0) | (show (Addr.add _ _).block ≠ _; rw [add_block]; exact hn304_0) | exact hn304_0) (.string (rdOf ByteArray.empty y298 1))).trans hx304_0
       replace hx304_0 := (cell_far (p := ⟨gb302, 1, none⟩) (by first | (rw [add_block]; exact hn304_1) | (show (Addr.add _ _).block ≠ _; rw [add_block]; exact hn304_1) | exact hn304_1) (.int .i64 0)).trans hx304_0
       replace hx304_0 := (cell_far (p := ⟨gb302, 2, none⟩) (by first | (rw [add_block]; exact hn304_2) | (show (Addr.add _ _).block ≠ _; rw [add_block]; exact hn304_2) | exact hn304_2) (.string (⟨#[]⟩ : ByteArray))).trans hx304_0
       replace hx304_0 := (cell_far (p := ⟨gb302, 3, none⟩) (by first | (rw [add_block]; exact hn304_3) | (show (Addr.add _ _).block ≠ _; rw [add_block]; exact hn304_3) | exact hn304_3) (.int .i64 0)).trans hx304_0
       replace hx304_0 := (cell_far (p := ⟨gb302, 4, none⟩) (by first | (rw [add_block]; exact hn304_4) | (show (Addr.add _ _).block ≠ _; rw [add_block]; exact hn304_4) | exact hn304_4) (.int .i64 0)).trans hx304_0
       replace hx304_0 := (cell_far (p := ⟨gb302, 5, none⟩) (by first | (rw [add_block]; exact hn304_5) | (show (Addr.add _ _).block ≠ _; rw [add_block]; exact hn304_5) | exact hn304_5) (.int .i64 0)).trans hx304_0
       replace hx304_0 := (cell_far (p := ⟨gb302, 6, none⟩) (by first | (rw [add_block]; exact hn304_6) | (show (Addr.add _ _).block ≠ _; rw [add_block]; exact hn304_6) | exact hn304_6) (.int .i64 0)).trans hx304_0
       replace hx304_0 := (cell_far (p := ⟨gb302, 7, none⟩) (by first | (rw [add_block]; exact hn304_7) | (show (Addr.add _ _).block ≠ _; rw [add_block]; exact hn304_7) | exact hn304_7) (.int .i64 0)).trans hx304_0
       replace hx304_0 := (cell_far (p := ⟨gb302, 1, none⟩) (by first | (rw [add_block]; exact hn304_8) | (show (Addr.add _ _).block ≠ _; rw [add_block]; exact hn304_8) | exact hn304_8) (.int .i64 1)).trans hx304_0
       clear hn304_0 hn304_1 hn304_2 hn304_3 hn304_4 hn304_5 hn304_6 hn304_7 hn304_8
       replace p304 := eq_true p304
       replace q304 := eq_true q304
       go_wp2_with (first | ((with_reducible refine gate_callee (f := 62) rfl ?_); refine goesL_ (some 24) rfl rfl Tryd.func62 (by kernel_rfl) rfl #[.string (rdOf ByteArray.empty y298 3)] rfl u14_12 ?_; (with_reducible refine (spec_ParseMeasure.calls k (rdOf ByteArray.empty y298 3) t305 t306 _ A19.out).mono ?_); rintro e w22 ⟨rfl, hb⟩; refine ⟨_, rfl, ?_⟩; have n0_ := am (Kd.R_below (by (with_reducible repeat (first | apply Kd.R_alloc | apply Kd.R_drewN | apply Kd.R_drew)); exact (Kd.R_mono (Kd.R_far (p := ⟨gb302, 1, none⟩) (Kd.R_far (p := ⟨gb302, 7, none⟩) (Kd.R_far (p := ⟨gb302, 6, none⟩) (Kd.R_far (p := ⟨gb302, 5, none⟩) (Kd.R_far (p := ⟨gb302, 4, none⟩) (Kd.R_far (p := ⟨gb302, 3, none⟩) (Kd.R_far (p := ⟨gb302, 2, none⟩) (Kd.R_far (p := ⟨gb302, 1, none⟩) (Kd.R_far (p := ⟨gb302, 0, none⟩) (Kd.R_types HO297.out BK302.out v14_0) (fun _ hk => hk.2) (.string (rdOf ByteArray.empty y298 1))) (fun _ hk => hk.2) (.int .i64 0)) (fun _ hk => hk.2) (.string (⟨#[]⟩ : ByteArray))) (fun _ hk => hk.2) (.int .i64 0)) (fun _ hk => hk.2) (.int .i64 0)) (fun _ hk => hk.2) (.int .i64 0)) (fun _ hk => hk.2) (.int .i64 0)) (fun _ hk => hk.2) (.int .i64 0)) (fun _ hk => hk.2) (.int .i64 1)) (fun _ h_ => h_.1))) hb); have n1_ := am (Kd.R_below (by (with_reducible repeat (first | apply Kd.R_alloc | apply Kd.R_drewN | apply Kd.R_drew)); exact (Kd.R_mono (Kd.R_far (p := ⟨gb302, 1, none⟩) (Kd.R_far (p := ⟨gb302, 7, none⟩) (Kd.R_far (p := ⟨gb302, 6, none⟩) (Kd.R_far (p := ⟨gb302, 5, none⟩) (Kd.R_far (p := ⟨gb302, 4, none⟩) (Kd.R_far (p := ⟨gb302, 3, none⟩) (Kd.R_far (p := ⟨gb302, 2, none⟩) (Kd.R_far (p := ⟨gb302, 1, none⟩) (Kd.R_far (p := ⟨gb302, 0, none⟩) (Kd.R_types HO300.out BK302.out v14_0) (fun _ hk => hk.2) (.string (rdOf ByteArray.empty y298 1))) (fun _ hk => hk.2) (.int .i64 0)) (fun _ hk => hk.2) (.string (⟨#[]⟩ : ByteArray))) (fun _ hk => hk.2) (.int .i64 0)) (fun _ hk => hk.2) (.int .i64 0)) (fun _ hk => hk.2) (.int .i64 0)) (fun _ hk => hk.2) (.int .i64 0)) (fun _ hk => hk.2) (.int .i64 0)) (fun _ hk => hk.2) (.int .i64 1)) (fun _ h_ => h_.1))) hb); have n2_ := am (blk_below (g := gb291) (o := zo0 (⟨#[]⟩ : ByteArray) 0 (⟨#[]⟩ : ByteArray) 0 0 0 0 0) u14_4 hb); have n3_ := am (blk_below (g := gb302) (o := zo0 (rdOf ByteArray.empty y298 1) 1 (⟨#[]⟩ : ByteArray) 0 0 0 0 0) u14_1 hb); have n4_ := am (below_step u14_2 hb); clear HO297 HO300 BK291 BK302 HB; have HO297 := n0_; have HO300 := n1_; have BK291 := n2_; have BK302 := n3_; have HB := n4_; clear n0_ n1_ n2_ n3_ n4_; (try clear hb); (try clear hb2); (try clear hk); (try clear hi); obtain ⟨hcz23_0, hcz23_1, hcz23_2, hcz23_3, hcz23_4, hcz23_5, hcz23_6, hcz23_7, hfz23_0, hfz23_1, hfz23_2, hfz23_3, hfz23_4, hfz23_5, hfz23_6, hfz23_7⟩ := cf8 BK302.out))
       go_meet
       case rel => exact ⟨_, (1), (0), (0), (t305), H', ⟨by first | omega | exact Nat.le_refl _⟩, ⟨by (with_reducible repeat (first | apply Kd.R_alloc | apply Kd.R_drewN | apply Kd.R_drew)); exact Kd.R_mono (Kd.R_far (p := ⟨gb302, 7, none⟩) (Kd.R_types HO300.out BK302.out v14_0) (fun _ hk => hk.2) (.int .i64 t305)) (fun _ hk => trivial)⟩, ⟨by (with_reducible repeat (first | refine bN ?_ _ | refine bD ?_ | refine bA ?_ _)); refine blk_far ?_ NB291_302.out _; exact bd BK291.out⟩, ⟨by (with_reducible repeat (first | refine bN ?_ _ | refine bD ?_ | refine bA ?_ _)); refine blk_put (cs := zr6 (rdOf ByteArray.empty y298 1) 1 (⟨#[]⟩ : ByteArray) 0 0 0 0 0) ?_ 7 _ rfl; exact bd BK302.out⟩, ⟨s14_0⟩⟩
      ·rw [if_neg c18] at H
       exact absurd H (by simp)
     ·rw [if_neg c17] at H
      have c17b0 : ((rdOf ByteArray.empty y298 0).toList == ([112, 117, 109, 112] : List UInt8)) = false := beq_eq_false_iff_ne.mpr c17
      have c17b1 : ((rdOf ByteArray.empty y298 0).toList != ([112, 117, 109, 112] : List UInt8)) = true := bne_iff_ne.mpr c17
      (first | rw [c17b0] | (simp only [i64_w, i32_w]; rw [c17b0]) | skip)
      by_cases c24 : (rdOf ByteArray.empty y298 0).toList = ([110, 111, 122, 122, 108, 101] : List UInt8)
      ·rw [if_pos c24] at H
       have c24b0 : ((rdOf ByteArray.empty y298 0).toList == ([110, 111, 122, 122, 108, 101] : List UInt8)) = true := beq_iff_eq.mpr c24
       have c24b1 : ((rdOf ByteArray.empty y298 0).toList != ([110, 111, 122, 122, 108, 101] : List UInt8)) = false := bne_eq_false_iff_eq.mpr c24
       clear c24
       by_cases c25 : 7 < (y298.length : Int)
       ·rw [if_pos c25] at H
        have c25b0 : decide (7 < (y298.length : Int)) = true := decide_eq_true c25
        have c25b1 : decide (7 < y298.length) = true := decide_eq_true (by omega)
        clear c25
        replace H := ob H
        obtain ⟨⟨t308, t309⟩, A260, H⟩ := H
        replace H : (if 9 < (y298.length : Int) then ((spec_ParseMeasure.f k (rdOf ByteArray.empty y298 9)).bind fun bt311 => (if 11 < (y298.length : Int) then ((spec_ParseMeasure.f k (rdOf ByteArray.empty y298 11)).bind fun bt314 => (spec_ParseDevice.j0 k a0 y298 (rdOf ByteArray.empty y298 1) 2 (⟨#[]⟩ : ByteArray) 0 0 t308 bt311.1 bt314.1)) else (none))) else (none)) = some (r1, r2, r3, r4, r5, r6, r7, r8, r9) := H
        have A26 := am A260
        clear A260
        by_cases c27 : 9 < (y298.length : Int)
        ·rw [if_pos c27] at H
         have c27b0 : decide (9 < (y298.length : Int)) = true := decide_eq_true c27
         have c27b1 : decide (9 < y298.length) = true := decide_eq_true (by omega)
         clear c27
         replace H := ob H
         obtain ⟨⟨t311, t312⟩, A280, H⟩ := H
         replace H : (if 11 < (y298.length : Int) then ((spec_ParseMeasure.f k (rdOf ByteArray.empty y298 11)).bind fun bt314 => (spec_ParseDevice.j0 k a0 y298 (rdOf ByteArray.empty y298 1) 2 (⟨#[]⟩ : ByteArray) 0 0 t308 t311 bt314.1)) else (none)) = some (r1, r2, r3, r4, r5, r6, r7, r8, r9) := H
         have A28 := am A280
         clear A280
         by_cases c29 : 11 < (y298.length : Int)
         ·rw [if_pos c29] at H
          have c29b0 : decide (11 < (y298.length : Int)) = true := decide_eq_true c29
          have c29b1 : decide (11 < y298.length) = true := decide_eq_true (by omega)
          clear c29
          replace H := ob H
          obtain ⟨⟨t314, t315⟩, A300, H⟩ := H
          replace H : (spec_ParseDevice.j0 k a0 y298 (rdOf ByteArray.empty y298 1) 2 (⟨#[]⟩ : ByteArray) 0 0 t308 t311 t314) = some (r1, r2, r3, r4, r5, r6, r7, r8, r9) := H
          have A30 := am A300
          clear A300
          have H' := am H
          clear H
          have hnb31 := NB302_291.out
          have hnc31 := NB291_302.out
          obtain ⟨hcz32_0, hcz32_1, hcz32_2, hcz32_3, hcz32_4, hcz32_5, hcz32_6, hcz32_7, hfz32_0, hfz32_1, hfz32_2, hfz32_3, hfz32_4, hfz32_5, hfz32_6, hfz32_7⟩ := cf8 BK302.out
          have p307 : 0 ≤ (7 : Int) := (by omega)
          have q307 : 7 < (y298.length : Int) := od (by first | (with_reducible assumption) | assumption)
          obtain ⟨ad307, e307, hx307_0⟩ := Kd.at_string (Kd.R_reads' HO300.out).2.2 7 p307 q307
          obtain rfl : ad301 = ad307 := (by injection e307)
          (try simp only [show (7 : Int).toNat = 7 from rfl, Nat.reduceMul, Nat.reduceEqDiff, Go.Addr.add, ↓reduceIte] at hx307_0)
          have qi307 : (7 < y298.length) = True := eq_true (by omega)
          (try rw [show ((7 : Int)).toNat = 7 from rfl] at hx307_0)
          have hn307_0 : ad301.block ≠ gb302 := Kd.own_blk (Kd.R_ne HO300.out BK302.out v14_0)
          have hn307_1 : ad301.block ≠ gb302 := Kd.own_blk (Kd.R_ne HO300.out BK302.out v14_0)
          have hn307_2 : ad301.block ≠ gb302 := Kd.own_blk (Kd.R_ne HO300.out BK302.out v14_0)
          have hn307_3 : ad301.block ≠ gb302 := Kd.own_blk (Kd.R_ne HO300.out BK302.out v14_0)
          have hn307_4 : ad301.block ≠ gb302 := Kd.own_blk (Kd.R_ne HO300.out BK302.out v14_0)
          have hn307_5 : ad301.block ≠ gb302 := Kd.own_blk (Kd.R_ne HO300.out BK302.out v14_0)
          have hn307_6 : ad301.block ≠ gb302 := Kd.own_blk (Kd.R_ne HO300.out BK302.out v14_0)
          have hn307_7 : ad301.block ≠ gb302 := Kd.own_blk (Kd.R_ne HO300.out BK302.out v14_0)
          have hn307_8 : ad301.block ≠ gb302 := Kd.own_blk (Kd.R_ne HO300.out BK302.out v14_0)
          replace hx307_0 := (cell_far (p := ⟨gb302, 0, none⟩) (by first | (rw [add_block]; exact hn307_0) | (show (Addr.add _ _).block ≠ _; rw [add_block]; exact hn307_0) | exact hn307_0) (.string (rdOf ByteArray.empty y298 1))).trans hx307_0
          replace hx307_0 := (cell_far (p := ⟨gb302, 1, none⟩) (by first | (rw [add_block]; exact hn307_1) | (show (Addr.add _ _).block ≠ _; rw [add_block]; exact hn307_1) | exact hn307_1) (.int .i64 0)).trans hx307_0
          replace hx307_0 := (cell_far (p := ⟨gb302, 2, none⟩) (by first | (rw [add_block]; exact hn307_2) | (show (Addr.add _ _).block ≠ _; rw [add_block]; exact hn307_2) | exact hn307_2) (.string (⟨#[]⟩ : ByteArray))).trans hx307_0
          replace hx307_0 := (cell_far (p := ⟨gb302, 3, none⟩) (by first | (rw [add_block]; exact hn307_3) | (show (Addr.add _ _).block ≠ _; rw [add_block]; exact hn307_3) | exact hn307_3) (.int .i64 0)).trans hx307_0
          replace hx307_0 := (cell_far (p := ⟨gb302, 4, none⟩) (by first | (rw [add_block]; exact hn307_4) | (show (Addr.add _ _).block ≠ _; rw [add_block]; exact hn307_4) | exact hn307_4) (.int .i64 0)).trans hx307_0
          replace hx307_0 := (cell_far (p := ⟨gb302, 5, none⟩) (by first | (rw [add_block]; exact hn307_5) | (show (Addr.add _ _).block ≠ _; rw [add_block]; exact hn307_5) | exact hn307_5) (.int .i64 0)).trans hx307_0
          replace hx307_0 := (cell_far (p := ⟨gb302, 6, none⟩) (by first | (rw [add_block]; exact hn307_6) | (show (Addr.add _ _).block ≠ _; rw [add_block]; exact hn307_6) | exact hn307_6) (.int .i64 0)).trans hx307_0
          replace hx307_0 := (cell_far (p := ⟨gb302, 7, none⟩) (by first | (rw [add_block]; exact hn307_7) | (show (Addr.add _ _).block ≠ _; rw [add_block]; exact hn307_7) | exact hn307_7) (.int .i64 0)).trans hx307_0
          replace hx307_0 := (cell_far (p := ⟨gb302, 1, none⟩) (by first | (rw [add_block]; exact hn307_8) | (show (Addr.add _ _).block ≠ _; rw [add_block]; exact hn307_8) | exact hn307_8) (.int .i64 2)).trans hx307_0
          clear hn307_0 hn307_1 hn307_2 hn307_3 hn307_4 hn307_5 hn307_6 hn307_7 hn307_8
          replace p307 := eq_true p307
          replace q307 := eq_true q307
          go_wp2_with (first | ((with_reducible refine gate_callee (f := 63) rfl ?_); refine goesL_ (some 35) rfl rfl Tryd.func63 (by kernel_rfl) rfl #[.string (rdOf ByteArray.empty y298 7)] rfl u14_12 ?_; (with_reducible refine (spec_ParseNumber.calls k (rdOf ByteArray.empty y298 7) t308 t309 _ A26.out).mono ?_); rintro e w33 ⟨rfl, hb⟩; refine ⟨_, rfl, ?_⟩; have n0_ := am (Kd.R_below (by (with_reducible repeat (first | apply Kd.R_alloc | apply Kd.R_drewN | apply Kd.R_drew)); exact (Kd.R_mono (Kd.R_far (p := ⟨gb302, 1, none⟩) (Kd.R_far (p := ⟨gb302, 7, none⟩) (Kd.R_far (p := ⟨gb302, 6, none⟩) (Kd.R_far (p := ⟨gb302, 5, none⟩) (Kd.R_far (p := ⟨gb302, 4, none⟩) (Kd.R_far (p := ⟨gb302, 3, none⟩) (Kd.R_far (p := ⟨gb302, 2, none⟩) (Kd.R_far (p := ⟨gb302, 1, none⟩) (Kd.R_far (p := ⟨gb302, 0, none⟩) (Kd.R_types HO297.out BK302.out v14_0) (fun _ hk => hk.2) (.string (rdOf ByteArray.empty y298 1))) (fun _ hk => hk.2) (.int .i64 0)) (fun _ hk => hk.2) (.string (⟨#[]⟩ : ByteArray))) (fun _ hk => hk.2) (.int .i64 0)) (fun _ hk => hk.2) (.int .i64 0)) (fun _ hk => hk.2) (.int .i64 0)) (fun _ hk => hk.2) (.int .i64 0)) (fun _ hk => hk.2) (.int .i64 0)) (fun _ hk => hk.2) (.int .i64 2)) (fun _ h_ => h_.1))) hb); have n1_ := am (Kd.R_below (by (with_reducible repeat (first | apply Kd.R_alloc | apply Kd.R_drewN | apply Kd.R_drew)); exact (Kd.R_mono (Kd.R_far (p := ⟨gb302, 1, none⟩) (Kd.R_far (p := ⟨gb302, 7, none⟩) (Kd.R_far (p := ⟨gb302, 6, none⟩) (Kd.R_far (p := ⟨gb302, 5, none⟩) (Kd.R_far (p := ⟨gb302, 4, none⟩) (Kd.R_far (p := ⟨gb302, 3, none⟩) (Kd.R_far (p := ⟨gb302, 2, none⟩) (Kd.R_far (p := ⟨gb302, 1, none⟩) (Kd.R_far (p := ⟨gb302, 0, none⟩) (Kd.R_types HO300.out BK302.out v14_0) (fun _ hk => hk.2) (.string (rdOf ByteArray.empty y298 1))) (fun _ hk => hk.2) (.int .i64 0)) (fun _ hk => hk.2) (.string (⟨#[]⟩ : ByteArray))) (fun _ hk => hk.2) (.int .i64 0)) (fun _ hk => hk.2) (.int .i64 0)) (fun _ hk => hk.2) (.int .i64 0)) (fun _ hk => hk.2) (.int .i64 0)) (fun _ hk => hk.2) (.int .i64 0)) (fun _ hk => hk.2) (.int .i64 2)) (fun _ h_ => h_.1))) hb); have n2_ := am (blk_below (g := gb291) (o := zo0 (⟨#[]⟩ : ByteArray) 0 (⟨#[]⟩ : ByteArray) 0 0 0 0 0) u14_4 hb); have n3_ := am (blk_below (g := gb302) (o := zo0 (rdOf ByteArray.empty y298 1) 2 (⟨#[]⟩ : ByteArray) 0 0 0 0 0) u14_1 hb); have n4_ := am (below_step u14_2 hb); clear HO297 HO300 BK291 BK302 HB; have HO297 := n0_; have HO300 := n1_; have BK291 := n2_; have BK302 := n3_; have HB := n4_; clear n0_ n1_ n2_ n3_ n4_; (try clear hb); (try clear hb2); (try clear hk); (try clear hi); obtain ⟨hcz34_0, hcz34_1, hcz34_2, hcz34_3, hcz34_4, hcz34_5, hcz34_6, hcz34_7, hfz34_0, hfz34_1, hfz34_2, hfz34_3, hfz34_4, hfz34_5, hfz34_6, hfz34_7⟩ := cf8 BK302.out; have p310 : 0 ≤ (9 : Int) := (by omega); have q310 : 9 < (y298.length : Int) := od (by first | (with_reducible assumption) | assumption); obtain ⟨ad310, e310, hx310_0⟩ := Kd.at_string (Kd.R_reads' HO300.out).2.2 9 p310 q310; obtain rfl : ad301 = ad310 := (by injection e310); (try simp only [show (9 : Int).toNat = 9 from rfl, Nat.reduceMul, Nat.reduceEqDiff, Go.Addr.add, ↓reduceIte] at hx310_0); have qi310 : (9 < y298.length) = True := eq_true (by omega); (try rw [show ((9 : Int)).toNat = 9 from rfl] at hx310_0); have hn310_0 : ad301.block ≠ gb302 := Kd.own_blk (Kd.R_ne HO300.out BK302.out v14_0); replace hx310_0 := (cell_far (p := ⟨gb302, 5, none⟩) (by first | (rw [add_block]; exact hn310_0) | (show (Addr.add _ _).block ≠ _; rw [add_block]; exact hn310_0) | exact hn310_0) (.int .i64 t308)).trans hx310_0; clear hn310_0; replace p310 := eq_true p310; replace q310 := eq_true q310) | ((with_reducible refine gate_callee (f := 62) rfl ?_); refine goesL_ (some 43) rfl rfl Tryd.func62 (by kernel_rfl) rfl #[.string (rdOf ByteArray.empty y298 9)] rfl u14_12 ?_; (with_reducible refine (spec_ParseMeasure.calls k (rdOf ByteArray.empty y298 9) t311 t312 _ A28.out).mono ?_); rintro e w35 ⟨rfl, hb⟩; refine ⟨_, rfl, ?_⟩; have n0_ := am (Kd.R_below (by (with_reducible repeat (first | apply Kd.R_alloc | apply Kd.R_drewN | apply Kd.R_drew)); exact (Kd.R_mono (Kd.R_far (p := ⟨gb302, 5, none⟩) (Kd.R_types HO297.out BK302.out v14_0) (fun _ hk => hk.2) (.int .i64 t308)) (fun _ h_ => h_.1))) hb); have n1_ := am (Kd.R_below (by (with_reducible repeat (first | apply Kd.R_alloc | apply Kd.R_drewN | apply Kd.R_drew)); exact (Kd.R_mono (Kd.R_far (p := ⟨gb302, 5, none⟩) (Kd.R_types HO300.out BK302.out v14_0) (fun _ hk => hk.2) (.int .i64 t308)) (fun _ h_ => h_.1))) hb); have n2_ := am (blk_below (g := gb291) (o := zo0 (⟨#[]⟩ : ByteArray) 0 (⟨#[]⟩ : ByteArray) 0 0 0 0 0) u14_7 hb); have n3_ := am (blk_below (g := gb302) (o := zo0 (rdOf ByteArray.empty y298 1) 2 (⟨#[]⟩ : ByteArray) 0 0 t308 0 0) (by (with_reducible repeat (first | refine bN ?_ _ | refine bD ?_ | refine bA ?_ _)); refine blk_put (cs := zr6 (rdOf ByteArray.empty y298 1) 2 (⟨#[]⟩ : ByteArray) 0 0 0 0 0) ?_ 5 _ rfl; exact bd BK302.out) hb); have n4_ := am (below_step u14_2 hb); clear HO297 HO300 BK291 BK302 HB; have HO297 := n0_; have HO300 := n1_; have BK291 := n2_; have BK302 := n3_; have HB := n4_; clear n0_ n1_ n2_ n3_ n4_; (try clear hb); (try clear hb2); (try clear hk); (try clear hi); obtain ⟨hcz36_0, hcz36_1, hcz36_2, hcz36_3, hcz36_4, hcz36_5, hcz36_6, hcz36_7, hfz36_0, hfz36_1, hfz36_2, hfz36_3, hfz36_4, hfz36_5, hfz36_6, hfz36_7⟩ := cf8 BK302.out; have p313 : 0 ≤ (11 : Int) := (by omega); have q313 : 11 < (y298.length : Int) := od (by first | (with_reducible assumption) | assumption); obtain ⟨ad313, e313, hx313_0⟩ := Kd.at_string (Kd.R_reads' HO300.out).2.2 11 p313 q313; obtain rfl : ad301 = ad313 := (by injection e313); (try simp only [show (11 : Int).toNat = 11 from rfl, Nat.reduceMul, Nat.reduceEqDiff, Go.Addr.add, ↓reduceIte] at hx313_0); have qi313 : (11 < y298.length) = True := eq_true (by omega); (try rw [show ((11 : Int)).toNat = 11 from rfl] at hx313_0); have hn313_0 : ad301.block ≠ gb302 := Kd.own_blk (Kd.R_ne HO300.out BK302.out v14_0); replace hx313_0 := (cell_far (p := ⟨gb302, 6, none⟩) (by first | (rw [add_block]; exact hn313_0) | (show (Addr.add _ _).block ≠ _; rw [add_block]; exact hn313_0) | exact hn313_0) (.int .i64 t311)).trans hx313_0; clear hn313_0; replace p313 := eq_true p313; replace q313 := eq_true q313) | ((with_reducible refine gate_callee (f := 62) rfl ?_); refine goesL_ (some 51) rfl rfl Tryd.func62 (by kernel_rfl) rfl #[.string (rdOf ByteArray.empty y298 11)] rfl u14_12 ?_; (with_reducible refine (spec_ParseMeasure.calls k (rdOf ByteArray.empty y298 11) t314 t315 _ A30.out).mono ?_); rintro e w37 ⟨rfl, hb⟩; refine ⟨_, rfl, ?_⟩; have n0_ := am (Kd.R_below (by (with_reducible repeat (first | apply Kd.R_alloc | apply Kd.R_drewN | apply Kd.R_drew)); exact (Kd.R_mono (Kd.R_far (p := ⟨gb302, 6, none⟩) (Kd.R_types HO297.out BK302.out v14_0) (fun _ hk => hk.2) (.int .i64 t311)) (fun _ h_ => h_.1))) hb); have n1_ := am (Kd.R_below (by (with_reducible repeat (first | apply Kd.R_alloc | apply Kd.R_drewN | apply Kd.R_drew)); exact (Kd.R_mono (Kd.R_far (p := ⟨gb302, 6, none⟩) (Kd.R_types HO300.out BK302.out v14_0) (fun _ hk => hk.2) (.int .i64 t311)) (fun _ h_ => h_.1))) hb); have n2_ := am (blk_below (g := gb291) (o := zo0 (⟨#[]⟩ : ByteArray) 0 (⟨#[]⟩ : ByteArray) 0 0 0 0 0) u14_7 hb); have n3_ := am (blk_below (g := gb302) (o := zo0 (rdOf ByteArray.empty y298 1) 2 (⟨#[]⟩ : ByteArray) 0 0 t308 t311 0) (by (with_reducible repeat (first | refine bN ?_ _ | refine bD ?_ | refine bA ?_ _)); refine blk_put (cs := zr6 (rdOf ByteArray.empty y298 1) 2 (⟨#[]⟩ : ByteArray) 0 0 t308 0 0) ?_ 6 _ rfl; exact bd BK302.out) hb); have n4_ := am (below_step u14_2 hb); clear HO297 HO300 BK291 BK302 HB; have HO297 := n0_; have HO300 := n1_; have BK291 := n2_; have BK302 := n3_; have HB := n4_; clear n0_ n1_ n2_ n3_ n4_; (try clear hb); (try clear hb2); (try clear hk); (try clear hi); obtain ⟨hcz38_0, hcz38_1, hcz38_2, hcz38_3, hcz38_4, hcz38_5, hcz38_6, hcz38_7, hfz38_0, hfz38_1, hfz38_2, hfz38_3, hfz38_4, hfz38_5, hfz38_6, hfz38_7⟩ := cf8 BK302.out))
          go_meet
          case rel => exact ⟨_, (2), (t308), (t311), (t314), H', ⟨by first | omega | exact Nat.le_refl _⟩, ⟨by (with_reducible repeat (first | apply Kd.R_alloc | apply Kd.R_drewN | apply Kd.R_drew)); exact Kd.R_mono (Kd.R_far (p := ⟨gb302, 7, none⟩) (Kd.R_types HO300.out BK302.out v14_0) (fun _ hk => hk.2) (.int .i64 t314)) (fun _ hk => trivial)⟩, ⟨by (with_reducible repeat (first | refine bN ?_ _ | refine bD ?_ | refine bA ?_ _)); refine blk_far ?_ NB291_302.out _; exact bd BK291.out⟩, ⟨by (with_reducible repeat (first | refine bN ?_ _ | refine bD ?_ | refine bA ?_ _)); refine blk_put (cs := zr6 (rdOf ByteArray.empty y298 1) 2 (⟨#[]⟩ : ByteArray) 0 0 t308 t311 0) ?_ 7 _ rfl; exact bd BK302.out⟩, ⟨s14_0⟩⟩
         ·rw [if_neg c29] at H
          exact absurd H (by simp)
        ·rw [if_neg c27] at H
         exact absurd H (by simp)
       ·rw [if_neg c25] at H
        exact absurd H (by simp)
      ·rw [if_neg c24] at H
       have c24b0 : ((rdOf ByteArray.empty y298 0).toList == ([110, 111, 122, 122, 108, 101] : List UInt8)) = false := beq_eq_false_iff_ne.mpr c24
       have c24b1 : ((rdOf ByteArray.empty y298 0).toList != ([110, 111, 122, 122, 108, 101] : List UInt8)) = true := bne_iff_ne.mpr c24
       by_cases c39 : (rdOf ByteArray.empty y298 0).toList = ([108, 97, 109, 112] : List UInt8)
       ·rw [if_pos c39] at H
        have c39b0 : ((rdOf ByteArray.empty y298 0).toList == ([108, 97, 109, 112] : List UInt8)) = true := beq_iff_eq.mpr c39
        have c39b1 : ((rdOf ByteArray.empty y298 0).toList != ([108, 97, 109, 112] : List UInt8)) = false := bne_eq_false_iff_eq.mpr c39
        clear c39
        have H' := am H
        clear H
        have hnb40 := NB302_291.out
        have hnc40 := NB291_302.out
        obtain ⟨hcz41_0, hcz41_1, hcz41_2, hcz41_3, hcz41_4, hcz41_5, hcz41_6, hcz41_7, hfz41_0, hfz41_1, hfz41_2, hfz41_3, hfz41_4, hfz41_5, hfz41_6, hfz41_7⟩ := cf8 BK302.out
        go_wp2
        go_meet
        case rel => exact ⟨_, (3), (0), (0), (0), H', ⟨by first | omega | exact Nat.le_refl _⟩, ⟨by (with_reducible repeat (first | apply Kd.R_alloc | apply Kd.R_drewN | apply Kd.R_drew)); exact Kd.R_mono (Kd.R_far (p := ⟨gb302, 1, none⟩) (Kd.R_far (p := ⟨gb302, 7, none⟩) (Kd.R_far (p := ⟨gb302, 6, none⟩) (Kd.R_far (p := ⟨gb302, 5, none⟩) (Kd.R_far (p := ⟨gb302, 4, none⟩) (Kd.R_far (p := ⟨gb302, 3, none⟩) (Kd.R_far (p := ⟨gb302, 2, none⟩) (Kd.R_far (p := ⟨gb302, 1, none⟩) (Kd.R_far (p := ⟨gb302, 0, none⟩) (Kd.R_types HO300.out BK302.out v14_0) (fun _ hk => hk.2) (.string (rdOf ByteArray.empty y298 1))) (fun _ hk => hk.2) (.int .i64 0)) (fun _ hk => hk.2) (.string (⟨#[]⟩ : ByteArray))) (fun _ hk => hk.2) (.int .i64 0)) (fun _ hk => hk.2) (.int .i64 0)) (fun _ hk => hk.2) (.int .i64 0)) (fun _ hk => hk.2) (.int .i64 0)) (fun _ hk => hk.2) (.int .i64 0)) (fun _ hk => hk.2) (.int .i64 3)) (fun _ hk => trivial)⟩, ⟨by (with_reducible repeat (first | refine bN ?_ _ | refine bD ?_ | refine bA ?_ _)); refine blk_far ?_ NB291_302.out _; (with_reducible repeat (first | refine bN ?_ _ | refine bD ?_ | refine bA ?_ _)); refine blk_far ?_ NB291_302.out _; (with_reducible repeat (first | refine bN ?_ _ | refine bD ?_ | refine bA ?_ _)); refine blk_far ?_ NB291_302.out _; (with_reducible repeat (first | refine bN ?_ _ | refine bD ?_ | refine bA ?_ _)); refine blk_far ?_ NB291_302.out _; (with_reducible repeat (first | refine bN ?_ _ | refine bD ?_ | refine bA ?_ _)); refine blk_far ?_ NB291_302.out _; (with_reducible repeat (first | refine bN ?_ _ | refine bD ?_ | refine bA ?_ _)); refine blk_far ?_ NB291_302.out _; (with_reducible repeat (first | refine bN ?_ _ | refine bD ?_ | refine bA ?_ _)); refine blk_far ?_ NB291_302.out _; (with_reducible repeat (first | refine bN ?_ _ | refine bD ?_ | refine bA ?_ _)); refine blk_far ?_ NB291_302.out _; (with_reducible repeat (first | refine bN ?_ _ | refine bD ?_ | refine bA ?_ _)); refine blk_far ?_ NB291_302.out _; exact bd BK291.out⟩, ⟨by (with_reducible repeat (first | refine bN ?_ _ | refine bD ?_ | refine bA ?_ _)); refine blk_put (cs := zr6 (rdOf ByteArray.empty y298 1) 0 (⟨#[]⟩ : ByteArray) 0 0 0 0 0) ?_ 1 _ rfl; (with_reducible repeat (first | refine bN ?_ _ | refine bD ?_ | refine bA ?_ _)); refine blk_put (cs := zr6 (rdOf ByteArray.empty y298 1) 0 (⟨#[]⟩ : ByteArray) 0 0 0 0 0) ?_ 7 _ rfl; (with_reducible repeat (first | refine bN ?_ _ | refine bD ?_ | refine bA ?_ _)); refine blk_put (cs := zr6 (rdOf ByteArray.empty y298 1) 0 (⟨#[]⟩ : ByteArray) 0 0 0 0 0) ?_ 6 _ rfl; (with_reducible repeat (first | refine bN ?_ _ | refine bD ?_ | refine bA ?_ _)); refine blk_put (cs := zr6 (rdOf ByteArray.empty y298 1) 0 (⟨#[]⟩ : ByteArray) 0 0 0 0 0) ?_ 5 _ rfl; (with_reducible repeat (first | refine bN ?_ _ | refine bD ?_ | refine bA ?_ _)); refine blk_put (cs := zr6 (rdOf ByteArray.empty y298 1) 0 (⟨#[]⟩ : ByteArray) 0 0 0 0 0) ?_ 4 _ rfl; (with_reducible repeat (first | refine bN ?_ _ | refine bD ?_ | refine bA ?_ _)); refine blk_put (cs := zr6 (rdOf ByteArray.empty y298 1) 0 (⟨#[]⟩ : ByteArray) 0 0 0 0 0) ?_ 3 _ rfl; (with_reducible repeat (first | refine bN ?_ _ | refine bD ?_ | refine bA ?_ _)); refine blk_put (cs := zr6 (rdOf ByteArray.empty y298 1) 0 (⟨#[]⟩ : ByteArray) 0 0 0 0 0) ?_ 2 _ rfl; (with_reducible repeat (first | refine bN ?_ _ | refine bD ?_ | refine bA ?_ _)); refine blk_put (cs := zr6 (rdOf ByteArray.empty y298 1) 0 (⟨#[]⟩ : ByteArray) 0 0 0 0 0) ?_ 1 _ rfl; (with_reducible repeat (first | refine bN ?_ _ | refine bD ?_ | refine bA ?_ _)); refine blk_put (cs := zr6 (⟨#[]⟩ : ByteArray) 0 (⟨#[]⟩ : ByteArray) 0 0 0 0 0) ?_ 0 _ rfl; exact bd BK302.out⟩, ⟨s14_0⟩⟩
       ·rw [if_neg c39] at H
        have c39b0 : ((rdOf ByteArray.empty y298 0).toList == ([108, 97, 109, 112] : List UInt8)) = false := beq_eq_false_iff_ne.mpr c39
        have c39b1 : ((rdOf ByteArray.empty y298 0).toList != ([108, 97, 109, 112] : List UInt8)) = true := bne_iff_ne.mpr c39
        have H' := am H
        clear H
        go_wp2
        go_meet
        case rel => exact ⟨_, (0), (0), (0), (0), H', ⟨by first | omega | exact Nat.le_refl _⟩, ⟨by (with_reducible repeat (first | apply Kd.R_alloc | apply Kd.R_drewN | apply Kd.R_drew)); exact Kd.R_mono (Kd.R_far (p := ⟨gb302, 7, none⟩) (Kd.R_far (p := ⟨gb302, 6, none⟩) (Kd.R_far (p := ⟨gb302, 5, none⟩) (Kd.R_far (p := ⟨gb302, 4, none⟩) (Kd.R_far (p := ⟨gb302, 3, none⟩) (Kd.R_far (p := ⟨gb302, 2, none⟩) (Kd.R_far (p := ⟨gb302, 1, none⟩) (Kd.R_far (p := ⟨gb302, 0, none⟩) (Kd.R_types HO300.out BK302.out v14_0) (fun _ hk => hk.2) (.string (rdOf ByteArray.empty y298 1))) (fun _ hk => hk.2) (.int .i64 0)) (fun _ hk => hk.2) (.string (⟨#[]⟩ : ByteArray))) (fun _ hk => hk.2) (.int .i64 0)) (fun _ hk => hk.2) (.int .i64 0)) (fun _ hk => hk.2) (.int .i64 0)) (fun _ hk => hk.2) (.int .i64 0)) (fun _ hk => hk.2) (.int .i64 0)) (fun _ hk => trivial)⟩, ⟨by (with_reducible repeat (first | refine bN ?_ _ | refine bD ?_ | refine bA ?_ _)); refine blk_far ?_ NB291_302.out _; (with_reducible repeat (first | refine bN ?_ _ | refine bD ?_ | refine bA ?_ _)); refine blk_far ?_ NB291_302.out _; (with_reducible repeat (first | refine bN ?_ _ | refine bD ?_ | refine bA ?_ _)); refine blk_far ?_ NB291_302.out _; (with_reducible repeat (first | refine bN ?_ _ | refine bD ?_ | refine bA ?_ _)); refine blk_far ?_ NB291_302.out _; (with_reducible repeat (first | refine bN ?_ _ | refine bD ?_ | refine bA ?_ _)); refine blk_far ?_ NB291_302.out _; (with_reducible repeat (first | refine bN ?_ _ | refine bD ?_ | refine bA ?_ _)); refine blk_far ?_ NB291_302.out _; (with_reducible repeat (first | refine bN ?_ _ | refine bD ?_ | refine bA ?_ _)); refine blk_far ?_ NB291_302.out _; (with_reducible repeat (first | refine bN ?_ _ | refine bD ?_ | refine bA ?_ _)); refine blk_far ?_ NB291_302.out _; exact bd BK291.out⟩, ⟨by (with_reducible repeat (first | refine bN ?_ _ | refine bD ?_ | refine bA ?_ _)); refine blk_put (cs := zr6 (rdOf ByteArray.empty y298 1) 0 (⟨#[]⟩ : ByteArray) 0 0 0 0 0) ?_ 7 _ rfl; (with_reducible repeat (first | refine bN ?_ _ | refine bD ?_ | refine bA ?_ _)); refine blk_put (cs := zr6 (rdOf ByteArray.empty y298 1) 0 (⟨#[]⟩ : ByteArray) 0 0 0 0 0) ?_ 6 _ rfl; (with_reducible repeat (first | refine bN ?_ _ | refine bD ?_ | refine bA ?_ _)); refine blk_put (cs := zr6 (rdOf ByteArray.empty y298 1) 0 (⟨#[]⟩ : ByteArray) 0 0 0 0 0) ?_ 5 _ rfl; (with_reducible repeat (first | refine bN ?_ _ | refine bD ?_ | refine bA ?_ _)); refine blk_put (cs := zr6 (rdOf ByteArray.empty y298 1) 0 (⟨#[]⟩ : ByteArray) 0 0 0 0 0) ?_ 4 _ rfl; (with_reducible repeat (first | refine bN ?_ _ | refine bD ?_ | refine bA ?_ _)); refine blk_put (cs := zr6 (rdOf ByteArray.empty y298 1) 0 (⟨#[]⟩ : ByteArray) 0 0 0 0 0) ?_ 3 _ rfl; (with_reducible repeat (first | refine bN ?_ _ | refine bD ?_ | refine bA ?_ _)); refine blk_put (cs := zr6 (rdOf ByteArray.empty y298 1) 0 (⟨#[]⟩ : ByteArray) 0 0 0 0 0) ?_ 2 _ rfl; (with_reducible repeat (first | refine bN ?_ _ | refine bD ?_ | refine bA ?_ _)); refine blk_put (cs := zr6 (rdOf ByteArray.empty y298 1) 0 (⟨#[]⟩ : ByteArray) 0 0 0 0 0) ?_ 1 _ rfl; (with_reducible repeat (first | refine bN ?_ _ | refine bD ?_ | refine bA ?_ _)); refine blk_put (cs := zr6 (⟨#[]⟩ : ByteArray) 0 (⟨#[]⟩ : ByteArray) 0 0 0 0 0) ?_ 0 _ rfl; exact bd BK302.out⟩, ⟨s14_0⟩⟩
    case rest =>
     clear HC6
     try clear c1
     try clear c2
     try clear p2
     try clear c3
     try clear p3
     try clear q3
     try clear hx3
     try clear qi3
     try clear c4
     try clear c4b0
     try clear c4b1
     try clear c5
     try clear c5b0
     try clear c5b1
     try clear c6
     try clear c15
     try clear c17
     try clear c17b0
     try clear c17b1
     try clear c18
     try clear c18b0
     try clear c18b1
     try clear c20
     try clear c24
     try clear c24b0
     try clear c24b1
     try clear c25
     try clear c25b0
     try clear c25b1
     try clear c27
     try clear c27b0
     try clear c27b1
     try clear c29
     try clear c29b0
     try clear c29b1
     try clear p30
     try clear q30
     try clear hx30
     try clear qi30
     try clear c31
     try clear p31
     try clear q31
     try clear hx31
     try clear qi31
     try clear c39
     try clear c39b0
     try clear c39b1
     try clear c40
     try clear hcz16_0
     try clear hcz16_1
     try clear hcz16_2
     try clear hcz16_3
     try clear hcz16_4
     try clear hcz16_5
     try clear hcz16_6
     try clear hcz16_7
     try clear hcz21_0
     try clear hcz21_1
     try clear hcz21_2
     try clear hcz21_3
     try clear hcz21_4
     try clear hcz21_5
     try clear hcz21_6
     try clear hcz21_7
     try clear hcz23_0
     try clear hcz23_1
     try clear hcz23_2
     try clear hcz23_3
     try clear hcz23_4
     try clear hcz23_5
     try clear hcz23_6
     try clear hcz23_7
     try clear hcz32_0
     try clear hcz32_1
     try clear hcz32_2
     try clear hcz32_3
     try clear hcz32_4
     try clear hcz32_5
     try clear hcz32_6
     try clear hcz32_7
     try clear hcz34_0
     try clear hcz34_1
     try clear hcz34_2
     try clear hcz34_3
     try clear hcz34_4
     try clear hcz34_5
     try clear hcz34_6
     try clear hcz34_7
     try clear hcz36_0
     try clear hcz36_1
     try clear hcz36_2
     try clear hcz36_3
     try clear hcz36_4
     try clear hcz36_5
     try clear hcz36_6
     try clear hcz36_7
     try clear hcz38_0
     try clear hcz38_1
     try clear hcz38_2
     try clear hcz38_3
     try clear hcz38_4
     try clear hcz38_5
     try clear hcz38_6
     try clear hcz38_7
     try clear hcz41_0
     try clear hcz41_1
     try clear hcz41_2
     try clear hcz41_3
     try clear hcz41_4
     try clear hcz41_5
     try clear hcz41_6
     try clear hcz41_7
     try clear hfz16_0
     try clear hfz16_1
     try clear hfz16_2
     try clear hfz16_3
     try clear hfz16_4
     try clear hfz16_5
     try clear hfz16_6
     try clear hfz16_7
     try clear hfz21_0
     try clear hfz21_1
     try clear hfz21_2
     try clear hfz21_3
     try clear hfz21_4
     try clear hfz21_5
     try clear hfz21_6
     try clear hfz21_7
     try clear hfz23_0
     try clear hfz23_1
     try clear hfz23_2
     try clear hfz23_3
     try clear hfz23_4
     try clear hfz23_5
     try clear hfz23_6
     try clear hfz23_7
     try clear hfz32_0
     try clear hfz32_1
     try clear hfz32_2
     try clear hfz32_3
     try clear hfz32_4
     try clear hfz32_5
     try clear hfz32_6
     try clear hfz32_7
     try clear hfz34_0
     try clear hfz34_1
     try clear hfz34_2
     try clear hfz34_3
     try clear hfz34_4
     try clear hfz34_5
     try clear hfz34_6
     try clear hfz34_7
     try clear hfz36_0
     try clear hfz36_1
     try clear hfz36_2
     try clear hfz36_3
     try clear hfz36_4
     try clear hfz36_5
     try clear hfz36_6
     try clear hfz36_7
     try clear hfz38_0
     try clear hfz38_1
     try clear hfz38_2
     try clear hfz38_3
     try clear hfz38_4
     try clear hfz38_5
     try clear hfz38_6
     try clear hfz38_7
     try clear hfz41_0
     try clear hfz41_1
     try clear hfz41_2
     try clear hfz41_3
     try clear hfz41_4
     try clear hfz41_5
     try clear hfz41_6
     try clear hfz41_7
     try clear hx301_0
     try clear hx303_0
     try clear hx304_0
     try clear hx307_0
     try clear hx310_0
     try clear hx313_0
     try clear p301
     try clear p303
     try clear p304
     try clear p307
     try clear p310
     try clear p313
     try clear q301
     try clear q303
     try clear q304
     try clear q307
     try clear q310
     try clear q313
     obtain ⟨kq, x303001_5, x303005_5, x303006_5, x303007_5, HA, HJ5, HO_4, BK291, BK302, HB⟩ := hcut
     cases kq with
     | zero => exact absurd HA.out (by simp [spec_ParseDevice.j0])
     | succ kj5 =>
      have H := HA.out
      clear HA
      simp only [spec_ParseDevice.j0] at H
      by_cases c42 : x303001_5 > 1
      ·rw [if_pos c42] at H
       have c42b0 : decide (1 < x303001_5) = true := decide_eq_true c42
       clear c42
       by_cases c43 : 3 < (y298.length : Int)
       ·rw [if_pos c43] at H
        have c43b0 : decide (3 < (y298.length : Int)) = true := decide_eq_true c43
        have c43b1 : decide (3 < y298.length) = true := decide_eq_true (by omega)
        clear c43
        by_cases c44 : 5 < (y298.length : Int)
        ·rw [if_pos c44] at H
         have c44b0 : decide (5 < (y298.length : Int)) = true := decide_eq_true c44
         have c44b1 : decide (5 < y298.length) = true := decide_eq_true (by omega)
         clear c44
         replace H := ob H
         obtain ⟨⟨t318, t319, t320⟩, A450, H⟩ := H
         replace H : (if a0.toList = ([] : List UInt8) then (some ((⟨#[]⟩ : ByteArray), 0, (⟨#[]⟩ : ByteArray), 0, 0, 0, 0, 0, false)) else ((spec_FormatDevice.f kj5 (rdOf ByteArray.empty y298 1) x303001_5 (rdOf ByteArray.empty y298 3) t318 t319 x303005_5 x303006_5 x303007_5).bind fun t321 => (if t321.toList = a0.toList then (some ((rdOf ByteArray.empty y298 1), x303001_5, rdOf ByteArray.empty y298 3, t318, t319, x303005_5, x303006_5, x303007_5, true)) else (some ((⟨#[]⟩ : ByteArray), 0, (⟨#[]⟩ : ByteArray), 0, 0, 0, 0, 0, false))))) = some (r1, r2, r3, r4, r5, r6, r7, r8, r9) := H
         have A45 := am A450
         clear A450
         by_cases c46 : a0.toList = ([] : List UInt8)
         ·rw [if_pos c46] at H
          have c46b0 : (a0.toList == ([] : List UInt8)) = true := beq_iff_eq.mpr c46
          have c46b1 : (a0.toList != ([] : List UInt8)) = false := bne_eq_false_iff_eq.mpr c46
          clear c46
          simp only [Option.some.injEq, Prod.mk.injEq] at H
          obtain ⟨rfl, rfl, rfl, rfl, rfl, rfl, rfl, rfl, rfl⟩ := H
          have hnb47 := NB302_291.out
          have hnc47 := NB291_302.out
          obtain ⟨hcz48_0, hcz48_1, hcz48_2, hcz48_3, hcz48_4, hcz48_5, hcz48_6, hcz48_7, hfz48_0, hfz48_1, hfz48_2, hfz48_3, hfz48_4, hfz48_5, hfz48_6, hfz48_7⟩ := cf8 BK302.out
          have p316 : 0 ≤ (3 : Int) := (by omega)
          have q316 : 3 < (y298.length : Int) := od (by first | (with_reducible assumption) | assumption)
          obtain ⟨ad316, e316, hx316_0⟩ := Kd.at_string (Kd.R_reads' HO_4.out).2.2 3 p316 q316
          obtain rfl : ad301 = ad316 := (by injection e316)
          (try simp only [show (3 : Int).toNat = 3 from rfl, Nat.reduceMul, Nat.reduceEqDiff, Go.Addr.add, ↓reduceIte] at hx316_0)
          have qi316 : (3 < y298.length) = True := eq_true (by omega)
          (try rw [show ((3 : Int)).toNat = 3 from rfl] at hx316_0)
          replace p316 := eq_true p316
          replace q316 := eq_true q316
          have p317 : 0 ≤ (5 : Int) := (by omega)
          have q317 : 5 < (y298.length : Int) := od (by first | (with_reducible assumption) | assumption)
          obtain ⟨ad317, e317, hx317_0⟩ := Kd.at_string (Kd.R_reads' HO_4.out).2.2 5 p317 q317
          obtain rfl : ad301 = ad317 := (by injection e317)
          (try simp only [show (5 : Int).toNat = 5 from rfl, Nat.reduceMul, Nat.reduceEqDiff, Go.Addr.add, ↓reduceIte] at hx317_0)
          have qi317 : (5 < y298.length) = True := eq_true (by omega)
          (try rw [show ((5 : Int)).toNat = 5 from rfl] at hx317_0)
          have hn317_0 : ad301.block ≠ gb302 := Kd.own_blk (Kd.R_ne HO_4.out BK302.out v14_0)
          replace hx317_0 := (cell_far (p := ⟨gb302, 2, none⟩) u14_17 (.string (rdOf ByteArray.empty y298 3))).trans hx317_0
          clear hn317_0
          replace p317 := eq_true p317
          replace q317 := eq_true q317
          go_wp2_with (first | ((with_reducible refine gate_callee (f := 64) rfl ?_); refine goesL_ (some 69) rfl rfl Tryd.func64 (by kernel_rfl) rfl #[.string (rdOf ByteArray.empty y298 5)] rfl u14_12 ?_; (with_reducible refine (spec_ParsePlace.calls kj5 (rdOf ByteArray.empty y298 5) t318 t319 t320 _ A45.out).mono ?_); rintro e w49 ⟨rfl, hb⟩; refine ⟨_, rfl, ?_⟩; have n0_ := am (Kd.R_below u14_13 hb); have n1_ := am (blk_below (g := gb291) (o := zo0 (⟨#[]⟩ : ByteArray) 0 (⟨#[]⟩ : ByteArray) 0 0 0 0 0) u14_7 hb); have n2_ := am (blk_below (g := gb302) (o := zo0 (rdOf ByteArray.empty y298 1) x303001_5 (rdOf ByteArray.empty y298 3) 0 0 x303005_5 x303006_5 x303007_5) u14_9 hb); have n3_ := am (below_step u14_2 hb); clear HO_4 BK291 BK302 HB; have HO_4 := n0_; have BK291 := n1_; have BK302 := n2_; have HB := n3_; clear n0_ n1_ n2_ n3_; (try clear hb); (try clear hb2); (try clear hk); (try clear hi); obtain ⟨hcz50_0, hcz50_1, hcz50_2, hcz50_3, hcz50_4, hcz50_5, hcz50_6, hcz50_7, hfz50_0, hfz50_1, hfz50_2, hfz50_3, hfz50_4, hfz50_5, hfz50_6, hfz50_7⟩ := cf8 BK302.out; obtain ⟨hcz51_0, hcz51_1, hcz51_2, hcz51_3, hcz51_4, hcz51_5, hcz51_6, hcz51_7, hfz51_0, hfz51_1, hfz51_2, hfz51_3, hfz51_4, hfz51_5, hfz51_6, hfz51_7⟩ := cf8 BK291.out))
          refine bodyPost_ret (results_ct rfl _ _ gb291 38 #[.string (⟨#[]⟩ : ByteArray), .int .i64 0, .string (⟨#[]⟩ : ByteArray), .int .i64 0, .int .i64 0, .int .i64 0, .int .i64 0, .int .i64 0] (0, 0) _ rfl (by (with_reducible repeat (first | refine bN ?_ _ | refine bD ?_ | refine bA ?_ _)); refine blk_put (cs := zr6 (⟨#[]⟩ : ByteArray) 0 (⟨#[]⟩ : ByteArray) 0 0 0 0 0) ?_ 7 _ rfl; (with_reducible repeat (first | refine bN ?_ _ | refine bD ?_ | refine bA ?_ _)); refine blk_put (cs := zr6 (⟨#[]⟩ : ByteArray) 0 (⟨#[]⟩ : ByteArray) 0 0 0 0 0) ?_ 6 _ rfl; (with_reducible repeat (first | refine bN ?_ _ | refine bD ?_ | refine bA ?_ _)); refine blk_put (cs := zr6 (⟨#[]⟩ : ByteArray) 0 (⟨#[]⟩ : ByteArray) 0 0 0 0 0) ?_ 5 _ rfl; (with_reducible repeat (first | refine bN ?_ _ | refine bD ?_ | refine bA ?_ _)); refine blk_put (cs := zr6 (⟨#[]⟩ : ByteArray) 0 (⟨#[]⟩ : ByteArray) 0 0 0 0 0) ?_ 4 _ rfl; (with_reducible repeat (first | refine bN ?_ _ | refine bD ?_ | refine bA ?_ _)); refine blk_put (cs := zr6 (⟨#[]⟩ : ByteArray) 0 (⟨#[]⟩ : ByteArray) 0 0 0 0 0) ?_ 3 _ rfl; (with_reducible repeat (first | refine bN ?_ _ | refine bD ?_ | refine bA ?_ _)); refine blk_put (cs := zr6 (⟨#[]⟩ : ByteArray) 0 (⟨#[]⟩ : ByteArray) 0 0 0 0 0) ?_ 2 _ rfl; (with_reducible repeat (first | refine bN ?_ _ | refine bD ?_ | refine bA ?_ _)); refine blk_put (cs := zr6 (⟨#[]⟩ : ByteArray) 0 (⟨#[]⟩ : ByteArray) 0 0 0 0 0) ?_ 1 _ rfl; (with_reducible repeat (first | refine bN ?_ _ | refine bD ?_ | refine bA ?_ _)); refine blk_put (cs := zr6 (⟨#[]⟩ : ByteArray) 0 (⟨#[]⟩ : ByteArray) 0 0 0 0 0) ?_ 0 _ rfl; (with_reducible repeat (first | refine bN ?_ _ | refine bD ?_ | refine bA ?_ _)); refine blk_far ?_ NB291_302.out _; (with_reducible repeat (first | refine bN ?_ _ | refine bD ?_ | refine bA ?_ _)); refine blk_far ?_ NB291_302.out _; exact bd BK291.out) Tryd.underlying38 rfl (by kernel_rfl)) rfl ?_
          exact ⟨by first | rfl | (simp [*] <;> rfl), s14_0⟩
         ·rw [if_neg c46] at H
          have c46b0 : (a0.toList == ([] : List UInt8)) = false := beq_eq_false_iff_ne.mpr c46
          have c46b1 : (a0.toList != ([] : List UInt8)) = true := bne_iff_ne.mpr c46
          replace H := ob H
          obtain ⟨t321, A520, H⟩ := H
          replace H : (if t321.toList = a0.toList then (some ((rdOf ByteArray.empty y298 1), x303001_5, rdOf ByteArray.empty y298 3, t318, t319, x303005_5, x303006_5, x303007_5, true)) else (some ((⟨#[]⟩ : ByteArray), 0, (⟨#[]⟩ : ByteArray), 0, 0, 0, 0, 0, false))) = some (r1, r2, r3, r4, r5, r6, r7, r8, r9) := H
          have A52 := am A520
          clear A520
          by_cases c53 : t321.toList = a0.toList
          ·rw [if_pos c53] at H
           have c53b0 : (t321.toList == a0.toList) = true := beq_iff_eq.mpr c53
           have c53b1 : (t321.toList != a0.toList) = false := bne_eq_false_iff_eq.mpr c53
           clear c53
           simp only [Option.some.injEq, Prod.mk.injEq] at H
           obtain ⟨rfl, rfl, rfl, rfl, rfl, rfl, rfl, rfl, rfl⟩ := H
           have hnb54 := NB302_291.out
           have hnc54 := NB291_302.out
           obtain ⟨hcz55_0, hcz55_1, hcz55_2, hcz55_3, hcz55_4, hcz55_5, hcz55_6, hcz55_7, hfz55_0, hfz55_1, hfz55_2, hfz55_3, hfz55_4, hfz55_5, hfz55_6, hfz55_7⟩ := cf8 BK302.out
           have p316 : 0 ≤ (3 : Int) := (by omega)
           have q316 : 3 < (y298.length : Int) := od (by first | (with_reducible assumption) | assumption)
           obtain ⟨ad316, e316, hx316_0⟩ := Kd.at_string (Kd.R_reads' HO_4.out).2.2 3 p316 q316
           obtain rfl : ad301 = ad316 := (by injection e316)
           (try simp only [show (3 : Int).toNat = 3 from rfl, Nat.reduceMul, Nat.reduceEqDiff, Go.Addr.add, ↓reduceIte] at hx316_0)
           have qi316 : (3 < y298.length) = True := eq_true (by omega)
           (try rw [show ((3 : Int)).toNat = 3 from rfl] at hx316_0)
           replace p316 := eq_true p316
           replace q316 := eq_true q316
           have p317 : 0 ≤ (5 : Int) := (by omega)
           have q317 : 5 < (y298.length : Int) := od (by first | (with_reducible assumption) | assumption)
           obtain ⟨ad317, e317, hx317_0⟩ := Kd.at_string (Kd.R_reads' HO_4.out).2.2 5 p317 q317
           obtain rfl : ad301 = ad317 := (by injection e317)
           (try simp only [show (5 : Int).toNat = 5 from rfl, Nat.reduceMul, Nat.reduceEqDiff, Go.Addr.add, ↓reduceIte] at hx317_0)
           have qi317 : (5 < y298.length) = True := eq_true (by omega)
           (try rw [show ((5 : Int)).toNat = 5 from rfl] at hx317_0)
           have hn317_0 : ad301.block ≠ gb302 := Kd.own_blk (Kd.R_ne HO_4.out BK302.out v14_0)
           replace hx317_0 := (cell_far (p := ⟨gb302, 2, none⟩) u14_17 (.string (rdOf ByteArray.empty y298 3))).trans hx317_0
           clear hn317_0
           replace p317 := eq_true p317
           replace q317 := eq_true q317
           go_wp2_with (first | ((with_reducible refine gate_callee (f := 64) rfl ?_); refine goesL_ (some 69) rfl rfl Tryd.func64 (by kernel_rfl) rfl #[.string (rdOf ByteArray.empty y298 5)] rfl u14_12 ?_; (with_reducible refine (spec_ParsePlace.calls kj5 (rdOf ByteArray.empty y298 5) t318 t319 t320 _ A45.out).mono ?_); rintro e w56 ⟨rfl, hb⟩; refine ⟨_, rfl, ?_⟩; have n0_ := am (Kd.R_below u14_13 hb); have n1_ := am (blk_below (g := gb291) (o := zo0 (⟨#[]⟩ : ByteArray) 0 (⟨#[]⟩ : ByteArray) 0 0 0 0 0) u14_7 hb); have n2_ := am (blk_below (g := gb302) (o := zo0 (rdOf ByteArray.empty y298 1) x303001_5 (rdOf ByteArray.empty y298 3) 0 0 x303005_5 x303006_5 x303007_5) u14_9 hb); have n3_ := am (below_step u14_2 hb); clear HO_4 BK291 BK302 HB; have HO_4 := n0_; have BK291 := n1_; have BK302 := n2_; have HB := n3_; clear n0_ n1_ n2_ n3_; (try clear hb); (try clear hb2); (try clear hk); (try clear hi); obtain ⟨hcz57_0, hcz57_1, hcz57_2, hcz57_3, hcz57_4, hcz57_5, hcz57_6, hcz57_7, hfz57_0, hfz57_1, hfz57_2, hfz57_3, hfz57_4, hfz57_5, hfz57_6, hfz57_7⟩ := cf8 BK302.out) | (go_at_call 30; (with_reducible refine (spec_FormatDevice.calls kj5 (rdOf ByteArray.empty y298 1) x303001_5 (rdOf ByteArray.empty y298 3) t318 t319 x303005_5 x303006_5 x303007_5 t321 _ A52.out).mono ?_); rintro e w58 ⟨rfl, hb⟩; have n0_ := am (Kd.R_below u14_16 hb); have n1_ := am (blk_below (g := gb291) (o := zo0 (⟨#[]⟩ : ByteArray) 0 (⟨#[]⟩ : ByteArray) 0 0 0 0 0) u14_14 hb); have n2_ := am (blk_below (g := gb302) (o := zo0 (rdOf ByteArray.empty y298 1) x303001_5 (rdOf ByteArray.empty y298 3) t318 t319 x303005_5 x303006_5 x303007_5) u14_11 hb); have n3_ := am (below_step u14_2 hb); clear HO_4 BK291 BK302 HB; have HO_4 := n0_; have BK291 := n1_; have BK302 := n2_; have HB := n3_; clear n0_ n1_ n2_ n3_; (try clear hb); (try clear hb2); (try clear hk); (try clear hi); obtain ⟨hcz59_0, hcz59_1, hcz59_2, hcz59_3, hcz59_4, hcz59_5, hcz59_6, hcz59_7, hfz59_0, hfz59_1, hfz59_2, hfz59_3, hfz59_4, hfz59_5, hfz59_6, hfz59_7⟩ := cf8 BK302.out; obtain ⟨hcz60_0, hcz60_1, hcz60_2, hcz60_3, hcz60_4, hcz60_5, hcz60_6, hcz60_7, hfz60_0, hfz60_1, hfz60_2, hfz60_3, hfz60_4, hfz60_5, hfz60_6, hfz60_7⟩ := cf8 BK291.out))
           refine bodyPost_ret (results_ct rfl _ _ gb291 38 #[.string (rdOf ByteArray.empty y298 1), .int .i64 x303001_5, .string (rdOf ByteArray.empty y298 3), .int .i64 t318, .int .i64 t319, .int .i64 x303005_5, .int .i64 x303006_5, .int .i64 x303007_5] (0, 0) _ rfl (by (with_reducible repeat (first | refine bN ?_ _ | refine bD ?_ | refine bA ?_ _)); refine blk_put (cs := zr6 (rdOf ByteArray.empty y298 1) x303001_5 (rdOf ByteArray.empty y298 3) t318 t319 x303005_5 x303006_5 0) ?_ 7 _ rfl; refine blk_put (cs := zr6 (rdOf ByteArray.empty y298 1) x303001_5 (rdOf ByteArray.empty y298 3) t318 t319 x303005_5 0 0) ?_ 6 _ rfl; refine blk_put (cs := zr6 (rdOf ByteArray.empty y298 1) x303001_5 (rdOf ByteArray.empty y298 3) t318 t319 0 0 0) ?_ 5 _ rfl; refine blk_put (cs := zr6 (rdOf ByteArray.empty y298 1) x303001_5 (rdOf ByteArray.empty y298 3) t318 0 0 0 0) ?_ 4 _ rfl; refine blk_put (cs := zr6 (rdOf ByteArray.empty y298 1) x303001_5 (rdOf ByteArray.empty y298 3) 0 0 0 0 0) ?_ 3 _ rfl; refine blk_put (cs := zr6 (rdOf ByteArray.empty y298 1) x303001_5 (⟨#[]⟩ : ByteArray) 0 0 0 0 0) ?_ 2 _ rfl; (with_reducible repeat (first | refine bN ?_ _ | refine bD ?_ | refine bA ?_ _)); refine blk_put (cs := zr6 (rdOf ByteArray.empty y298 1) 0 (⟨#[]⟩ : ByteArray) 0 0 0 0 0) ?_ 1 _ rfl; (with_reducible repeat (first | refine bN ?_ _ | refine bD ?_ | refine bA ?_ _)); refine blk_put (cs := zr6 (⟨#[]⟩ : ByteArray) 0 (⟨#[]⟩ : ByteArray) 0 0 0 0 0) ?_ 0 _ rfl; exact bd BK291.out) Tryd.underlying38 rfl (by kernel_rfl)) rfl ?_
           exact ⟨by first | rfl | (simp [*] <;> rfl), s14_0⟩
          ·rw [if_neg c53] at H
           have c53b0 : (t321.toList == a0.toList) = false := beq_eq_false_iff_ne.mpr c53
           have c53b1 : (t321.toList != a0.toList) = true := bne_iff_ne.mpr c53
           simp only [Option.some.injEq, Prod.mk.injEq] at H
           obtain ⟨rfl, rfl, rfl, rfl, rfl, rfl, rfl, rfl, rfl⟩ := H
           have hnb61 := NB302_291.out
           have hnc61 := NB291_302.out
           obtain ⟨hcz62_0, hcz62_1, hcz62_2, hcz62_3, hcz62_4, hcz62_5, hcz62_6, hcz62_7, hfz62_0, hfz62_1, hfz62_2, hfz62_3, hfz62_4, hfz62_5, hfz62_6, hfz62_7⟩ := cf8 BK302.out
           have p316 : 0 ≤ (3 : Int) := (by omega)
           have q316 : 3 < (y298.length : Int) := od (by first | (with_reducible assumption) | assumption)
           obtain ⟨ad316, e316, hx316_0⟩ := Kd.at_string (Kd.R_reads' HO_4.out).2.2 3 p316 q316
           obtain rfl : ad301 = ad316 := (by injection e316)
           (try simp only [show (3 : Int).toNat = 3 from rfl, Nat.reduceMul, Nat.reduceEqDiff, Go.Addr.add, ↓reduceIte] at hx316_0)
           have qi316 : (3 < y298.length) = True := eq_true (by omega)
           (try rw [show ((3 : Int)).toNat = 3 from rfl] at hx316_0)
           replace p316 := eq_true p316
           replace q316 := eq_true q316
           have p317 : 0 ≤ (5 : Int) := (by omega)
           have q317 : 5 < (y298.length : Int) := od (by first | (with_reducible assumption) | assumption)
           obtain ⟨ad317, e317, hx317_0⟩ := Kd.at_string (Kd.R_reads' HO_4.out).2.2 5 p317 q317
           obtain rfl : ad301 = ad317 := (by injection e317)
           (try simp only [show (5 : Int).toNat = 5 from rfl, Nat.reduceMul, Nat.reduceEqDiff, Go.Addr.add, ↓reduceIte] at hx317_0)
           have qi317 : (5 < y298.length) = True := eq_true (by omega)
           (try rw [show ((5 : Int)).toNat = 5 from rfl] at hx317_0)
           have hn317_0 : ad301.block ≠ gb302 := Kd.own_blk (Kd.R_ne HO_4.out BK302.out v14_0)
           replace hx317_0 := (cell_far (p := ⟨gb302, 2, none⟩) u14_17 (.string (rdOf ByteArray.empty y298 3))).trans hx317_0
           clear hn317_0
           replace p317 := eq_true p317
           replace q317 := eq_true q317
           go_wp2_with (first | ((with_reducible refine gate_callee (f := 64) rfl ?_); refine goesL_ (some 69) rfl rfl Tryd.func64 (by kernel_rfl) rfl #[.string (rdOf ByteArray.empty y298 5)] rfl u14_12 ?_; (with_reducible refine (spec_ParsePlace.calls kj5 (rdOf ByteArray.empty y298 5) t318 t319 t320 _ A45.out).mono ?_); rintro e w63 ⟨rfl, hb⟩; refine ⟨_, rfl, ?_⟩; have n0_ := am (Kd.R_below u14_13 hb); have n1_ := am (blk_below (g := gb291) (o := zo0 (⟨#[]⟩ : ByteArray) 0 (⟨#[]⟩ : ByteArray) 0 0 0 0 0) u14_7 hb); have n2_ := am (blk_below (g := gb302) (o := zo0 (rdOf ByteArray.empty y298 1) x303001_5 (rdOf ByteArray.empty y298 3) 0 0 x303005_5 x303006_5 x303007_5) u14_9 hb); have n3_ := am (below_step u14_2 hb); clear HO_4 BK291 BK302 HB; have HO_4 := n0_; have BK291 := n1_; have BK302 := n2_; have HB := n3_; clear n0_ n1_ n2_ n3_; (try clear hb); (try clear hb2); (try clear hk); (try clear hi); obtain ⟨hcz64_0, hcz64_1, hcz64_2, hcz64_3, hcz64_4, hcz64_5, hcz64_6, hcz64_7, hfz64_0, hfz64_1, hfz64_2, hfz64_3, hfz64_4, hfz64_5, hfz64_6, hfz64_7⟩ := cf8 BK302.out) | (go_at_call 30; (with_reducible refine (spec_FormatDevice.calls kj5 (rdOf ByteArray.empty y298 1) x303001_5 (rdOf ByteArray.empty y298 3) t318 t319 x303005_5 x303006_5 x303007_5 t321 _ A52.out).mono ?_); rintro e w65 ⟨rfl, hb⟩; have n0_ := am (Kd.R_below u14_16 hb); have n1_ := am (blk_below (g := gb291) (o := zo0 (⟨#[]⟩ : ByteArray) 0 (⟨#[]⟩ : ByteArray) 0 0 0 0 0) u14_14 hb); have n2_ := am (blk_below (g := gb302) (o := zo0 (rdOf ByteArray.empty y298 1) x303001_5 (rdOf ByteArray.empty y298 3) t318 t319 x303005_5 x303006_5 x303007_5) u14_11 hb); have n3_ := am (below_step u14_2 hb); clear HO_4 BK291 BK302 HB; have HO_4 := n0_; have BK291 := n1_; have BK302 := n2_; have HB := n3_; clear n0_ n1_ n2_ n3_; (try clear hb); (try clear hb2); (try clear hk); (try clear hi); obtain ⟨hcz66_0, hcz66_1, hcz66_2, hcz66_3, hcz66_4, hcz66_5, hcz66_6, hcz66_7, hfz66_0, hfz66_1, hfz66_2, hfz66_3, hfz66_4, hfz66_5, hfz66_6, hfz66_7⟩ := cf8 BK291.out))
           refine bodyPost_ret (results_ct rfl _ _ gb291 38 #[.string (⟨#[]⟩ : ByteArray), .int .i64 0, .string (⟨#[]⟩ : ByteArray), .int .i64 0, .int .i64 0, .int .i64 0, .int .i64 0, .int .i64 0] (0, 0) _ rfl u14_0 Tryd.underlying38 rfl (by kernel_rfl)) rfl ?_
           exact ⟨by first | rfl | (simp [*] <;> rfl), s14_0⟩
        ·rw [if_neg c44] at H
         exact absurd H (by simp)
       ·rw [if_neg c43] at H
        exact absurd H (by simp)
      ·rw [if_neg c42] at H
       have c42b0 : decide (1 < x303001_5) = false := decide_eq_false c42
       clear c42
       by_cases c67 : a0.toList = ([] : List UInt8)
       ·rw [if_pos c67] at H
        have c67b0 : (a0.toList == ([] : List UInt8)) = true := beq_iff_eq.mpr c67
        have c67b1 : (a0.toList != ([] : List UInt8)) = false := bne_eq_false_iff_eq.mpr c67
        clear c67
        simp only [Option.some.injEq, Prod.mk.injEq] at H
        obtain ⟨rfl, rfl, rfl, rfl, rfl, rfl, rfl, rfl, rfl⟩ := H
        have hnb68 := NB302_291.out
        have hnc68 := NB291_302.out
        obtain ⟨hcz69_0, hcz69_1, hcz69_2, hcz69_3, hcz69_4, hcz69_5, hcz69_6, hcz69_7, hfz69_0, hfz69_1, hfz69_2, hfz69_3, hfz69_4, hfz69_5, hfz69_6, hfz69_7⟩ := cf8 BK302.out
        obtain ⟨hcz70_0, hcz70_1, hcz70_2, hcz70_3, hcz70_4, hcz70_5, hcz70_6, hcz70_7, hfz70_0, hfz70_1, hfz70_2, hfz70_3, hfz70_4, hfz70_5, hfz70_6, hfz70_7⟩ := cf8 BK291.out
        go_wp2
        refine bodyPost_ret (results_ct rfl _ _ gb291 38 #[.string (⟨#[]⟩ : ByteArray), .int .i64 0, .string (⟨#[]⟩ : ByteArray), .int .i64 0, .int .i64 0, .int .i64 0, .int .i64 0, .int .i64 0] (0, 0) _ rfl u14_0 Tryd.underlying38 rfl (by kernel_rfl)) rfl ?_
        exact ⟨by first | rfl | (simp [*] <;> rfl), s14_0⟩
       ·rw [if_neg c67] at H
        have c67b0 : (a0.toList == ([] : List UInt8)) = false := beq_eq_false_iff_ne.mpr c67
        have c67b1 : (a0.toList != ([] : List UInt8)) = true := bne_iff_ne.mpr c67
        replace H := ob H
        obtain ⟨t322, A710, H⟩ := H
        replace H : (if t322.toList = a0.toList then (some ((rdOf ByteArray.empty y298 1), x303001_5, (⟨#[]⟩ : ByteArray), 0, 0, x303005_5, x303006_5, x303007_5, true)) else (some ((⟨#[]⟩ : ByteArray), 0, (⟨#[]⟩ : ByteArray), 0, 0, 0, 0, 0, false))) = some (r1, r2, r3, r4, r5, r6, r7, r8, r9) := H
        have A71 := am A710
        clear A710
        by_cases c72 : t322.toList = a0.toList
        ·rw [if_pos c72] at H
         have c72b0 : (t322.toList == a0.toList) = true := beq_iff_eq.mpr c72
         have c72b1 : (t322.toList != a0.toList) = false := bne_eq_false_iff_eq.mpr c72
         clear c72
         simp only [Option.some.injEq, Prod.mk.injEq] at H
         obtain ⟨rfl, rfl, rfl, rfl, rfl, rfl, rfl, rfl, rfl⟩ := H
         have hnb73 := NB302_291.out
         have hnc73 := NB291_302.out
         obtain ⟨hcz74_0, hcz74_1, hcz74_2, hcz74_3, hcz74_4, hcz74_5, hcz74_6, hcz74_7, hfz74_0, hfz74_1, hfz74_2, hfz74_3, hfz74_4, hfz74_5, hfz74_6, hfz74_7⟩ := cf8 BK302.out
         go_wp2_with (first | (go_at_call 30; (with_reducible refine (spec_FormatDevice.calls kj5 (rdOf ByteArray.empty y298 1) x303001_5 (⟨#[]⟩ : ByteArray) 0 0 x303005_5 x303006_5 x303007_5 t322 _ A71.out).mono ?_); rintro e w75 ⟨rfl, hb⟩; have n0_ := am (Kd.R_below (by (with_reducible repeat (first | apply Kd.R_alloc | apply Kd.R_drewN | apply Kd.R_drew)); exact HO_4.out) hb); have n1_ := am (blk_below (g := gb291) (o := zo0 (⟨#[]⟩ : ByteArray) 0 (⟨#[]⟩ : ByteArray) 0 0 0 0 0) u14_10 hb); have n2_ := am (blk_below (g := gb302) (o := zo0 (rdOf ByteArray.empty y298 1) x303001_5 (⟨#[]⟩ : ByteArray) 0 0 x303005_5 x303006_5 x303007_5) (bd BK302.out) hb); have n3_ := am (below_step u14_2 hb); clear HO_4 BK291 BK302 HB; have HO_4 := n0_; have BK291 := n1_; have BK302 := n2_; have HB := n3_; clear n0_ n1_ n2_ n3_; (try clear hb); (try clear hb2); (try clear hk); (try clear hi); obtain ⟨hcz76_0, hcz76_1, hcz76_2, hcz76_3, hcz76_4, hcz76_5, hcz76_6, hcz76_7, hfz76_0, hfz76_1, hfz76_2, hfz76_3, hfz76_4, hfz76_5, hfz76_6, hfz76_7⟩ := cf8 BK302.out; obtain ⟨hcz77_0, hcz77_1, hcz77_2, hcz77_3, hcz77_4, hcz77_5, hcz77_6, hcz77_7, hfz77_0, hfz77_1, hfz77_2, hfz77_3, hfz77_4, hfz77_5, hfz77_6, hfz77_7⟩ := cf8 BK291.out))
         refine bodyPost_ret (results_ct rfl _ _ gb291 38 #[.string (rdOf ByteArray.empty y298 1), .int .i64 x303001_5, .string (⟨#[]⟩ : ByteArray), .int .i64 0, .int .i64 0, .int .i64 x303005_5, .int .i64 x303006_5, .int .i64 x303007_5] (0, 0) _ rfl (by (with_reducible repeat (first | refine bN ?_ _ | refine bD ?_ | refine bA ?_ _)); refine blk_put (cs := zr6 (rdOf ByteArray.empty y298 1) x303001_5 (⟨#[]⟩ : ByteArray) 0 0 x303005_5 x303006_5 0) ?_ 7 _ rfl; (with_reducible repeat (first | refine bN ?_ _ | refine bD ?_ | refine bA ?_ _)); refine blk_put (cs := zr6 (rdOf ByteArray.empty y298 1) x303001_5 (⟨#[]⟩ : ByteArray) 0 0 x303005_5 0 0) ?_ 6 _ rfl; (with_reducible repeat (first | refine bN ?_ _ | refine bD ?_ | refine bA ?_ _)); refine blk_put (cs := zr6 (rdOf ByteArray.empty y298 1) x303001_5 (⟨#[]⟩ : ByteArray) 0 0 0 0 0) ?_ 5 _ rfl; (with_reducible repeat (first | refine bN ?_ _ | refine bD ?_ | refine bA ?_ _)); refine blk_put (cs := zr6 (rdOf ByteArray.empty y298 1) x303001_5 (⟨#[]⟩ : ByteArray) 0 0 0 0 0) ?_ 4 _ rfl; (with_reducible repeat (first | refine bN ?_ _ | refine bD ?_ | refine bA ?_ _)); refine blk_put (cs := zr6 (rdOf ByteArray.empty y298 1) x303001_5 (⟨#[]⟩ : ByteArray) 0 0 0 0 0) ?_ 3 _ rfl; (with_reducible repeat (first | refine bN ?_ _ | refine bD ?_ | refine bA ?_ _)); refine blk_put (cs := zr6 (rdOf ByteArray.empty y298 1) x303001_5 (⟨#[]⟩ : ByteArray) 0 0 0 0 0) ?_ 2 _ rfl; (with_reducible repeat (first | refine bN ?_ _ | refine bD ?_ | refine bA ?_ _)); refine blk_put (cs := zr6 (rdOf ByteArray.empty y298 1) 0 (⟨#[]⟩ : ByteArray) 0 0 0 0 0) ?_ 1 _ rfl; (with_reducible repeat (first | refine bN ?_ _ | refine bD ?_ | refine bA ?_ _)); refine blk_put (cs := zr6 (⟨#[]⟩ : ByteArray) 0 (⟨#[]⟩ : ByteArray) 0 0 0 0 0) ?_ 0 _ rfl; exact bd BK291.out) Tryd.underlying38 rfl (by kernel_rfl)) rfl ?_
         exact ⟨by first | rfl | (simp [*] <;> rfl), s14_0⟩
        ·rw [if_neg c72] at H
         have c72b0 : (t322.toList == a0.toList) = false := beq_eq_false_iff_ne.mpr c72
         have c72b1 : (t322.toList != a0.toList) = true := bne_iff_ne.mpr c72
         simp only [Option.some.injEq, Prod.mk.injEq] at H
         obtain ⟨rfl, rfl, rfl, rfl, rfl, rfl, rfl, rfl, rfl⟩ := H
         have hnb78 := NB302_291.out
         have hnc78 := NB291_302.out
         obtain ⟨hcz79_0, hcz79_1, hcz79_2, hcz79_3, hcz79_4, hcz79_5, hcz79_6, hcz79_7, hfz79_0, hfz79_1, hfz79_2, hfz79_3, hfz79_4, hfz79_5, hfz79_6, hfz79_7⟩ := cf8 BK302.out
         go_wp2_with (first | (go_at_call 30; (with_reducible refine (spec_FormatDevice.calls kj5 (rdOf ByteArray.empty y298 1) x303001_5 (⟨#[]⟩ : ByteArray) 0 0 x303005_5 x303006_5 x303007_5 t322 _ A71.out).mono ?_); rintro e w80 ⟨rfl, hb⟩; have n0_ := am (Kd.R_below (by (with_reducible repeat (first | apply Kd.R_alloc | apply Kd.R_drewN | apply Kd.R_drew)); exact HO_4.out) hb); have n1_ := am (blk_below (g := gb291) (o := zo0 (⟨#[]⟩ : ByteArray) 0 (⟨#[]⟩ : ByteArray) 0 0 0 0 0) u14_10 hb); have n2_ := am (blk_below (g := gb302) (o := zo0 (rdOf ByteArray.empty y298 1) x303001_5 (⟨#[]⟩ : ByteArray) 0 0 x303005_5 x303006_5 x303007_5) (bd BK302.out) hb); have n3_ := am (below_step u14_2 hb); clear HO_4 BK291 BK302 HB; have HO_4 := n0_; have BK291 := n1_; have BK302 := n2_; have HB := n3_; clear n0_ n1_ n2_ n3_; (try clear hb); (try clear hb2); (try clear hk); (try clear hi); obtain ⟨hcz81_0, hcz81_1, hcz81_2, hcz81_3, hcz81_4, hcz81_5, hcz81_6, hcz81_7, hfz81_0, hfz81_1, hfz81_2, hfz81_3, hfz81_4, hfz81_5, hfz81_6, hfz81_7⟩ := cf8 BK291.out))
         refine bodyPost_ret (results_ct rfl _ _ gb291 38 #[.string (⟨#[]⟩ : ByteArray), .int .i64 0, .string (⟨#[]⟩ : ByteArray), .int .i64 0, .int .i64 0, .int .i64 0, .int .i64 0, .int .i64 0] (0, 0) _ rfl u14_0 Tryd.underlying38 rfl (by kernel_rfl)) rfl ?_
         exact ⟨by first | rfl | (simp [*] <;> rfl), s14_0⟩
   ·rw [if_neg c5] at H
    exact absurd H (by simp)
  ·rw [if_neg c4] at H
   exact absurd H (by simp)
 ·rw [if_neg c3] at H
  exact absurd H (by simp)

/-! ### laws_eqPlace: function 65 -/
def laws_eqPlace.f (a0_0 : Int) (a0_1 : Int) (a1_0 : Int) (a1_1 : Int) : Option (Bool) := if a0_0 = a1_0 then (if a0_1 = a1_1 then (some true) else (some false)) else (some false)
theorem laws_eqPlace.calls (a0_0 : Int) (a0_1 : Int) (a1_0 : Int) (a1_1 : Int) (r : Bool) (w : World) (h : laws_eqPlace.f a0_0 a0_1 a1_0 a1_1 = some r) :
  Calls Tryd.prog 65 #[.agg #[.int .i64 a0_0, .int .i64 a0_1], .agg #[.int .i64 a1_0, .int .i64 a1_1]] w fun e w' => e = .returned (.bool r) ∧ Below w.heap.size w w' := by
 have hu36 := Tryd.underlying36
 have HB := am (Below.refl w.heap.size w)
 have H : (if a0_0 = a1_0 then (if a0_1 = a1_1 then (some true) else (some false)) else (some false)) = some r := h
 clear h
 by_cases c3 : a0_0 = a1_0
 ·rw [if_pos c3] at H
  have c3b0 : (a0_0 == a1_0) = true := beq_iff_eq.mpr c3
  have c3b1 : (a0_0 != a1_0) = false := bne_eq_false_iff_eq.mpr c3
  clear c3
  by_cases c4 : a0_1 = a1_1
  ·rw [if_pos c4] at H
   have c4b0 : (a0_1 == a1_1) = true := beq_iff_eq.mpr c4
   have c4b1 : (a0_1 != a1_1) = false := bne_eq_false_iff_eq.mpr c4
   clear c4
   obtain rfl := oi H
   go_enter Tryd.func65, Tryd.ntmps65
   go_wp2_with (first | ((with_reducible refine gate_dst (N := 2) rfl ?_); refine box_event ?hg (N := 2) ?hd (cs := #[.int .i64 a0_0, .int .i64 a0_1]) (t := 36) ?hr ?_; (case hd => rfl); (case hg => rfl); (case hr => exact gq); intro gb323 hg w5 hbox hb; have n0_ := am (below_step u14_3 hb); have n1_ := am (hbox); have n2_ := bsw w hg (below_size u14_3); have n3_ := bsw w hg (below_size u14_3); clear HB; have HB := n0_; have BK323 := n1_; have GW323 := n2_; have GE323 := n3_; clear n0_ n1_ n2_ n3_ hb hbox hg) | ((with_reducible refine gate_dst (N := 3) rfl ?_); refine box_event ?hg (N := 3) ?hd (cs := #[.int .i64 a1_0, .int .i64 a1_1]) (t := 36) ?hr ?_; (case hd => rfl); (case hg => rfl); (case hr => exact gq); intro gb324 hg w6 hbox hb; have n0_ := am (blk_below (g := gb323) (o := zo2 a0_0 a0_1) u14_8 hb); have n1_ := am (below_step u14_5 hb); have n2_ := am (hbox); have n3_ := bsw w hg (below_size u14_5); have n4_ := bsw w hg (below_size u14_5); have n5_ := am ((by rw [hg]; exact Nat.ne_of_lt (blk_lt (g := gb323) (o := zo2 a0_0 a0_1) u14_8) : gb323 ≠ gb324)); have n6_ := am ((by rw [hg]; exact Nat.ne_of_gt (blk_lt (g := gb323) (o := zo2 a0_0 a0_1) u14_8) : gb324 ≠ gb323)); clear BK323 HB; have BK323 := n0_; have HB := n1_; have BK324 := n2_; have GW324 := n3_; have GE324 := n4_; have NB323_324 := n5_; have NB324_323 := n6_; clear n0_ n1_ n2_ n3_ n4_ n5_ n6_ hb hbox hg; have hnb7 := NB323_324.out; have hnc7 := NB324_323.out; obtain ⟨hcz8_0, hcz8_1, hfz8_0, hfz8_1⟩ := cf2 BK323.out; obtain ⟨hcz9_0, hcz9_1, hfz9_0, hfz9_1⟩ := cf2 BK324.out))
   go_ret
   exact ⟨by first | rfl | (simp [*] <;> rfl), s14_1⟩
  ·rw [if_neg c4] at H
   have c4b0 : (a0_1 == a1_1) = false := beq_eq_false_iff_ne.mpr c4
   have c4b1 : (a0_1 != a1_1) = true := bne_iff_ne.mpr c4
   obtain rfl := oi H
   go_enter Tryd.func65, Tryd.ntmps65
   go_wp2_with (first | ((with_reducible refine gate_dst (N := 2) rfl ?_); refine box_event ?hg (N := 2) ?hd (cs := #[.int .i64 a0_0, .int .i64 a0_1]) (t := 36) ?hr ?_; (case hd => rfl); (case hg => rfl); (case hr => exact gq); intro gb323 hg w10 hbox hb; have n0_ := am (below_step u14_3 hb); have n1_ := am (hbox); have n2_ := bsw w hg (below_size u14_3); have n3_ := bsw w hg (below_size u14_3); clear HB; have HB := n0_; have BK323 := n1_; have GW323 := n2_; have GE323 := n3_; clear n0_ n1_ n2_ n3_ hb hbox hg) | ((with_reducible refine gate_dst (N := 3) rfl ?_); refine box_event ?hg (N := 3) ?hd (cs := #[.int .i64 a1_0, .int .i64 a1_1]) (t := 36) ?hr ?_; (case hd => rfl); (case hg => rfl); (case hr => exact gq); intro gb324 hg w11 hbox hb; have n0_ := am (blk_below (g := gb323) (o := zo2 a0_0 a0_1) u14_8 hb); have n1_ := am (below_step u14_5 hb); have n2_ := am (hbox); have n3_ := bsw w hg (below_size u14_5); have n4_ := bsw w hg (below_size u14_5); have n5_ := am ((by rw [hg]; exact Nat.ne_of_lt (blk_lt (g := gb323) (o := zo2 a0_0 a0_1) u14_8) : gb323 ≠ gb324)); have n6_ := am ((by rw [hg]; exact Nat.ne_of_gt (blk_lt (g := gb323) (o := zo2 a0_0 a0_1) u14_8) : gb324 ≠ gb323)); clear BK323 HB; have BK323 := n0_; have HB := n1_; have BK324 := n2_; have GW324 := n3_; have GE324 := n4_; have NB323_324 := n5_; have NB324_323 := n6_; clear n0_ n1_ n2_ n3_ n4_ n5_ n6_ hb hbox hg; have hnb12 := NB323_324.out; have hnc12 := NB324_323.out; obtain ⟨hcz13_0, hcz13_1, hfz13_0, hfz13_1⟩ := cf2 BK323.out; obtain ⟨hcz14_0, hcz14_1, hfz14_0, hfz14_1⟩ := cf2 BK324.out))
   go_ret
   exact ⟨by first | rfl | (simp [*] <;> rfl), s14_1⟩
 ·rw [if_neg c3] at H
  have c3b0 : (a0_0 == a1_0) = false := beq_eq_false_iff_ne.mpr c3
  have c3b1 : (a0_0 != a1_0) = true := bne_iff_ne.mpr c3
  obtain rfl := oi H
  go_enter Tryd.func65, Tryd.ntmps65
  go_wp2_with (first | ((with_reducible refine gate_dst (N := 2) rfl ?_); refine box_event ?hg (N := 2) ?hd (cs := #[.int .i64 a0_0, .int .i64 a0_1]) (t := 36) ?hr ?_; (case hd => rfl); (case hg => rfl); (case hr => exact gq); intro gb323 hg w15 hbox hb; have n0_ := am (below_step u14_3 hb); have n1_ := am (hbox); have n2_ := bsw w hg (below_size u14_3); have n3_ := bsw w hg (below_size u14_3); clear HB; have HB := n0_; have BK323 := n1_; have GW323 := n2_; have GE323 := n3_; clear n0_ n1_ n2_ n3_ hb hbox hg) | ((with_reducible refine gate_dst (N := 3) rfl ?_); refine box_event ?hg (N := 3) ?hd (cs := #[.int .i64 a1_0, .int .i64 a1_1]) (t := 36) ?hr ?_; (case hd => rfl); (case hg => rfl); (case hr => exact gq); intro gb324 hg w16 hbox hb; have n0_ := am (blk_below (g := gb323) (o := zo2 a0_0 a0_1) u14_8 hb); have n1_ := am (below_step u14_5 hb); have n2_ := am (hbox); have n3_ := bsw w hg (below_size u14_5); have n4_ := bsw w hg (below_size u14_5); have n5_ := am ((by rw [hg]; exact Nat.ne_of_lt (blk_lt (g := gb323) (o := zo2 a0_0 a0_1) u14_8) : gb323 ≠ gb324)); have n6_ := am ((by rw [hg]; exact Nat.ne_of_gt (blk_lt (g := gb323) (o := zo2 a0_0 a0_1) u14_8) : gb324 ≠ gb323)); clear BK323 HB; have BK323 := n0_; have HB := n1_; have BK324 := n2_; have GW324 := n3_; have GE324 := n4_; have NB323_324 := n5_; have NB324_323 := n6_; clear n0_ n1_ n2_ n3_ n4_ n5_ n6_ hb hbox hg; have hnb17 := NB323_324.out; have hnc17 := NB324_323.out; obtain ⟨hcz18_0, hcz18_1, hfz18_0, hfz18_1⟩ := cf2 BK323.out; obtain ⟨hcz19_0, hcz19_1, hfz19_0, hfz19_1⟩ := cf2 BK324.out))
  go_ret
  exact ⟨by first | rfl | (simp [*] <;> rfl), s14_1⟩

end Go.Proofs.YthofcclbkihemaaDoor.MFnExactParseDevice
