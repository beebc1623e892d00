-- Written by a program for this claim.
import Derived.Test.YthofcclbkihemaaDoorMFnExactParseDevicex0
import Derived.Test.YthofcclbkihemaaDoorMFnExactParseDevicex2
import Derived.Test.YthofcclbkihemaaDoorMFnExactParseDevicex3
namespace Go.Proofs.YthofcclbkihemaaDoor.MFnExactParseDevice
open Go.RowKit Go.Proofs.YthofcclbkihemaaDoorW.PrintWords Go.Proofs.YthofcclbkihemaaDoorW.PrintLast Go.Proofs.YthofcclbkihemaaDoorW.PrintMore
attribute [local go_sem] max2_int min2_int max_two min_two max_three min_three max_four min_four
set_option linter.unusedVariables false
set_option linter.unusedSimpArgs false
set_option maxHeartbeats 8000000
set_option maxRecDepth 100000

theorem s4_0 {p : Prop} (h : p := by repeat (first | (with_reducible first | exact HB.out | apply below_alloc | apply pw_below_drewN | apply below_drew1 | refine below_set ?_ GE136.out) | exact HB.out)) : p := h
theorem s4_1 {p : Prop} (h : p := by repeat (first | (with_reducible first | exact HB.out | apply below_alloc | apply pw_below_drewN | apply below_drew1) | exact HB.out)) : p := h
theorem u4_0 {p : Prop} (h : p := by first | exact t2_ | (have t3_ := t2_; change 0 + _ ≤ _ at t3_; rwa [Nat.zero_add] at t3_) | (change (0 + _) + _ ≤ _ at t2_; rwa [Nat.zero_add] at t2_)) : p := h
theorem u4_1 {p : Prop} (h : p := by repeat (first | (with_reducible first | exact HB.out | apply below_alloc | apply pw_below_drewN | apply below_drew1) | exact HB.out)) : p := h
theorem u4_2 {p : Prop} (h : p := by repeat (first | (with_reducible first | exact HB.out | apply below_alloc | apply pw_below_drewN | apply below_drew1 | refine below_set ?_ GE136.out) | exact HB.out)) : p := h
theorem u4_3 {p : Prop} (h : p := by exact bd BK136.out) : p := h
theorem u4_4 {p : Prop} (h : p := by (try simp only [List.map_toArray, List.map_cons, List.map_nil]); first | done | rfl) : p := h
theorem u4_5 {p : Prop} (h : p := by repeat (first | (with_reducible first | exact HB.out | apply below_alloc | apply pw_below_drewN | apply below_drew1 | refine below_set ?_ (Aside0.out (by assumption))) | exact HB.out)) : p := h
/-! ### impl_FormatDevice: function 20 -/
def impl_FormatDevice.f (k : Nat) (a0_0 : ByteArray) (a0_1 : Int) (a0_2 : ByteArray) (a0_3 : Int) (a0_4 : Int) (a0_5 : Int) (a0_6 : Int) (a0_7 : Int) : Option (ByteArray) := (impl_IsDevice.f k a0_0 a0_1 a0_2 a0_3 a0_4 a0_5 a0_6 a0_7).bind fun t137 => (if t137 = true then (if a0_1 = 1 then (if 5 + a0_0.size ≤ 9223372036854775807 then (if ((⟨#[112, 117, 109, 112, 32]⟩ : ByteArray) ++ a0_0).size + 6 ≤ 9223372036854775807 then ((impl_FormatMeasure.f k a0_7).bind fun t138 => (if (((⟨#[112, 117, 109, 112, 32]⟩ : ByteArray) ++ a0_0) ++ (⟨#[32, 109, 111, 115, 116, 32]⟩ : ByteArray)).size + t138.size ≤ 9223372036854775807 then (some ((((⟨#[112, 117, 109, 112, 32]⟩ : ByteArray) ++ a0_0) ++ (⟨#[32, 109, 111, 115, 116, 32]⟩ : ByteArray)) ++ t138)) else (none))) else (none)) else (none)) else (if a0_1 = 2 then (if 7 + a0_0.size ≤ 9223372036854775807 then (if ((⟨#[110, 111, 122, 122, 108, 101, 32]⟩ : ByteArray) ++ a0_0).size + 4 ≤ 9223372036854775807 then (if (((⟨#[110, 111, 122, 122, 108, 101, 32]⟩ : ByteArray) ++ a0_0) ++ (⟨#[32, 111, 110, 32]⟩ : ByteArray)).size + a0_2.size ≤ 9223372036854775807 then (if ((((⟨#[110, 111, 122, 122, 108, 101, 32]⟩ : ByteArray) ++ a0_0) ++ (⟨#[32, 111, 110, 32]⟩ : ByteArray)) ++ a0_2).size + 4 ≤ 9223372036854775807 then ((impl_FormatPlace.f k a0_3 a0_4).bind fun t139 => (if (((((⟨#[110, 111, 122, 122, 108, 101, 32]⟩ : ByteArray) ++ a0_0) ++ (⟨#[32, 111, 110, 32]⟩ : ByteArray)) ++ a0_2) ++ (⟨#[32, 97, 116, 32]⟩ : ByteArray)).size + t139.size ≤ 9223372036854775807 then (if ((((((⟨#[110, 111, 122, 122, 108, 101, 32]⟩ : ByteArray) ++ a0_0) ++ (⟨#[32, 111, 110, 32]⟩ : ByteArray)) ++ a0_2) ++ (⟨#[32, 97, 116, 32]⟩ : ByteArray)) ++ t139).size + 9 ≤ 9223372036854775807 then ((impl_FormatNumber.f a0_5).bind fun t140 => (if (((((((⟨#[110, 111, 122, 122, 108, 101, 32]⟩ : ByteArray) ++ a0_0) ++ (⟨#[32, 111, 110, 32]⟩ : ByteArray)) ++ a0_2) ++ (⟨#[32, 97, 116, 32]⟩ : ByteArray)) ++ t139) ++ (⟨#[32, 104, 101, 97, 100, 105, 110, 103, 32]⟩ : ByteArray)).size + t140.size ≤ 9223372036854775807 then (if ((((((((⟨#[110, 111, 122, 122, 108, 101, 32]⟩ : ByteArray) ++ a0_0) ++ (⟨#[32, 111, 110, 32]⟩ : ByteArray)) ++ a0_2) ++ (⟨#[32, 97, 116, 32]⟩ : ByteArray)) ++ t139) ++ (⟨#[32, 104, 101, 97, 100, 105, 110, 103, 32]⟩ : ByteArray)) ++ t140).size + 6 ≤ 9223372036854775807 then ((impl_FormatMeasure.f k a0_6).bind fun t141 => (if (((((((((⟨#[110, 111, 122, 122, 108, 101, 32]⟩ : ByteArray) ++ a0_0) ++ (⟨#[32, 111, 110, 32]⟩ : ByteArray)) ++ a0_2) ++ (⟨#[32, 97, 116, 32]⟩ : ByteArray)) ++ t139) ++ (⟨#[32, 104, 101, 97, 100, 105, 110, 103, 32]⟩ : ByteArray)) ++ t140) ++ (⟨#[32, 116, 105, 108, 116, 32]⟩ : ByteArray)).size + t141.size ≤ 9223372036854775807 then (if ((((((((((⟨#[110, 111, 122, 122, 108, 101, 32]⟩ : ByteArray) ++ a0_0) ++ (⟨#[32, 111, 110, 32]⟩ : ByteArray)) ++ a0_2) ++ (⟨#[32, 97, 116, 32]⟩ : ByteArray)) ++ t139) ++ (⟨#[32, 104, 101, 97, 100, 105, 110, 103, 32]⟩ : ByteArray)) ++ t140) ++ (⟨#[32, 116, 105, 108, 116, 32]⟩ : ByteArray)) ++ t141).size + 6 ≤ 9223372036854775807 then ((impl_FormatMeasure.f k a0_7).bind fun t142 => (if (((((((((((⟨#[110, 111, 122, 122, 108, 101, 32]⟩ : ByteArray) ++ a0_0) ++ (⟨#[32, 111, 110, 32]⟩ : ByteArray)) ++ a0_2) ++ (⟨#[32, 97, 116, 32]⟩ : ByteArray)) ++ t139) ++ (⟨#[32, 104, 101, 97, 100, 105, 110, 103, 32]⟩ : ByteArray)) ++ t140) ++ (⟨#[32, 116, 105, 108, 116, 32]⟩ : ByteArray)) ++ t141) ++ (⟨#[32, 109, 111, 115, 116, 32]⟩ : ByteArray)).size + t142.size ≤ 9223372036854775807 then (some ((((((((((((⟨#[110, 111, 122, 122, 108, 101, 32]⟩ : ByteArray) ++ a0_0) ++ (⟨#[32, 111, 110, 32]⟩ : ByteArray)) ++ a0_2) ++ (⟨#[32, 97, 116, 32]⟩ : ByteArray)) ++ t139) ++ (⟨#[32, 104, 101, 97, 100, 105, 110, 103, 32]⟩ : ByteArray)) ++ t140) ++ (⟨#[32, 116, 105, 108, 116, 32]⟩ : ByteArray)) ++ t141) ++ (⟨#[32, 109, 111, 115, 116, 32]⟩ : ByteArray)) ++ t142)) else (none))) else (none)) else (none))) else (none)) else (none))) else (none)) else (none))) else (none)) else (none)) else (none)) else (none)) else (if 5 + a0_0.size ≤ 9223372036854775807 then (if ((⟨#[108, 97, 109, 112, 32]⟩ : ByteArray) ++ a0_0).size + 4 ≤ 9223372036854775807 then (if (((⟨#[108, 97, 109, 112, 32]⟩ : ByteArray) ++ a0_0) ++ (⟨#[32, 111, 110, 32]⟩ : ByteArray)).size + a0_2.size ≤ 9223372036854775807 then (if ((((⟨#[108, 97, 109, 112, 32]⟩ : ByteArray) ++ a0_0) ++ (⟨#[32, 111, 110, 32]⟩ : ByteArray)) ++ a0_2).size + 4 ≤ 9223372036854775807 then ((impl_FormatPlace.f k a0_3 a0_4).bind fun t143 => (if (((((⟨#[108, 97, 109, 112, 32]⟩ : ByteArray) ++ a0_0) ++ (⟨#[32, 111, 110, 32]⟩ : ByteArray)) ++ a0_2) ++ (⟨#[32, 97, 116, 32]⟩ : ByteArray)).size + t143.size ≤ 9223372036854775807 then (some ((((((⟨#[108, 97, 109, 112, 32]⟩ : ByteArray) ++ a0_0) ++ (⟨#[32, 111, 110, 32]⟩ : ByteArray)) ++ a0_2) ++ (⟨#[32, 97, 116, 32]⟩ : ByteArray)) ++ t143)) else (none))) else (none)) else (none)) else (none)) else (none)))) else (some (⟨#[]⟩ : ByteArray)))
theorem impl_FormatDevice.mono : ∀ a0 a1 a2 a3 a4 a5 a6 a7 k, LeO (impl_FormatDevice.f k a0 a1 a2 a3 a4 a5 a6 a7) (impl_FormatDevice.f (k + 1) a0 a1 a2 a3 a4 a5 a6 a7) := by
 intro a0 a1 a2 a3 a4 a5 a6 a7 k
 unfold impl_FormatDevice.f
 repeat' first
   | (with_reducible exact impl_FormatMeasure.mono _ _)
   | (with_reducible exact impl_FormatPlace.mono _ _ _)
   | (with_reducible exact impl_IsDevice.mono _ _ _ _ _ _ _ _ _)
   | (with_reducible exact LeO.refl _)
   | (with_reducible exact LeO.none _)
   | (with_reducible refine LeO.ite ?_ ?_)
   | (with_reducible refine LeO.bind ?_ (fun _ => ?_))
def impl_FormatDevice.T5 : Bool × List (List Nat × List Nat) := (true, [([], []), ([0], [0]), ([1], [1]), ([2], [2]), ([], []), ([4], [4]), ([5], [5]), ([3, 6], [3, 6]), ([7, 6, 0, 1, 2, 3, 4, 5, 6, 7], [7])])
def impl_FormatDevice.B5 : List Nat := [0, 1, 3, 7, 0, 16, 48, 127, 255]
theorem impl_FormatDevice.tab5 : rtab .any (opsOf Tryd.f20 5) = impl_FormatDevice.T5 := by kernel_rfl
theorem impl_FormatDevice.bits5 : waitsOk impl_FormatDevice.T5.2 impl_FormatDevice.B5 = true := by kernel_rfl
def impl_FormatDevice.T7 : Bool × List (List Nat × List Nat) := (true, [([], []), ([0], [0]), ([1], [1]), ([2], [2]), ([], []), ([4], [4]), ([3, 5], [3, 5]), ([6], [6]), ([], []), ([8], [8]), ([9], [9]), ([7, 10], [7, 10]), ([11], [11]), ([], []), ([13], [13]), ([14, 10], [14]), ([12, 15], [12, 15]), ([16], [16]), ([], []), ([18], [18]), ([19, 15], [19]), ([17, 20], [17, 20]), ([21], [21]), ([], []), ([23], [23]), ([24, 20], [24]), ([22, 25], [22, 25]), ([26, 25, 0, 1, 2, 3, 4, 5, 6, 7, 8, 9, 10, 11, 12, 13, 14, 15, 16, 17, 18, 19, 20, 21, 22, 23, 24, 25, 26], [26])])
def impl_FormatDevice.B7 : List Nat := [0, 1, 3, 7, 0, 16, 63, 127, 0, 256, 768, 2047, 4095, 0, 8192, 26368, 65535, 131071, 0, 262144, 845568, 2097151, 4194303, 0, 8388608, 27059968, 67108863, 134217727]
theorem impl_FormatDevice.tab7 : rtab .any (opsOf Tryd.f20 7) = impl_FormatDevice.T7 := by kernel_rfl
theorem impl_FormatDevice.bits7 : waitsOk impl_FormatDevice.T7.2 impl_FormatDevice.B7 = true := by kernel_rfl
def impl_FormatDevice.T8 : Bool × List (List Nat × List Nat) := (true, [([], []), ([0], [0]), ([1], [1]), ([2], [2]), ([], []), ([4], [4]), ([3, 5], [3, 5]), ([6], [6]), ([], []), ([8], [8]), ([9], [9]), ([7, 10], [7, 10]), ([11, 10, 0, 1, 2, 3, 4, 5, 6, 7, 8, 9, 10, 11], [11])])
def impl_FormatDevice.B8 : List Nat := [0, 1, 3, 7, 0, 16, 63, 127, 0, 256, 768, 2047, 4095]
theorem impl_FormatDevice.tab8 : rtab .any (opsOf Tryd.f20 8) = impl_FormatDevice.T8 := by kernel_rfl
theorem impl_FormatDevice.bits8 : waitsOk impl_FormatDevice.T8.2 impl_FormatDevice.B8 = true := by kernel_rfl
theorem impl_FormatDevice.calls (k : Nat) (a0_0 : ByteArray) (a0_1 : Int) (a0_2 : ByteArray) (a0_3 : Int) (a0_4 : Int) (a0_5 : Int) (a0_6 : Int) (a0_7 : Int) (r : ByteArray) (w : World) (h : impl_FormatDevice.f k a0_0 a0_1 a0_2 a0_3 a0_4 a0_5 a0_6 a0_7 = some r) (hT : Ty.TabP w := by first | exact hT | exact Ty.TabP.below hT u4_5 | (repeat (first | exact hT | apply Ty.TabP.drewN))) :
  Calls Tryd.prog 20 #[.agg #[.string a0_0, .int .i64 a0_1, .string a0_2, .int .i64 a0_3, .int .i64 a0_4, .int .i64 a0_5, .int .i64 a0_6, .int .i64 a0_7]] w fun e w' => e = .returned (.string r) ∧ Below w.heap.size w w' := by
 have hu38 := Tryd.underlying38
 have hu36 := Tryd.underlying36
 have HB := am (Below.refl w.heap.size w)
 have H : ((impl_IsDevice.f k a0_0 a0_1 a0_2 a0_3 a0_4 a0_5 a0_6 a0_7).bind fun t137 => (if t137 = true then (if a0_1 = 1 then (if 5 + a0_0.size ≤ 9223372036854775807 then (if ((⟨#[112, 117, 109, 112, 32]⟩ : ByteArray) ++ a0_0).size + 6 ≤ 9223372036854775807 then ((impl_FormatMeasure.f k a0_7).bind fun t138 => (if (((⟨#[112, 117, 109, 112, 32]⟩ : ByteArray) ++ a0_0) ++ (⟨#[32, 109, 111, 115, 116, 32]⟩ : ByteArray)).size + t138.size ≤ 9223372036854775807 then (some ((((⟨#[112, 117, 109, 112, 32]⟩ : ByteArray) ++ a0_0) ++ (⟨#[32, 109, 111, 115, 116, 32]⟩ : ByteArray)) ++ t138)) else (none))) else (none)) else (none)) else (if a0_1 = 2 then (if 7 + a0_0.size ≤ 9223372036854775807 then (if ((⟨#[110, 111, 122, 122, 108, 101, 32]⟩ : ByteArray) ++ a0_0).size + 4 ≤ 9223372036854775807 then (if (((⟨#[110, 111, 122, 122, 108, 101, 32]⟩ : ByteArray) ++ a0_0) ++ (⟨#[32, 111, 110, 32]⟩ : ByteArray)).size + a0_2.size ≤ 9223372036854775807 then (if ((((⟨#[110, 111, 122, 122, 108, 101, 32]⟩ : ByteArray) ++ a0_0) ++ (⟨#[32, 111, 110, 32]⟩ : ByteArray)) ++ a0_2).size + 4 ≤ 9223372036854775807 then ((impl_FormatPlace.f k a0_3 a0_4).bind fun t139 => (if (((((⟨#[110, 111, 122, 122, 108, 101, 32]⟩ : ByteArray) ++ a0_0) ++ (⟨#[32, 111, 110, 32]⟩ : ByteArray)) ++ a0_2) ++ (⟨#[32, 97, 116, 32]⟩ : ByteArray)).size + t139.size ≤ 9223372036854775807 then (if ((((((⟨#[110, 111, 122, 122, 108, 101, 32]⟩ : ByteArray) ++ a0_0) ++ (⟨#[32, 111, 110, 32]⟩ : ByteArray)) ++ a0_2) ++ (⟨#[32, 97, 116, 32]⟩ : ByteArray)) ++ t139).size + 9 ≤ 9223372036854775807 then ((impl_FormatNumber.f a0_5).bind fun t140 => (if (((((((⟨#[110, 111, 122, 122, 108, 101, 32]⟩ : ByteArray) ++ a0_0) ++ (⟨#[32, 111, 110, 32]⟩ : ByteArray)) ++ a0_2) ++ (⟨#[32, 97, 116, 32]⟩ : ByteArray)) ++ t139) ++ (⟨#[32, 104, 101, 97, 100, 105, 110, 103, 32]⟩ : ByteArray)).size + t140.size ≤ 9223372036854775807 then (if ((((((((⟨#[110, 111, 122, 122, 108, 101, 32]⟩ : ByteArray) ++ a0_0) ++ (⟨#[32, 111, 110, 32]⟩ : ByteArray)) ++ a0_2) ++ (⟨#[32, 97, 116, 32]⟩ : ByteArray)) ++ t139) ++ (⟨#[32, 104, 101, 97, 100, 105, 110, 103, 32]⟩ : ByteArray)) ++ t140).size + 6 ≤ 9223372036854775807 then ((impl_FormatMeasure.f k a0_6).bind fun t141 => (if (((((((((⟨#[110, 111, 122, 122, 108, 101, 32]⟩ : ByteArray) ++ a0_0) ++ (⟨#[32, 111, 110, 32]⟩ : ByteArray)) ++ a0_2) ++ (⟨#[32, 97, 116, 32]⟩ : ByteArray)) ++ t139) ++ (⟨#[32, 104, 101, 97, 100, 105, 110, 103, 32]⟩ : ByteArray)) ++ t140) ++ (⟨#[32, 116, 105, 108, 116, 32]⟩ : ByteArray)).size + t141.size ≤ 9223372036854775807 then (if ((((((((((⟨#[110, 111, 122, 122, 108, 101, 32]⟩ : ByteArray) ++ a0_0) ++ (⟨#[32, 111, 110, 32]⟩ : ByteArray)) ++ a0_2) ++ (⟨#[32, 97, 116, 32]⟩ : ByteArray)) ++ t139) ++ (⟨#[32, 104, 101, 97, 100, 105, 110, 103, 32]⟩ : ByteArray)) ++ t140) ++ (⟨#[32, 116, 105, 108, 116, 32]⟩ : ByteArray)) ++ t141).size + 6 ≤ 9223372036854775807 then ((impl_FormatMeasure.f k a0_7).bind fun t142 => (if (((((((((((⟨#[110, 111, 122, 122, 108, 101, 32]⟩ : ByteArray) ++ a0_0) ++ (⟨#[32, 111, 110, 32]⟩ : ByteArray)) ++ a0_2) ++ (⟨#[32, 97, 116, 32]⟩ : ByteArray)) ++ t139) ++ (⟨#[32, 104, 101, 97, 100, 105, 110, 103, 32]⟩ : ByteArray)) ++ t140) ++ (⟨#[32, 116, 105, 108, 116, 32]⟩ : ByteArray)) ++ t141) ++ (⟨#[32, 109, 111, 115, 116, 32]⟩ : ByteArray)).size + t142.size ≤ 9223372036854775807 then (some ((((((((((((⟨#[110, 111, 122, 122, 108, 101, 32]⟩ : ByteArray) ++ a0_0) ++ (⟨#[32, 111, 110, 32]⟩ : ByteArray)) ++ a0_2) ++ (⟨#[32, 97, 116, 32]⟩ : ByteArray)) ++ t139) ++ (⟨#[32, 104, 101, 97, 100, 105, 110, 103, 32]⟩ : ByteArray)) ++ t140) ++ (⟨#[32, 116, 105, 108, 116, 32]⟩ : ByteArray)) ++ t141) ++ (⟨#[32, 109, 111, 115, 116, 32]⟩ : ByteArray)) ++ t142)) else (none))) else (none)) else (none))) else (none)) else (none))) else (none)) else (none))) else (none)) else (none)) else (none)) else (none)) else (if 5 + a0_0.size ≤ 9223372036854775807 then (if ((⟨#[108, 97, 109, 112, 32]⟩ : ByteArray) ++ a0_0).size + 4 ≤ 9223372036854775807 then (if (((⟨#[108, 97, 109, 112, 32]⟩ : ByteArray) ++ a0_0) ++ (⟨#[32, 111, 110, 32]⟩ : ByteArray)).size + a0_2.size ≤ 9223372036854775807 then (if ((((⟨#[108, 97, 109, 112, 32]⟩ : ByteArray) ++ a0_0) ++ (⟨#[32, 111, 110, 32]⟩ : ByteArray)) ++ a0_2).size + 4 ≤ 9223372036854775807 then ((impl_FormatPlace.f k a0_3 a0_4).bind fun t143 => (if (((((⟨#[108, 97, 109, 112, 32]⟩ : ByteArray) ++ a0_0) ++ (⟨#[32, 111, 110, 32]⟩ : ByteArray)) ++ a0_2) ++ (⟨#[32, 97, 116, 32]⟩ : ByteArray)).size + t143.size ≤ 9223372036854775807 then (some ((((((⟨#[108, 97, 109, 112, 32]⟩ : ByteArray) ++ a0_0) ++ (⟨#[32, 111, 110, 32]⟩ : ByteArray)) ++ a0_2) ++ (⟨#[32, 97, 116, 32]⟩ : ByteArray)) ++ t143)) else (none))) else (none)) else (none)) else (none)) else (none)))) else (some (⟨#[]⟩ : ByteArray)))) = some r := h
 clear h
 replace H := ob H
 obtain ⟨t137, A20, H⟩ := H
 replace H : (if t137 = true then (if a0_1 = 1 then (if 5 + a0_0.size ≤ 9223372036854775807 then (if ((⟨#[112, 117, 109, 112, 32]⟩ : ByteArray) ++ a0_0).size + 6 ≤ 9223372036854775807 then ((impl_FormatMeasure.f k a0_7).bind fun t138 => (if (((⟨#[112, 117, 109, 112, 32]⟩ : ByteArray) ++ a0_0) ++ (⟨#[32, 109, 111, 115, 116, 32]⟩ : ByteArray)).size + t138.size ≤ 9223372036854775807 then (some ((((⟨#[112, 117, 109, 112, 32]⟩ : ByteArray) ++ a0_0) ++ (⟨#[32, 109, 111, 115, 116, 32]⟩ : ByteArray)) ++ t138)) else (none))) else (none)) else (none)) else (if a0_1 = 2 then (if 7 + a0_0.size ≤ 9223372036854775807 then (if ((⟨#[110, 111, 122, 122, 108, 101, 32]⟩ : ByteArray) ++ a0_0).size + 4 ≤ 9223372036854775807 then (if (((⟨#[110, 111, 122, 122, 108, 101, 32]⟩ : ByteArray) ++ a0_0) ++ (⟨#[32, 111, 110, 32]⟩ : ByteArray)).size + a0_2.size ≤ 9223372036854775807 then (if ((((⟨#[110, 111, 122, 122, 108, 101, 32]⟩ : ByteArray) ++ a0_0) ++ (⟨#[32, 111, 110, 32]⟩ : ByteArray)) ++ a0_2).size + 4 ≤ 9223372036854775807 then ((impl_FormatPlace.f k a0_3 a0_4).bind fun t139 => (if (((((⟨#[110, 111, 122, 122, 108, 101, 32]⟩ : ByteArray) ++ a0_0) ++ (⟨#[32, 111, 110, 32]⟩ : ByteArray)) ++ a0_2) ++ (⟨#[32, 97, 116, 32]⟩ : ByteArray)).size + t139.size ≤ 9223372036854775807 then (if ((((((⟨#[110, 111, 122, 122, 108, 101, 32]⟩ : ByteArray) ++ a0_0) ++ (⟨#[32, 111, 110, 32]⟩ : ByteArray)) ++ a0_2) ++ (⟨#[32, 97, 116, 32]⟩ : ByteArray)) ++ t139).size + 9 ≤ 9223372036854775807 then ((impl_FormatNumber.f a0_5).bind fun t140 => (if (((((((⟨#[110, 111, 122, 122, 108, 101, 32]⟩ : ByteArray) ++ a0_0) ++ (⟨#[32, 111, 110, 32]⟩ : ByteArray)) ++ a0_2) ++ (⟨#[32, 97, 116, 32]⟩ : ByteArray)) ++ t139) ++ (⟨#[32, 104, 101, 97, 100, 105, 110, 103, 32]⟩ : ByteArray)).size + t140.size ≤ 9223372036854775807 then (if ((((((((⟨#[110, 111, 122, 122, 108, 101, 32]⟩ : ByteArray) ++ a0_0) ++ (⟨#[32, 111, 110, 32]⟩ : ByteArray)) ++ a0_2) ++ (⟨#[32, 97, 116, 32]⟩ : ByteArray)) ++ t139) ++ (⟨#[32, 104, 101, 97, 100, 105, 110, 103, 32]⟩ : ByteArray)) ++ t140).size + 6 ≤ 9223372036854775807 then ((impl_FormatMeasure.f k a0_6).bind fun t141 => (if (((((((((⟨#[110, 111, 122, 122, 108, 101, 32]⟩ : ByteArray) ++ a0_0) ++ (⟨#[32, 111, 110, 32]⟩ : ByteArray)) ++ a0_2) ++ (⟨#[32, 97, 116, 32]⟩ : ByteArray)) ++ t139) ++ (⟨#[32, 104, 101, 97, 100, 105, 110, 103, 32]⟩ : ByteArray)) ++ t140) ++ (⟨#[32, 116, 105, 108, 116, 32]⟩ : ByteArray)).size + t141.size ≤ 9223372036854775807 then (if ((((((((((⟨#[110, 111, 122, 122, 108, 101, 32]⟩ : ByteArray) ++ a0_0) ++ (⟨#[32, 111, 110, 32]⟩ : ByteArray)) ++ a0_2) ++ (⟨#[32, 97, 116, 32]⟩ : ByteArray)) ++ t139) ++ (⟨#[32, 104, 101, 97, 100, 105, 110, 103, 32]⟩ : ByteArray)) ++ t140) ++ (⟨#[32, 116, 105, 108, 116, 32]⟩ : ByteArray)) ++ t141).size + 6 ≤ 9223372036854775807 then ((impl_FormatMeasure.f k a0_7).bind fun t142 => (if (((((((((((⟨#[110, 111, 122, 122, 108, 101, 32]⟩ : ByteArray) ++ a0_0) ++ (⟨#[32, 111, 110, 32]⟩ : ByteArray)) ++ a0_2) ++ (⟨#[32, 97, 116, 32]⟩ : ByteArray)) ++ t139) ++ (⟨#[32, 104, 101, 97, 100, 105, 110, 103, 32]⟩ : ByteArray)) ++ t140) ++ (⟨#[32, 116, 105, 108, 116, 32]⟩ : ByteArray)) ++ t141) ++ (⟨#[32, 109, 111, 115, 116, 32]⟩ : ByteArray)).size + t142.size ≤ 9223372036854775807 then (some ((((((((((((⟨#[110, 111, 122, 122, 108, 101, 32]⟩ : ByteArray) ++ a0_0) ++ (⟨#[32, 111, 110, 32]⟩ : ByteArray)) ++ a0_2) ++ (⟨#[32, 97, 116, 32]⟩ : ByteArray)) ++ t139) ++ (⟨#[32, 104, 101, 97, 100, 105, 110, 103, 32]⟩ : ByteArray)) ++ t140) ++ (⟨#[32, 116, 105, 108, 116, 32]⟩ : ByteArray)) ++ t141) ++ (⟨#[32, 109, 111, 115, 116, 32]⟩ : ByteArray)) ++ t142)) else (none))) else (none)) else (none))) else (none)) else (none))) else (none)) else (none))) else (none)) else (none)) else (none)) else (none)) else (if 5 + a0_0.size ≤ 9223372036854775807 then (if ((⟨#[108, 97, 109, 112, 32]⟩ : ByteArray) ++ a0_0).size + 4 ≤ 9223372036854775807 then (if (((⟨#[108, 97, 109, 112, 32]⟩ : ByteArray) ++ a0_0) ++ (⟨#[32, 111, 110, 32]⟩ : ByteArray)).size + a0_2.size ≤ 9223372036854775807 then (if ((((⟨#[108, 97, 109, 112, 32]⟩ : ByteArray) ++ a0_0) ++ (⟨#[32, 111, 110, 32]⟩ : ByteArray)) ++ a0_2).size + 4 ≤ 9223372036854775807 then ((impl_FormatPlace.f k a0_3 a0_4).bind fun t143 => (if (((((⟨#[108, 97, 109, 112, 32]⟩ : ByteArray) ++ a0_0) ++ (⟨#[32, 111, 110, 32]⟩ : ByteArray)) ++ a0_2) ++ (⟨#[32, 97, 116, 32]⟩ : ByteArray)).size + t143.size ≤ 9223372036854775807 then (some ((((((⟨#[108, 97, 109, 112, 32]⟩ : ByteArray) ++ a0_0) ++ (⟨#[32, 111, 110, 32]⟩ : ByteArray)) ++ a0_2) ++ (⟨#[32, 97, 116, 32]⟩ : ByteArray)) ++ t143)) else (none))) else (none)) else (none)) else (none)) else (none)))) else (some (⟨#[]⟩ : ByteArray))) = some r := H
 have A2 := am A20
 clear A20
 by_cases c3 : t137 = true
 ·subst c3
  have H1 : (if a0_1 = 1 then (if 5 + a0_0.size ≤ 9223372036854775807 then (if ((⟨#[112, 117, 109, 112, 32]⟩ : ByteArray) ++ a0_0).size + 6 ≤ 9223372036854775807 then ((impl_FormatMeasure.f k a0_7).bind fun t138 => (if (((⟨#[112, 117, 109, 112, 32]⟩ : ByteArray) ++ a0_0) ++ (⟨#[32, 109, 111, 115, 116, 32]⟩ : ByteArray)).size + t138.size ≤ 9223372036854775807 then (some ((((⟨#[112, 117, 109, 112, 32]⟩ : ByteArray) ++ a0_0) ++ (⟨#[32, 109, 111, 115, 116, 32]⟩ : ByteArray)) ++ t138)) else (none))) else (none)) else (none)) else (if a0_1 = 2 then (if 7 + a0_0.size ≤ 9223372036854775807 then (if ((⟨#[110, 111, 122, 122, 108, 101, 32]⟩ : ByteArray) ++ a0_0).size + 4 ≤ 9223372036854775807 then (if (((⟨#[110, 111, 122, 122, 108, 101, 32]⟩ : ByteArray) ++ a0_0) ++ (⟨#[32, 111, 110, 32]⟩ : ByteArray)).size + a0_2.size ≤ 9223372036854775807 then (if ((((⟨#[110, 111, 122, 122, 108, 101, 32]⟩ : ByteArray) ++ a0_0) ++ (⟨#[32, 111, 110, 32]⟩ : ByteArray)) ++ a0_2).size + 4 ≤ 9223372036854775807 then ((impl_FormatPlace.f k a0_3 a0_4).bind fun t139 => (if (((((⟨#[110, 111, 122, 122, 108, 101, 32]⟩ : ByteArray) ++ a0_0) ++ (⟨#[32, 111, 110, 32]⟩ : ByteArray)) ++ a0_2) ++ (⟨#[32, 97, 116, 32]⟩ : ByteArray)).size + t139.size ≤ 9223372036854775807 then (if ((((((⟨#[110, 111, 122, 122, 108, 101, 32]⟩ : ByteArray) ++ a0_0) ++ (⟨#[32, 111, 110, 32]⟩ : ByteArray)) ++ a0_2) ++ (⟨#[32, 97, 116, 32]⟩ : ByteArray)) ++ t139).size + 9 ≤ 9223372036854775807 then ((impl_FormatNumber.f a0_5).bind fun t140 => (if (((((((⟨#[110, 111, 122, 122, 108, 101, 32]⟩ : ByteArray) ++ a0_0) ++ (⟨#[32, 111, 110, 32]⟩ : ByteArray)) ++ a0_2) ++ (⟨#[32, 97, 116, 32]⟩ : ByteArray)) ++ t139) ++ (⟨#[32, 104, 101, 97, 100, 105, 110, 103, 32]⟩ : ByteArray)).size + t140.size ≤ 9223372036854775807 then (if ((((((((⟨#[110, 111, 122, 122, 108, 101, 32]⟩ : ByteArray) ++ a0_0) ++ (⟨#[32, 111, 110, 32]⟩ : ByteArray)) ++ a0_2) ++ (⟨#[32, 97, 116, 32]⟩ : ByteArray)) ++ t139) ++ (⟨#[32, 104, 101, 97, 100, 105, 110, 103, 32]⟩ : ByteArray)) ++ t140).size + 6 ≤ 9223372036854775807 then ((impl_FormatMeasure.f k a0_6).bind fun t141 => (if (((((((((⟨#[110, 111, 122, 122, 108, 101, 32]⟩ : ByteArray) ++ a0_0) ++ (⟨#[32, 111, 110, 32]⟩ : ByteArray)) ++ a0_2) ++ (⟨#[32, 97, 116, 32]⟩ : ByteArray)) ++ t139) ++ (⟨#[32, 104, 101, 97, 100, 105, 110, 103, 32]⟩ : ByteArray)) ++ t140) ++ (⟨#[32, 116, 105, 108, 116, 32]⟩ : ByteArray)).size + t141.size ≤ 9223372036854775807 then (if ((((((((((⟨#[110, 111, 122, 122, 108, 101, 32]⟩ : ByteArray) ++ a0_0) ++ (⟨#[32, 111, 110, 32]⟩ : ByteArray)) ++ a0_2) ++ (⟨#[32, 97, 116, 32]⟩ : ByteArray)) ++ t139) ++ (⟨#[32, 104, 101, 97, 100, 105, 110, 103, 32]⟩ : ByteArray)) ++ t140) ++ (⟨#[32, 116, 105, 108, 116, 32]⟩ : ByteArray)) ++ t141).size + 6 ≤ 9223372036854775807 then ((impl_FormatMeasure.f k a0_7).bind fun t142 => (if (((((((((((⟨#[110, 111, 122, 122, 108, 101, 32]⟩ : ByteArray) ++ a0_0) ++ (⟨#[32, 111, 110, 32]⟩ : ByteArray)) ++ a0_2) ++ (⟨#[32, 97, 116, 32]⟩ : ByteArray)) ++ t139) ++ (⟨#[32, 104, 101, 97, 100, 105, 110, 103, 32]⟩ : ByteArray)) ++ t140) ++ (⟨#[32, 116, 105, 108, 116, 32]⟩ : ByteArray)) ++ t141) ++ (⟨#[32, 109, 111, 115, 116, 32]⟩ : ByteArray)).size + t142.size ≤ 9223372036854775807 then (some ((((((((((((⟨#[110, 111, 122, 122, 108, 101, 32]⟩ : ByteArray) ++ a0_0) ++ (⟨#[32, 111, 110, 32]⟩ : ByteArray)) ++ a0_2) ++ (⟨#[32, 97, 116, 32]⟩ : ByteArray)) ++ t139) ++ (⟨#[32, 104, 101, 97, 100, 105, 110, 103, 32]⟩ : ByteArray)) ++ t140) ++ (⟨#[32, 116, 105, 108, 116, 32]⟩ : ByteArray)) ++ t141) ++ (⟨#[32, 109, 111, 115, 116, 32]⟩ : ByteArray)) ++ t142)) else (none))) else (none)) else (none))) else (none)) else (none))) else (none)) else (none))) else (none)) else (none)) else (none)) else (none)) else (if 5 + a0_0.size ≤ 9223372036854775807 then (if ((⟨#[108, 97, 109, 112, 32]⟩ : ByteArray) ++ a0_0).size + 4 ≤ 9223372036854775807 then (if (((⟨#[108, 97, 109, 112, 32]⟩ : ByteArray) ++ a0_0) ++ (⟨#[32, 111, 110, 32]⟩ : ByteArray)).size + a0_2.size ≤ 9223372036854775807 then (if ((((⟨#[108, 97, 109, 112, 32]⟩ : ByteArray) ++ a0_0) ++ (⟨#[32, 111, 110, 32]⟩ : ByteArray)) ++ a0_2).size + 4 ≤ 9223372036854775807 then ((impl_FormatPlace.f k a0_3 a0_4).bind fun t143 => (if (((((⟨#[108, 97, 109, 112, 32]⟩ : ByteArray) ++ a0_0) ++ (⟨#[32, 111, 110, 32]⟩ : ByteArray)) ++ a0_2) ++ (⟨#[32, 97, 116, 32]⟩ : ByteArray)).size + t143.size ≤ 9223372036854775807 then (some ((((((⟨#[108, 97, 109, 112, 32]⟩ : ByteArray) ++ a0_0) ++ (⟨#[32, 111, 110, 32]⟩ : ByteArray)) ++ a0_2) ++ (⟨#[32, 97, 116, 32]⟩ : ByteArray)) ++ t143)) else (none))) else (none)) else (none)) else (none)) else (none)))) = some r := by rw [if_pos rfl] at H; exact H
  clear H
  have H := H1
  clear H1
  by_cases c4 : a0_1 = 1
  ·rw [if_pos c4] at H
   have c4b0 : (a0_1 == 1) = true := beq_iff_eq.mpr c4
   have c4b1 : (a0_1 != 1) = false := bne_eq_false_iff_eq.mpr c4
   clear c4
   by_cases c5 : 5 + a0_0.size ≤ 9223372036854775807
   ·rw [if_pos c5] at H
    have c5b0 := eq_true c5
    have c5b1 : decide (5 + a0_0.size ≤ 9223372036854775807) = true := decide_eq_true c5
    try have c5b2 : (9223372036854775807 < 5 + a0_0.size) = False := eq_false (Nat.not_lt.2 c5)
    by_cases c6 : ((⟨#[112, 117, 109, 112, 32]⟩ : ByteArray) ++ a0_0).size + 6 ≤ 9223372036854775807
    ·rw [if_pos c6] at H
     have c6b0 := eq_true c6
     have c6b1 : decide (((⟨#[112, 117, 109, 112, 32]⟩ : ByteArray) ++ a0_0).size + 6 ≤ 9223372036854775807) = true := decide_eq_true c6
     try have c6b2 : (9223372036854775807 < ((⟨#[112, 117, 109, 112, 32]⟩ : ByteArray) ++ a0_0).size + 6) = False := eq_false (Nat.not_lt.2 c6)
     try have c6b8 : (5 + a0_0.size + 6 ≤ 9223372036854775807) = True := by have t_ := c6b0; first | (simp only [ByteArray.size_append, Nat.zero_add, Nat.add_zero] at t_; exact t_) | (have t2_ := of_eq_true t_; simp only [ByteArray.size_append] at t2_; exact eq_true u4_0)
     try have c6b9 : (9223372036854775807 < 5 + a0_0.size + 6) = False := by have t_ := c6b2; first | (simp only [ByteArray.size_append] at t_; exact t_) | (have t2_ := c6b8; exact eq_false (Nat.not_lt.2 (of_eq_true t2_)))
     replace H := ob H
     obtain ⟨t138, A70, H⟩ := H
     replace H : (if (((⟨#[112, 117, 109, 112, 32]⟩ : ByteArray) ++ a0_0) ++ (⟨#[32, 109, 111, 115, 116, 32]⟩ : ByteArray)).size + t138.size ≤ 9223372036854775807 then (some ((((⟨#[112, 117, 109, 112, 32]⟩ : ByteArray) ++ a0_0) ++ (⟨#[32, 109, 111, 115, 116, 32]⟩ : ByteArray)) ++ t138)) else (none)) = some r := H
     have A7 := am A70
     clear A70
     by_cases c8 : (((⟨#[112, 117, 109, 112, 32]⟩ : ByteArray) ++ a0_0) ++ (⟨#[32, 109, 111, 115, 116, 32]⟩ : ByteArray)).size + t138.size ≤ 9223372036854775807
     ·rw [if_pos c8] at H
      have c8b0 := eq_true c8
      have c8b1 : decide ((((⟨#[112, 117, 109, 112, 32]⟩ : ByteArray) ++ a0_0) ++ (⟨#[32, 109, 111, 115, 116, 32]⟩ : ByteArray)).size + t138.size ≤ 9223372036854775807) = true := decide_eq_true c8
      try have c8b2 : (9223372036854775807 < (((⟨#[112, 117, 109, 112, 32]⟩ : ByteArray) ++ a0_0) ++ (⟨#[32, 109, 111, 115, 116, 32]⟩ : ByteArray)).size + t138.size) = False := eq_false (Nat.not_lt.2 c8)
      try have c8b8 : (5 + a0_0.size + 6 + t138.size ≤ 9223372036854775807) = True := by have t_ := c8b0; first | (simp only [ByteArray.size_append, Nat.zero_add, Nat.add_zero] at t_; exact t_) | (have t2_ := of_eq_true t_; simp only [ByteArray.size_append] at t2_; exact eq_true u4_0)
      try have c8b9 : (9223372036854775807 < 5 + a0_0.size + 6 + t138.size) = False := by have t_ := c8b2; first | (simp only [ByteArray.size_append] at t_; exact t_) | (have t2_ := c8b8; exact eq_false (Nat.not_lt.2 (of_eq_true t2_)))
      obtain rfl := oi H
      go_enter Tryd.func20, Tryd.ntmps20
      try go_wp2_with (first | ((with_reducible refine gate_dst (N := 1) rfl ?_); refine box_event ?hg (N := 1) ?hd (cs := #[.string a0_0, .int .i64 a0_1, .string a0_2, .int .i64 a0_3, .int .i64 a0_4, .int .i64 a0_5, .int .i64 a0_6, .int .i64 a0_7]) (t := 38) ?hr ?_; (case hd => rfl); (case hg => rfl); (case hr => exact gq); intro gb136 hg w9 hbox hb; have n0_ := am (below_step u4_1 hb); have n1_ := am (hbox); have n2_ := bsw w hg (below_size u4_1); have n3_ := bsw w hg (below_size u4_1); clear HB; have HB := n0_; have BK136 := n1_; have GW136 := n2_; have GE136 := n3_; clear n0_ n1_ n2_ n3_ hb hbox hg; obtain ⟨hcz10_0, hcz10_1, hcz10_2, hcz10_3, hcz10_4, hcz10_5, hcz10_6, hcz10_7, hfz10_0, hfz10_1, hfz10_2, hfz10_3, hfz10_4, hfz10_5, hfz10_6, hfz10_7⟩ := cf8 BK136.out) | ((with_reducible refine gate_callee (f := 21) rfl ?_); refine goesL_ (some 4) rfl rfl Tryd.func21 (by kernel_rfl) rfl #[.agg #[.string a0_0, .int .i64 a0_1, .string a0_2, .int .i64 a0_3, .int .i64 a0_4, .int .i64 a0_5, .int .i64 a0_6, .int .i64 a0_7]] rfl u4_4 ?_; (with_reducible refine (impl_IsDevice.calls k a0_0 a0_1 a0_2 a0_3 a0_4 a0_5 a0_6 a0_7 true _ A2.out).mono ?_); rintro e w11 ⟨rfl, hb⟩; refine ⟨_, rfl, ?_⟩; have n0_ := am (blk_below (g := gb136) (o := zo0 a0_0 a0_1 a0_2 a0_3 a0_4 a0_5 a0_6 a0_7) u4_3 hb); have n1_ := am (below_step u4_2 hb); clear BK136 HB; have BK136 := n0_; have HB := n1_; clear n0_ n1_; (try clear hb); (try clear hb2); (try clear hk); (try clear hi); obtain ⟨hcz12_0, hcz12_1, hcz12_2, hcz12_3, hcz12_4, hcz12_5, hcz12_6, hcz12_7, hfz12_0, hfz12_1, hfz12_2, hfz12_3, hfz12_4, hfz12_5, hfz12_6, hfz12_7⟩ := cf8 BK136.out))
      have n0_ := am (blk_drew BK136.out)
      have n1_ := am (below_drew1 HB.out)
      clear BK136 HB
      have BK136 := n0_
      have HB := n1_
      clear n0_ n1_
      refine start_ (n := 9) (S := fun w' => zc3 w' gb136 a0_0 a0_1 a0_2 a0_3 a0_4 a0_5 a0_6 a0_7) (ds := []) #[false, false, false, false, false, false, false, false, false] (by kernel_rfl) rfl rfl ⟨(blk_cell BK136.out 0).trans rfl, (blk_cell BK136.out 1).trans rfl, (blk_cell BK136.out 2).trans rfl, (blk_cell BK136.out 3).trans rfl, (blk_cell BK136.out 4).trans rfl, (blk_cell BK136.out 5).trans rfl, (blk_cell BK136.out 6).trans rfl, (blk_cell BK136.out 7).trans rfl⟩ (fun hHeld => ?_); refine with_tabW impl_FormatDevice.tab5 impl_FormatDevice.bits5 (fun HT_ HW_ => ?_)
      generalize w11.drew = w13 at BK136 HB hHeld ⊢
      refine pz 0 10 #[true, false, false, false, false, false, false, false, false] (any_of HT_.out (by kernel_rfl)) ?_
      refine pz 4 14 #[true, false, false, false, true, false, false, false, false] (any_of HT_.out (by kernel_rfl)) ?_
      refine take_ (i := 1) (N := some 11) (v := ?_) (a' := ?_) #[true, true, false, false, true, false, false, false, false] rfl rfl (take_ofW HT_.out HW_.out (by kernel_rfl)) (fun _ _ _ h => h) (Or.inl ⟨by rfl, ?_⟩) hHeld ?_ ?_
      rotate_left
      ·rintro w' ⟨s0, s1, s2, s3, s4, s5, s6, s7⟩
       exact gs
      rotate_left
      ·exact ap
      refine pz 2 12 #[true, true, true, false, true, false, false, false, false] (any_of HT_.out (by kernel_rfl)) ?_
      refine pz 3 13 #[true, true, true, true, true, false, false, false, false] (any_of HT_.out (by kernel_rfl)) ?_
      refine take_ (i := 5) (N := some 15) (v := ?_) (a' := ?_) #[true, true, true, true, true, true, false, false, false] rfl rfl (take_ofW HT_.out HW_.out (by kernel_rfl)) (fun _ _ _ h => h) (Or.inl ⟨by rfl, ?_⟩) hHeld ?_ ?_
      rotate_left
      ·rintro w' ⟨s0, s1, s2, s3, s4, s5, s6, s7⟩
       exact gs
      rotate_left
      ·exact ap
      refine one_ (i := 6) (N := some 16) #[true, true, true, true, true, true, true, false, false] rfl rfl (one_of HT_.out (by kernel_rfl)) (by decide) (fun K hK => ?_)
      refine goes_ Tryd.func40 (by kernel_rfl) rfl #[.int .i64 a0_7] (by rfl) rfl rfl u4_4 ?_
      with_reducible refine (impl_FormatMeasure.calls k a0_7 t138 _ A7.out).mono ?_
      rintro e w14 ⟨rfl, hb⟩
      refine ⟨_, rfl, ?_⟩
      have n0_ := am (blk_below (g := gb136) (o := zo0 a0_0 a0_1 a0_2 a0_3 a0_4 a0_5 a0_6 a0_7) u4_3 hb)
      have n1_ := am (below_step u4_2 hb)
      clear BK136 HB
      have BK136 := n0_
      have HB := n1_
      clear n0_ n1_
      (try clear hb)
      (try clear hb2)
      (try clear hk)
      (try clear hi)
      refine hK.out _ _ ⟨(blk_cell BK136.out 0).trans rfl, (blk_cell BK136.out 1).trans rfl, (blk_cell BK136.out 2).trans rfl, (blk_cell BK136.out 3).trans rfl, (blk_cell BK136.out 4).trans rfl, (blk_cell BK136.out 5).trans rfl, (blk_cell BK136.out 6).trans rfl, (blk_cell BK136.out 7).trans rfl⟩ (fun hHeld => ?_)
      clear hK K
      refine norm_ (a' := ?_) ?_ ?_
      rotate_left
      ·show Act.put _ (some 16) _ = _
       simp only [Act.put, List.setIfInBounds_toArray, List.set_cons_zero, List.set_cons_succ, i64_w, i32_w]
       rfl
      refine pz 7 17 #[true, true, true, true, true, true, true, true, false] (any_of HT_.out (by kernel_rfl)) ?_
      refine pz 8 2 #[true, true, true, true, true, true, true, true, true] (any_of HT_.out (by kernel_rfl)) ?_
      refine done_ (done_of HT_.out (by kernel_rfl)) ?_
      try go_wp2
      go_ret
      exact ⟨by first | rfl | (simp [*] <;> rfl), s4_0⟩
     ·rw [if_neg c8] at H
      exact absurd H (by simp)
    ·rw [if_neg c6] at H
     exact absurd H (by simp)
   ·rw [if_neg c5] at H
    exact absurd H (by simp)
  ·rw [if_neg c4] at H
   have c4b0 : (a0_1 == 1) = false := beq_eq_false_iff_ne.mpr c4
   have c4b1 : (a0_1 != 1) = true := bne_iff_ne.mpr c4
   by_cases c15 : a0_1 = 2
   ·rw [if_pos c15] at H
    have c15b0 : (a0_1 == 2) = true := beq_iff_eq.mpr c15
    have c15b1 : (a0_1 != 2) = false := bne_eq_false_iff_eq.mpr c15
    clear c15
    by_cases c16 : 7 + a0_0.size ≤ 9223372036854775807
    ·rw [if_pos c16] at H
     have c16b0 := eq_true c16
     have c16b1 : decide (7 + a0_0.size ≤ 9223372036854775807) = true := decide_eq_true c16
     try have c16b2 : (9223372036854775807 < 7 + a0_0.size) = False := eq_false (Nat.not_lt.2 c16)
     by_cases c17 : ((⟨#[110, 111, 122, 122, 108, 101, 32]⟩ : ByteArray) ++ a0_0).size + 4 ≤ 9223372036854775807
     ·rw [if_pos c17] at H
      have c17b0 := eq_true c17
      have c17b1 : decide (((⟨#[110, 111, 122, 122, 108, 101, 32]⟩ : ByteArray) ++ a0_0).size + 4 ≤ 9223372036854775807) = true := decide_eq_true c17
      try have c17b2 : (9223372036854775807 < ((⟨#[110, 111, 122, 122, 108, 101, 32]⟩ : ByteArray) ++ a0_0).size + 4) = False := eq_false (Nat.not_lt.2 c17)
      try have c17b8 : (7 + a0_0.size + 4 ≤ 9223372036854775807) = True := by have t_ := c17b0; first | (simp only [ByteArray.size_append, Nat.zero_add, Nat.add_zero] at t_; exact t_) | (have t2_ := of_eq_true t_; simp only [ByteArray.size_append] at t2_; exact eq_true u4_0)
      try have c17b9 : (9223372036854775807 < 7 + a0_0.size + 4) = False := by have t_ := c17b2; first | (simp only [ByteArray.size_append] at t_; exact t_) | (have t2_ := c17b8; exact eq_false (Nat.not_lt.2 (of_eq_true t2_)))
      by_cases c18 : (((⟨#[110, 111, 122, 122, 108, 101, 32]⟩ : ByteArray) ++ a0_0) ++ (⟨#[32, 111, 110, 32]⟩ : ByteArray)).size + a0_2.size ≤ 9223372036854775807
      ·rw [if_pos c18] at H
       have c18b0 := eq_true c18
       have c18b1 : decide ((((⟨#[110, 111, 122, 122, 108, 101, 32]⟩ : ByteArray) ++ a0_0) ++ (⟨#[32, 111, 110, 32]⟩ : ByteArray)).size + a0_2.size ≤ 9223372036854775807) = true := decide_eq_true c18
       try have c18b2 : (9223372036854775807 < (((⟨#[110, 111, 122, 122, 108, 101, 32]⟩ : ByteArray) ++ a0_0) ++ (⟨#[32, 111, 110, 32]⟩ : ByteArray)).size + a0_2.size) = False := eq_false (Nat.not_lt.2 c18)
       try have c18b8 : (7 + a0_0.size + 4 + a0_2.size ≤ 9223372036854775807) = True := by have t_ := c18b0; first | (simp only [ByteArray.size_append, Nat.zero_add, Nat.add_zero] at t_; exact t_) | (have t2_ := of_eq_true t_; simp only [ByteArray.size_append] at t2_; exact eq_true u4_0)
       try have c18b9 : (9223372036854775807 < 7 + a0_0.size + 4 + a0_2.size) = False := by have t_ := c18b2; first | (simp only [ByteArray.size_append] at t_; exact t_) | (have t2_ := c18b8; exact eq_false (Nat.not_lt.2 (of_eq_true t2_)))
       by_cases c19 : ((((⟨#[110, 111, 122, 122, 108, 101, 32]⟩ : ByteArray) ++ a0_0) ++ (⟨#[32, 111, 110, 32]⟩ : ByteArray)) ++ a0_2).size + 4 ≤ 9223372036854775807
       ·rw [if_pos c19] at H
        have c19b0 := eq_true c19
        have c19b1 : decide (((((⟨#[110, 111, 122, 122, 108, 101, 32]⟩ : ByteArray) ++ a0_0) ++ (⟨#[32, 111, 110, 32]⟩ : ByteArray)) ++ a0_2).size + 4 ≤ 9223372036854775807) = true := decide_eq_true c19
        try have c19b2 : (9223372036854775807 < ((((⟨#[110, 111, 122, 122, 108, 101, 32]⟩ : ByteArray) ++ a0_0) ++ (⟨#[32, 111, 110, 32]⟩ : ByteArray)) ++ a0_2).size + 4) = False := eq_false (Nat.not_lt.2 c19)
        try have c19b8 : (7 + a0_0.size + 4 + a0_2.size + 4 ≤ 9223372036854775807) = True := by have t_ := c19b0; first | (simp only [ByteArray.size_append, Nat.zero_add, Nat.add_zero] at t_; exact t_) | (have t2_ := of_eq_true t_; simp only [ByteArray.size_append] at t2_; exact eq_true u4_0)
        try have c19b9 : (9223372036854775807 < 7 + a0_0.size + 4 + a0_2.size + 4) = False := by have t_ := c19b2; first | (simp only [ByteArray.size_append] at t_; exact t_) | (have t2_ := c19b8; exact eq_false (Nat.not_lt.2 (of_eq_true t2_)))
        replace H := ob H
        obtain ⟨t139, A200, H⟩ := H
        replace H : (if (((((⟨#[110, 111, 122, 122, 108, 101, 32]⟩ : ByteArray) ++ a0_0) ++ (⟨#[32, 111, 110, 32]⟩ : ByteArray)) ++ a0_2) ++ (⟨#[32, 97, 116, 32]⟩ : ByteArray)).size + t139.size ≤ 9223372036854775807 then (if ((((((⟨#[110, 111, 122, 122, 108, 101, 32]⟩ : ByteArray) ++ a0_0) ++ (⟨#[32, 111, 110, 32]⟩ : ByteArray)) ++ a0_2) ++ (⟨#[32, 97, 116, 32]⟩ : ByteArray)) ++ t139).size + 9 ≤ 9223372036854775807 then ((impl_FormatNumber.f a0_5).bind fun t140 => (if (((((((⟨#[110, 111, 122, 122, 108, 101, 32]⟩ : ByteArray) ++ a0_0) ++ (⟨#[32, 111, 110, 32]⟩ : ByteArray)) ++ a0_2) ++ (⟨#[32, 97, 116, 32]⟩ : ByteArray)) ++ t139) ++ (⟨#[32, 104, 101, 97, 100, 105, 110, 103, 32]⟩ : ByteArray)).size + t140.size ≤ 9223372036854775807 then (if ((((((((⟨#[110, 111, 122, 122, 108, 101, 32]⟩ : ByteArray) ++ a0_0) ++ (⟨#[32, 111, 110, 32]⟩ : ByteArray)) ++ a0_2) ++ (⟨#[32, 97, 116, 32]⟩ : ByteArray)) ++ t139) ++ (⟨#[32, 104, 101, 97, 100, 105, 110, 103, 32]⟩ : ByteArray)) ++ t140).size + 6 ≤ 9223372036854775807 then ((impl_FormatMeasure.f k a0_6).bind fun t141 => (if (((((((((⟨#[110, 111, 122, 122, 108, 101, 32]⟩ : ByteArray) ++ a0_0) ++ (⟨#[32, 111, 110, 32]⟩ : ByteArray)) ++ a0_2) ++ (⟨#[32, 97, 116, 32]⟩ : ByteArray)) ++ t139) ++ (⟨#[32, 104, 101, 97, 100, 105, 110, 103, 32]⟩ : ByteArray)) ++ t140) ++ (⟨#[32, 116, 105, 108, 116, 32]⟩ : ByteArray)).size + t141.size ≤ 9223372036854775807 then (if ((((((((((⟨#[110, 111, 122, 122, 108, 101, 32]⟩ : ByteArray) ++ a0_0) ++ (⟨#[32, 111, 110, 32]⟩ : ByteArray)) ++ a0_2) ++ (⟨#[32, 97, 116, 32]⟩ : ByteArray)) ++ t139) ++ (⟨#[32, 104, 101, 97, 100, 105, 110, 103, 32]⟩ : ByteArray)) ++ t140) ++ (⟨#[32, 116, 105, 108, 116, 32]⟩ : ByteArray)) ++ t141).size + 6 ≤ 9223372036854775807 then ((impl_FormatMeasure.f k a0_7).bind fun t142 => (if (((((((((((⟨#[110, 111, 122, 122, 108, 101, 32]⟩ : ByteArray) ++ a0_0) ++ (⟨#[32, 111, 110, 32]⟩ : ByteArray)) ++ a0_2) ++ (⟨#[32, 97, 116, 32]⟩ : ByteArray)) ++ t139) ++ (⟨#[32, 104, 101, 97, 100, 105, 110, 103, 32]⟩ : ByteArray)) ++ t140) ++ (⟨#[32, 116, 105, 108, 116, 32]⟩ : ByteArray)) ++ t141) ++ (⟨#[32, 109, 111, 115, 116, 32]⟩ : ByteArray)).size + t142.size ≤ 9223372036854775807 then (some ((((((((((((⟨#[110, 111, 122, 122, 108, 101, 32]⟩ : ByteArray) ++ a0_0) ++ (⟨#[32, 111, 110, 32]⟩ : ByteArray)) ++ a0_2) ++ (⟨#[32, 97, 116, 32]⟩ : ByteArray)) ++ t139) ++ (⟨#[32, 104, 101, 97, 100, 105, 110, 103, 32]⟩ : ByteArray)) ++ t140) ++ (⟨#[32, 116, 105, 108, 116, 32]⟩ : ByteArray)) ++ t141) ++ (⟨#[32, 109, 111, 115, 116, 32]⟩ : ByteArray)) ++ t142)) else (none))) else (none)) else (none))) else (none)) else (none))) else (none)) else (none)) = some r := H
        have A20 := am A200
        clear A200
        by_cases c21 : (((((⟨#[110, 111, 122, 122, 108, 101, 32]⟩ : ByteArray) ++ a0_0) ++ (⟨#[32, 111, 110, 32]⟩ : ByteArray)) ++ a0_2) ++ (⟨#[32, 97, 116, 32]⟩ : ByteArray)).size + t139.size ≤ 9223372036854775807
        ·rw [if_pos c21] at H
         have c21b0 := eq_true c21
         have c21b1 : decide ((((((⟨#[110, 111, 122, 122, 108, 101, 32]⟩ : ByteArray) ++ a0_0) ++ (⟨#[32, 111, 110, 32]⟩ : ByteArray)) ++ a0_2) ++ (⟨#[32, 97, 116, 32]⟩ : ByteArray)).size + t139.size ≤ 9223372036854775807) = true := decide_eq_true c21
         try have c21b2 : (9223372036854775807 < (((((⟨#[110, 111, 122, 122, 108, 101, 32]⟩ : ByteArray) ++ a0_0) ++ (⟨#[32, 111, 110, 32]⟩ : ByteArray)) ++ a0_2) ++ (⟨#[32, 97, 116, 32]⟩ : ByteArray)).size + t139.size) = False := eq_false (Nat.not_lt.2 c21)
         try have c21b8 : (7 + a0_0.size + 4 + a0_2.size + 4 + t139.size ≤ 9223372036854775807) = True := by have t_ := c21b0; first | (simp only [ByteArray.size_append, Nat.zero_add, Nat.add_zero] at t_; exact t_) | (have t2_ := of_eq_true t_; simp only [ByteArray.size_append] at t2_; exact eq_true u4_0)
         try have c21b9 : (9223372036854775807 < 7 + a0_0.size + 4 + a0_2.size + 4 + t139.size) = False := by have t_ := c21b2; first | (simp only [ByteArray.size_append] at t_; exact t_) | (have t2_ := c21b8; exact eq_false (Nat.not_lt.2 (of_eq_true t2_)))
         by_cases c22 : ((((((⟨#[110, 111, 122, 122, 108, 101, 32]⟩ : ByteArray) ++ a0_0) ++ (⟨#[32, 111, 110, 32]⟩ : ByteArray)) ++ a0_2) ++ (⟨#[32, 97, 116, 32]⟩ : ByteArray)) ++ t139).size + 9 ≤ 9223372036854775807
         ·rw [if_pos c22] at H
          have c22b0 := eq_true c22
          have c22b1 : decide (((((((⟨#[110, 111, 122, 122, 108, 101, 32]⟩ : ByteArray) ++ a0_0) ++ (⟨#[32, 111, 110, 32]⟩ : ByteArray)) ++ a0_2) ++ (⟨#[32, 97, 116, 32]⟩ : ByteArray)) ++ t139).size + 9 ≤ 9223372036854775807) = true := decide_eq_true c22
          try have c22b2 : (9223372036854775807 < ((((((⟨#[110, 111, 122, 122, 108, 101, 32]⟩ : ByteArray) ++ a0_0) ++ (⟨#[32, 111, 110, 32]⟩ : ByteArray)) ++ a0_2) ++ (⟨#[32, 97, 116, 32]⟩ : ByteArray)) ++ t139).size + 9) = False := eq_false (Nat.not_lt.2 c22)
          try have c22b8 : (7 + a0_0.size + 4 + a0_2.size + 4 + t139.size + 9 ≤ 9223372036854775807) = True := by have t_ := c22b0; first | (simp only [ByteArray.size_append, Nat.zero_add, Nat.add_zero] at t_; exact t_) | (have t2_ := of_eq_true t_; simp only [ByteArray.size_append] at t2_; exact eq_true u4_0)
          try have c22b9 : (9223372036854775807 < 7 + a0_0.size + 4 + a0_2.size + 4 + t139.size + 9) = False := by have t_ := c22b2; first | (simp only [ByteArray.size_append] at t_; exact t_) | (have t2_ := c22b8; exact eq_false (Nat.not_lt.2 (of_eq_true t2_)))
          replace H := ob H
          obtain ⟨t140, A230, H⟩ := H
          replace H : (if (((((((⟨#[110, 111, 122, 122, 108, 101, 32]⟩ : ByteArray) ++ a0_0) ++ (⟨#[32, 111, 110, 32]⟩ : ByteArray)) ++ a0_2) ++ (⟨#[32, 97, 116, 32]⟩ : ByteArray)) ++ t139) ++ (⟨#[32, 104, 101, 97, 100, 105, 110, 103, 32]⟩ : ByteArray)).size + t140.size ≤ 9223372036854775807 then (if ((((((((⟨#[110, 111, 122, 122, 108, 101, 32]⟩ : ByteArray) ++ a0_0) ++ (⟨#[32, 111, 110, 32]⟩ : ByteArray)) ++ a0_2) ++ (⟨#[32, 97, 116, 32]⟩ : ByteArray)) ++ t139) ++ (⟨#[32, 104, 101, 97, 100, 105, 110, 103, 32]⟩ : ByteArray)) ++ t140).size + 6 ≤ 9223372036854775807 then ((impl_FormatMeasure.f k a0_6).bind fun t141 => (if (((((((((⟨#[110, 111, 122, 122, 108, 101, 32]⟩ : ByteArray) ++ a0_0) ++ (⟨#[32, 111, 110, 32]⟩ : ByteArray)) ++ a0_2) ++ (⟨#[32, 97, 116, 32]⟩ : ByteArray)) ++ t139) ++ (⟨#[32, 104, 101, 97, 100, 105, 110, 103, 32]⟩ : ByteArray)) ++ t140) ++ (⟨#[32, 116, 105, 108, 116, 32]⟩ : ByteArray)).size + t141.size ≤ 9223372036854775807 then (if ((((((((((⟨#[110, 111, 122, 122, 108, 101, 32]⟩ : ByteArray) ++ a0_0) ++ (⟨#[32, 111, 110, 32]⟩ : ByteArray)) ++ a0_2) ++ (⟨#[32, 97, 116, 32]⟩ : ByteArray)) ++ t139) ++ (⟨#[32, 104, 101, 97, 100, 105, 110, 103, 32]⟩ : ByteArray)) ++ t140) ++ (⟨#[32, 116, 105, 108, 116, 32]⟩ : ByteArray)) ++ t141).size + 6 ≤ 9223372036854775807 then ((impl_FormatMeasure.f k a0_7).bind fun t142 => (if (((((((((((⟨#[110, 111, 122, 122, 108, 101, 32]⟩ : ByteArray) ++ a0_0) ++ (⟨#[32, 111, 110, 32]⟩ : ByteArray)) ++ a0_2) ++ (⟨#[32, 97, 116, 32]⟩ : ByteArray)) ++ t139) ++ (⟨#[32, 104, 101, 97, 100, 105, 110, 103, 32]⟩ : ByteArray)) ++ t140) ++ (⟨#[32, 116, 105, 108, 116, 32]⟩ : ByteArray)) ++ t141) ++ (⟨#[32, 109, 111, 115, 116, 32]⟩ : ByteArray)).size + t142.size ≤ 9223372036854775807 then (some ((((((((((((⟨#[110, 111, 122, 122, 108, 101, 32]⟩ : ByteArray) ++ a0_0) ++ (⟨#[32, 111, 110, 32]⟩ : ByteArray)) ++ a0_2) ++ (⟨#[32, 97, 116, 32]⟩ : ByteArray)) ++ t139) ++ (⟨#[32, 104, 101, 97, 100, 105, 110, 103, 32]⟩ : ByteArray)) ++ t140) ++ (⟨#[32, 116, 105, 108, 116, 32]⟩ : ByteArray)) ++ t141) ++ (⟨#[32, 109, 111, 115, 116, 32]⟩ : ByteArray)) ++ t142)) else (none))) else (none)) else (none))) else (none)) else (none)) = some r := H
          have A23 := am A230
          clear A230
          by_cases c24 : (((((((⟨#[110, 111, 122, 122, 108, 101, 32]⟩ : ByteArray) ++ a0_0) ++ (⟨#[32, 111, 110, 32]⟩ : ByteArray)) ++ a0_2) ++ (⟨#[32, 97, 116, 32]⟩ : ByteArray)) ++ t139) ++ (⟨#[32, 104, 101, 97, 100, 105, 110, 103, 32]⟩ : ByteArray)).size + t140.size ≤ 9223372036854775807
          ·rw [if_pos c24] at H
           have c24b0 := eq_true c24
           have c24b1 : decide ((((((((⟨#[110, 111, 122, 122, 108, 101, 32]⟩ : ByteArray) ++ a0_0) ++ (⟨#[32, 111, 110, 32]⟩ : ByteArray)) ++ a0_2) ++ (⟨#[32, 97, 116, 32]⟩ : ByteArray)) ++ t139) ++ (⟨#[32, 104, 101, 97, 100, 105, 110, 103, 32]⟩ : ByteArray)).size + t140.size ≤ 9223372036854775807) = true := decide_eq_true c24
           try have c24b2 : (9223372036854775807 < (((((((⟨#[110, 111, 122, 122, 108, 101, 32]⟩ : ByteArray) ++ a0_0) ++ (⟨#[32, 111, 110, 32]⟩ : ByteArray)) ++ a0_2) ++ (⟨#[32, 97, 116, 32]⟩ : ByteArray)) ++ t139) ++ (⟨#[32, 104, 101, 97, 100, 105, 110, 103, 32]⟩ : ByteArray)).size + t140.size) = False := eq_false (Nat.not_lt.2 c24)
           try have c24b8 : (7 + a0_0.size + 4 + a0_2.size + 4 + t139.size + 9 + t140.size ≤ 9223372036854775807) = True := by have t_ := c24b0; first | (simp only [ByteArray.size_append, Nat.zero_add, Nat.add_zero] at t_; exact t_) | (have t2_ := of_eq_true t_; simp only [ByteArray.size_append] at t2_; exact eq_true u4_0)
           try have c24b9 : (9223372036854775807 < 7 + a0_0.size + 4 + a0_2.size + 4 + t139.size + 9 + t140.size) = False := by have t_ := c24b2; first | (simp only [ByteArray.size_append] at t_; exact t_) | (have t2_ := c24b8; exact eq_false (Nat.not_lt.2 (of_eq_true t2_)))
           by_cases c25 : ((((((((⟨#[110, 111, 122, 122, 108, 101, 32]⟩ : ByteArray) ++ a0_0) ++ (⟨#[32, 111, 110, 32]⟩ : ByteArray)) ++ a0_2) ++ (⟨#[32, 97, 116, 32]⟩ : ByteArray)) ++ t139) ++ (⟨#[32, 104, 101, 97, 100, 105, 110, 103, 32]⟩ : ByteArray)) ++ t140).size + 6 ≤ 9223372036854775807
           ·rw [if_pos c25] at H
            have c25b0 := eq_true c25
            have c25b1 : decide (((((((((⟨#[110, 111, 122, 122, 108, 101, 32]⟩ : ByteArray) ++ a0_0) ++ (⟨#[32, 111, 110, 32]⟩ : ByteArray)) ++ a0_2) ++ (⟨#[32, 97, 116, 32]⟩ : ByteArray)) ++ t139) ++ (⟨#[32, 104, 101, 97, 100, 105, 110, 103, 32]⟩ : ByteArray)) ++ t140).size + 6 ≤ 9223372036854775807) = true := decide_eq_true c25
            try have c25b2 : (9223372036854775807 < ((((((((⟨#[110, 111, 122, 122, 108, 101, 32]⟩ : ByteArray) ++ a0_0) ++ (⟨#[32, 111, 110, 32]⟩ : ByteArray)) ++ a0_2) ++ (⟨#[32, 97, 116, 32]⟩ : ByteArray)) ++ t139) ++ (⟨#[32, 104, 101, 97, 100, 105, 110, 103, 32]⟩ : ByteArray)) ++ t140).size + 6) = False := eq_false (Nat.not_lt.2 c25)
            try have c25b8 : (7 + a0_0.size + 4 + a0_2.size + 4 + t139.size + 9 + t140.size + 6 ≤ 9223372036854775807) = True := by have t_ := c25b0; first | (simp only [ByteArray.size_append, Nat.zero_add, Nat.add_zero] at t_; exact t_) | (have t2_ := of_eq_true t_; simp only [ByteArray.size_append] at t2_; exact eq_true u4_0)
            try have c25b9 : (9223372036854775807 < 7 + a0_0.size + 4 + a0_2.size + 4 + t139.size + 9 + t140.size + 6) = False := by have t_ := c25b2; first | (simp only [ByteArray.size_append] at t_; exact t_) | (have t2_ := c25b8; exact eq_false (Nat.not_lt.2 (of_eq_true t2_)))
            replace H := ob H
            obtain ⟨t141, A260, H⟩ := H
            replace H : (if (((((((((⟨#[110, 111, 122, 122, 108, 101, 32]⟩ : ByteArray) ++ a0_0) ++ (⟨#[32, 111, 110, 32]⟩ : ByteArray)) ++ a0_2) ++ (⟨#[32, 97, 116, 32]⟩ : ByteArray)) ++ t139) ++ (⟨#[32, 104, 101, 97, 100, 105, 110, 103, 32]⟩ : ByteArray)) ++ t140) ++ (⟨#[32, 116, 105, 108, 116, 32]⟩ : ByteArray)).size + t141.size ≤ 9223372036854775807 then (if ((((((((((⟨#[110, 111, 122, 122, 108, 101, 32]⟩ : ByteArray) ++ a0_0) ++ (⟨#[32, 111, 110, 32]⟩ : ByteArray)) ++ a0_2) ++ (⟨#[32, 97, 116, 32]⟩ : ByteArray)) ++ t139) ++ (⟨#[32, 104, 101, 97, 100, 105, 110, 103, 32]⟩ : ByteArray)) ++ t140) ++ (⟨#[32, 116, 105, 108, 116, 32]⟩ : ByteArray)) ++ t141).size + 6 ≤ 9223372036854775807 then ((impl_FormatMeasure.f k a0_7).bind fun t142 => (if (((((((((((⟨#[110, 111, 122, 122, 108, 101, 32]⟩ : ByteArray) ++ a0_0) ++ (⟨#[32, 111, 110, 32]⟩ : ByteArray)) ++ a0_2) ++ (⟨#[32, 97, 116, 32]⟩ : ByteArray)) ++ t139) ++ (⟨#[32, 104, 101, 97, 100, 105, 110, 103, 32]⟩ : ByteArray)) ++ t140) ++ (⟨#[32, 116, 105, 108, 116, 32]⟩ : ByteArray)) ++ t141) ++ (⟨#[32, 109, 111, 115, 116, 32]⟩ : ByteArray)).size + t142.size ≤ 9223372036854775807 then (some ((((((((((((⟨#[110, 111, 122, 122, 108, 101, 32]⟩ : ByteArray) ++ a0_0) ++ (⟨#[32, 111, 110, 32]⟩ : ByteArray)) ++ a0_2) ++ (⟨#[32, 97, 116, 32]⟩ : ByteArray)) ++ t139) ++ (⟨#[32, 104, 101, 97, 100, 105, 110, 103, 32]⟩ : ByteArray)) ++ t140) ++ (⟨#[32, 116, 105, 108, 116, 32]⟩ : ByteArray)) ++ t141) ++ (⟨#[32, 109, 111, 115, 116, 32]⟩ : ByteArray)) ++ t142)) else (none))) else (none)) else (none)) = some r := H
            have A26 := am A260
            clear A260
            by_cases c27 : (((((((((⟨#[110, 111, 122, 122, 108, 101, 32]⟩ : ByteArray) ++ a0_0) ++ (⟨#[32, 111, 110, 32]⟩ : ByteArray)) ++ a0_2) ++ (⟨#[32, 97, 116, 32]⟩ : ByteArray)) ++ t139) ++ (⟨#[32, 104, 101, 97, 100, 105, 110, 103, 32]⟩ : ByteArray)) ++ t140) ++ (⟨#[32, 116, 105, 108, 116, 32]⟩ : ByteArray)).size + t141.size ≤ 9223372036854775807
            ·rw [if_pos c27] at H
             have c27b0 := eq_true c27
             have c27b1 : decide ((((((((((⟨#[110, 111, 122, 122, 108, 101, 32]⟩ : ByteArray) ++ a0_0) ++ (⟨#[32, 111, 110, 32]⟩ : ByteArray)) ++ a0_2) ++ (⟨#[32, 97, 116, 32]⟩ : ByteArray)) ++ t139) ++ (⟨#[32, 104, 101, 97, 100, 105, 110, 103, 32]⟩ : ByteArray)) ++ t140) ++ (⟨#[32, 116, 105, 108, 116, 32]⟩ : ByteArray)).size + t141.size ≤ 9223372036854775807) = true := decide_eq_true c27
             try have c27b2 : (9223372036854775807 < (((((((((⟨#[110, 111, 122, 122, 108, 101, 32]⟩ : ByteArray) ++ a0_0) ++ (⟨#[32, 111, 110, 32]⟩ : ByteArray)) ++ a0_2) ++ (⟨#[32, 97, 116, 32]⟩ : ByteArray)) ++ t139) ++ (⟨#[32, 104, 101, 97, 100, 105, 110, 103, 32]⟩ : ByteArray)) ++ t140) ++ (⟨#[32, 116, 105, 108, 116, 32]⟩ : ByteArray)).size + t141.size) = False := eq_false (Nat.not_lt.2 c27)
             try have c27b8 : (7 + a0_0.size + 4 + a0_2.size + 4 + t139.size + 9 + t140.size + 6 + t141.size ≤ 9223372036854775807) = True := by have t_ := c27b0; first | (simp only [ByteArray.size_append, Nat.zero_add, Nat.add_zero] at t_; exact t_) | (have t2_ := of_eq_true t_; simp only [ByteArray.size_append] at t2_; exact eq_true u4_0)
             try have c27b9 : (9223372036854775807 < 7 + a0_0.size + 4 + a0_2.size + 4 + t139.size + 9 + t140.size + 6 + t141.size) = False := by have t_ := c27b2; first | (simp only [ByteArray.size_append] at t_; exact t_) | (have t2_ := c27b8; exact eq_false (Nat.not_lt.2 (of_eq_true t2_)))
             by_cases c28 : ((((((((((⟨#[110, 111, 122, 122, 108, 101, 32]⟩ : ByteArray) ++ a0_0) ++ (⟨#[32, 111, 110, 32]⟩ : ByteArray)) ++ a0_2) ++ (⟨#[32, 97, 116, 32]⟩ : ByteArray)) ++ t139) ++ (⟨#[32, 104, 101, 97, 100, 105, 110, 103, 32]⟩ : ByteArray)) ++ t140) ++ (⟨#[32, 116, 105, 108, 116, 32]⟩ : ByteArray)) ++ t141).size + 6 ≤ 9223372036854775807
             ·rw [if_pos c28] at H
              have c28b0 := eq_true c28
              have c28b1 : decide (((((((((((⟨#[110, 111, 122, 122, 108, 101, 32]⟩ : ByteArray) ++ a0_0) ++ (⟨#[32, 111, 110, 32]⟩ : ByteArray)) ++ a0_2) ++ (⟨#[32, 97, 116, 32]⟩ : ByteArray)) ++ t139) ++ (⟨#[32, 104, 101, 97, 100, 105, 110, 103, 32]⟩ : ByteArray)) ++ t140) ++ (⟨#[32, 116, 105, 108, 116, 32]⟩ : ByteArray)) ++ t141).size + 6 ≤ 9223372036854775807) = true := decide_eq_true c28
              try have c28b2 : (9223372036854775807 < ((((((((((⟨#[110, 111, 122, 122, 108, 101, 32]⟩ : ByteArray) ++ a0_0) ++ (⟨#[32, 111, 110, 32]⟩ : ByteArray)) ++ a0_2) ++ (⟨#[32, 97, 116, 32]⟩ : ByteArray)) ++ t139) ++ (⟨#[32, 104, 101, 97, 100, 105, 110, 103, 32]⟩ : ByteArray)) ++ t140) ++ (⟨#[32, 116, 105, 108, 116, 32]⟩ : ByteArray)) ++ t141).size + 6) = False := eq_false (Nat.not_lt.2 c28)
              try have c28b8 : (7 + a0_0.size + 4 + a0_2.size + 4 + t139.size + 9 + t140.size + 6 + t141.size + 6 ≤ 9223372036854775807) = True := by have t_ := c28b0; first | (simp only [ByteArray.size_append, Nat.zero_add, Nat.add_zero] at t_; exact t_) | (have t2_ := of_eq_true t_; simp only [ByteArray.size_append] at t2_; exact eq_true u4_0)
              try have c28b9 : (9223372036854775807 < 7 + a0_0.size + 4 + a0_2.size + 4 + t139.size + 9 + t140.size + 6 + t141.size + 6) = False := by have t_ := c28b2; first | (simp only [ByteArray.size_append] at t_; exact t_) | (have t2_ := c28b8; exact eq_false (Nat.not_lt.2 (of_eq_true t2_)))
              replace H := ob H
              obtain ⟨t142, A290, H⟩ := H
              replace H : (if (((((((((((⟨#[110, 111, 122, 122, 108, 101, 32]⟩ : ByteArray) ++ a0_0) ++ (⟨#[32, 111, 110, 32]⟩ : ByteArray)) ++ a0_2) ++ (⟨#[32, 97, 116, 32]⟩ : ByteArray)) ++ t139) ++ (⟨#[32, 104, 101, 97, 100, 105, 110, 103, 32]⟩ : ByteArray)) ++ t140) ++ (⟨#[32, 116, 105, 108, 116, 32]⟩ : ByteArray)) ++ t141) ++ (⟨#[32, 109, 111, 115, 116, 32]⟩ : ByteArray)).size + t142.size ≤ 9223372036854775807 then (some ((((((((((((⟨#[110, 111, 122, 122, 108, 101, 32]⟩ : ByteArray) ++ a0_0) ++ (⟨#[32, 111, 110, 32]⟩ : ByteArray)) ++ a0_2) ++ (⟨#[32, 97, 116, 32]⟩ : ByteArray)) ++ t139) ++ (⟨#[32, 104, 101, 97, 100, 105, 110, 103, 32]⟩ : ByteArray)) ++ t140) ++ (⟨#[32, 116, 105, 108, 116, 32]⟩ : ByteArray)) ++ t141) ++ (⟨#[32, 109, 111, 115, 116, 32]⟩ : ByteArray)) ++ t142)) else (none)) = some r := H
              have A29 := am A290
              clear A290
              by_cases c30 : (((((((((((⟨#[110, 111, 122, 122, 108, 101, 32]⟩ : ByteArray) ++ a0_0) ++ (⟨#[32, 111, 110, 32]⟩ : ByteArray)) ++ a0_2) ++ (⟨#[32, 97, 116, 32]⟩ : ByteArray)) ++ t139) ++ (⟨#[32, 104, 101, 97, 100, 105, 110, 103, 32]⟩ : ByteArray)) ++ t140) ++ (⟨#[32, 116, 105, 108, 116, 32]⟩ : ByteArray)) ++ t141) ++ (⟨#[32, 109, 111, 115, 116, 32]⟩ : ByteArray)).size + t142.size ≤ 9223372036854775807
              ·rw [if_pos c30] at H
               have c30b0 := eq_true c30
               have c30b1 : decide ((((((((((((⟨#[110, 111, 122, 122, 108, 101, 32]⟩ : ByteArray) ++ a0_0) ++ (⟨#[32, 111, 110, 32]⟩ : ByteArray)) ++ a0_2) ++ (⟨#[32, 97, 116, 32]⟩ : ByteArray)) ++ t139) ++ (⟨#[32, 104, 101, 97, 100, 105, 110, 103, 32]⟩ : ByteArray)) ++ t140) ++ (⟨#[32, 116, 105, 108, 116, 32]⟩ : ByteArray)) ++ t141) ++ (⟨#[32, 109, 111, 115, 116, 32]⟩ : ByteArray)).size + t142.size ≤ 9223372036854775807) = true := decide_eq_true c30
               try have c30b2 : (9223372036854775807 < (((((((((((⟨#[110, 111, 122, 122, 108, 101, 32]⟩ : ByteArray) ++ a0_0) ++ (⟨#[32, 111, 110, 32]⟩ : ByteArray)) ++ a0_2) ++ (⟨#[32, 97, 116, 32]⟩ : ByteArray)) ++ t139) ++ (⟨#[32, 104, 101, 97, 100, 105, 110, 103, 32]⟩ : ByteArray)) ++ t140) ++ (⟨#[32, 116, 105, 108, 116, 32]⟩ : ByteArray)) ++ t141) ++ (⟨#[32, 109, 111, 115, 116, 32]⟩ : ByteArray)).size + t142.size) = False := eq_false (Nat.not_lt.2 c30)
               try have c30b8 : (7 + a0_0.size + 4 + a0_2.size + 4 + t139.size + 9 + t140.size + 6 + t141.size + 6 + t142.size ≤ 9223372036854775807) = True := by have t_ := c30b0; first | (simp only [ByteArray.size_append, Nat.zero_add, Nat.add_zero] at t_; exact t_) | (have t2_ := of_eq_true t_; simp only [ByteArray.size_append] at t2_; exact eq_true u4_0)
               try have c30b9 : (9223372036854775807 < 7 + a0_0.size + 4 + a0_2.size + 4 + t139.size + 9 + t140.size + 6 + t141.size + 6 + t142.size) = False := by have t_ := c30b2; first | (simp only [ByteArray.size_append] at t_; exact t_) | (have t2_ := c30b8; exact eq_false (Nat.not_lt.2 (of_eq_true t2_)))
               obtain rfl := oi H
               go_enter Tryd.func20, Tryd.ntmps20
               try go_wp2_with (first | ((with_reducible refine gate_dst (N := 1) rfl ?_); refine box_event ?hg (N := 1) ?hd (cs := #[.string a0_0, .int .i64 a0_1, .string a0_2, .int .i64 a0_3, .int .i64 a0_4, .int .i64 a0_5, .int .i64 a0_6, .int .i64 a0_7]) (t := 38) ?hr ?_; (case hd => rfl); (case hg => rfl); (case hr => exact gq); intro gb136 hg w31 hbox hb; have n0_ := am (below_step u4_1 hb); have n1_ := am (hbox); have n2_ := bsw w hg (below_size u4_1); have n3_ := bsw w hg (below_size u4_1); clear HB; have HB := n0_; have BK136 := n1_; have GW136 := n2_; have GE136 := n3_; clear n0_ n1_ n2_ n3_ hb hbox hg; obtain ⟨hcz32_0, hcz32_1, hcz32_2, hcz32_3, hcz32_4, hcz32_5, hcz32_6, hcz32_7, hfz32_0, hfz32_1, hfz32_2, hfz32_3, hfz32_4, hfz32_5, hfz32_6, hfz32_7⟩ := cf8 BK136.out) | ((with_reducible refine gate_callee (f := 21) rfl ?_); refine goesL_ (some 4) rfl rfl Tryd.func21 (by kernel_rfl) rfl #[.agg #[.string a0_0, .int .i64 a0_1, .string a0_2, .int .i64 a0_3, .int .i64 a0_4, .int .i64 a0_5, .int .i64 a0_6, .int .i64 a0_7]] rfl u4_4 ?_; (with_reducible refine (impl_IsDevice.calls k a0_0 a0_1 a0_2 a0_3 a0_4 a0_5 a0_6 a0_7 true _ A2.out).mono ?_); rintro e w33 ⟨rfl, hb⟩; refine ⟨_, rfl, ?_⟩; have n0_ := am (blk_below (g := gb136) (o := zo0 a0_0 a0_1 a0_2 a0_3 a0_4 a0_5 a0_6 a0_7) u4_3 hb); have n1_ := am (below_step u4_2 hb); clear BK136 HB; have BK136 := n0_; have HB := n1_; clear n0_ n1_; (try clear hb); (try clear hb2); (try clear hk); (try clear hi); obtain ⟨hcz34_0, hcz34_1, hcz34_2, hcz34_3, hcz34_4, hcz34_5, hcz34_6, hcz34_7, hfz34_0, hfz34_1, hfz34_2, hfz34_3, hfz34_4, hfz34_5, hfz34_6, hfz34_7⟩ := cf8 BK136.out))
               have n0_ := am (blk_drew BK136.out)
               have n1_ := am (below_drew1 HB.out)
               clear BK136 HB
               have BK136 := n0_
               have HB := n1_
               clear n0_ n1_
               refine start_ (n := 28) (S := fun w' => zc3 w' gb136 a0_0 a0_1 a0_2 a0_3 a0_4 a0_5 a0_6 a0_7) (ds := []) #[false, false, false, false, false, false, false, false, false, false, false, false, false, false, false, false, false, false, false, false, false, false, false, false, false, false, false, false] (by kernel_rfl) rfl rfl ⟨(blk_cell BK136.out 0).trans rfl, (blk_cell BK136.out 1).trans rfl, (blk_cell BK136.out 2).trans rfl, (blk_cell BK136.out 3).trans rfl, (blk_cell BK136.out 4).trans rfl, (blk_cell BK136.out 5).trans rfl, (blk_cell BK136.out 6).trans rfl, (blk_cell BK136.out 7).trans rfl⟩ (fun hHeld => ?_); refine with_tabW impl_FormatDevice.tab7 impl_FormatDevice.bits7 (fun HT_ HW_ => ?_)
               generalize w33.drew = w35 at BK136 HB hHeld ⊢
               refine pz 0 20 #[true, false, false, false, false, false, false, false, false, false, false, false, false, false, false, false, false, false, false, false, false, false, false, false, false, false, false, false] (any_of HT_.out (by kernel_rfl)) ?_
               refine pz 4 24 #[true, false, false, false, true, false, false, false, false, false, false, false, false, false, false, false, false, false, false, false, false, false, false, false, false, false, false, false] (any_of HT_.out (by kernel_rfl)) ?_
               refine pz 8 28 #[true, false, false, false, true, false, false, false, true, false, false, false, false, false, false, false, false, false, false, false, false, false, false, false, false, false, false, false] (any_of HT_.out (by kernel_rfl)) ?_
               refine pz 13 33 #[true, false, false, false, true, false, false, false, true, false, false, false, false, true, false, false, false, false, false, false, false, false, false, false, false, false, false, false] (any_of HT_.out (by kernel_rfl)) ?_
               refine pz 18 38 #[true, false, false, false, true, false, false, false, true, false, false, false, false, true, false, false, false, false, true, false, false, false, false, false, false, false, false, false] (any_of HT_.out (by kernel_rfl)) ?_
               refine pz 23 43 #[true, false, false, false, true, false, false, false, true, false, false, false, false, true, false, false, false, false, true, false, false, false, false, true, false, false, false, false] (any_of HT_.out (by kernel_rfl)) ?_
               refine take_ (i := 1) (N := some 21) (v := ?_) (a' := ?_) #[true, true, false, false, true, false, false, false, true, false, false, false, false, true, false, false, false, false, true, false, false, false, false, true, false, false, false, false] rfl rfl (take_ofW HT_.out HW_.out (by kernel_rfl)) (fun _ _ _ h => h) (Or.inl ⟨by rfl, ?_⟩) hHeld ?_ ?_
               rotate_left
               ·rintro w' ⟨s0, s1, s2, s3, s4, s5, s6, s7⟩
                exact gs
               rotate_left
               ·exact ap
               refine pz 2 22 #[true, true, true, false, true, false, false, false, true, false, false, false, false, true, false, false, false, false, true, false, false, false, false, true, false, false, false, false] (any_of HT_.out (by kernel_rfl)) ?_
               refine pz 3 23 #[true, true, true, true, true, false, false, false, true, false, false, false, false, true, false, false, false, false, true, false, false, false, false, true, false, false, false, false] (any_of HT_.out (by kernel_rfl)) ?_
               refine take_ (i := 5) (N := some 25) (v := ?_) (a' := ?_) #[true, true, true, true, true, true, false, false, true, false, false, false, false, true, false, false, false, false, true, false, false, false, false, true, false, false, false, false] rfl rfl (take_ofW HT_.out HW_.out (by kernel_rfl)) (fun _ _ _ h => h) (Or.inl ⟨by rfl, ?_⟩) hHeld ?_ ?_
               rotate_left
               ·rintro w' ⟨s0, s1, s2, s3, s4, s5, s6, s7⟩
                exact gs
               rotate_left
               ·exact ap
               refine pz 6 26 #[true, true, true, true, true, true, true, false, true, false, false, false, false, true, false, false, false, false, true, false, false, false, false, true, false, false, false, false] (any_of HT_.out (by kernel_rfl)) ?_
               refine pz 7 27 #[true, true, true, true, true, true, true, true, true, false, false, false, false, true, false, false, false, false, true, false, false, false, false, true, false, false, false, false] (any_of HT_.out (by kernel_rfl)) ?_
               refine take_ (i := 9) (N := some 29) (v := ?_) (a' := ?_) #[true, true, true, true, true, true, true, true, true, true, false, false, false, true, false, false, false, false, true, false, false, false, false, true, false, false, false, false] rfl rfl (take_ofW HT_.out HW_.out (by kernel_rfl)) (fun _ _ _ h => h) (Or.inl ⟨by rfl, ?_⟩) hHeld ?_ ?_
               rotate_left
               ·rintro w' ⟨s0, s1, s2, s3, s4, s5, s6, s7⟩
                exact gs
               rotate_left
               ·exact ap
               refine take_ (i := 14) (N := some 34) (v := ?_) (a' := ?_) #[true, true, true, true, true, true, true, true, true, true, false, false, false, true, true, false, false, false, true, false, false, false, false, true, false, false, false, false] rfl rfl (take_ofW HT_.out HW_.out (by kernel_rfl)) (fun _ _ _ h => h) (Or.inl ⟨by rfl, ?_⟩) hHeld ?_ ?_
               rotate_left
               ·rintro w' ⟨s0, s1, s2, s3, s4, s5, s6, s7⟩
                exact gs
               rotate_left
               ·exact ap
               refine take_ (i := 19) (N := some 39) (v := ?_) (a' := ?_) #[true, true, true, true, true, true, true, true, true, true, false, false, false, true, true, false, false, false, true, true, false, false, false, true, false, false, false, false] rfl rfl (take_ofW HT_.out HW_.out (by kernel_rfl)) (fun _ _ _ h => h) (Or.inl ⟨by rfl, ?_⟩) hHeld ?_ ?_
               rotate_left
               ·rintro w' ⟨s0, s1, s2, s3, s4, s5, s6, s7⟩
                exact gs
               rotate_left
               ·exact ap
               refine take_ (i := 24) (N := some 44) (v := ?_) (a' := ?_) #[true, true, true, true, true, true, true, true, true, true, false, false, false, true, true, false, false, false, true, true, false, false, false, true, true, false, false, false] rfl rfl (take_ofW HT_.out HW_.out (by kernel_rfl)) (fun _ _ _ h => h) (Or.inl ⟨by rfl, ?_⟩) hHeld ?_ ?_
               rotate_left
               ·rintro w' ⟨s0, s1, s2, s3, s4, s5, s6, s7⟩
                exact gs
               rotate_left
               ·exact ap
               refine one_ (i := 10) (N := some 30) #[true, true, true, true, true, true, true, true, true, true, true, false, false, true, true, false, false, false, true, true, false, false, false, true, true, false, false, false] rfl rfl (one_of HT_.out (by kernel_rfl)) (by decide) (fun K hK => ?_)
               refine goes_ Tryd.func54 (by kernel_rfl) rfl #[.agg #[.int .i64 a0_3, .int .i64 a0_4]] (by rfl) rfl rfl u4_4 ?_
               with_reducible refine (impl_FormatPlace.calls k a0_3 a0_4 t139 _ A20.out).mono ?_
               rintro e w36 ⟨rfl, hb⟩
               refine ⟨_, rfl, ?_⟩
               have n0_ := am (blk_below (g := gb136) (o := zo0 a0_0 a0_1 a0_2 a0_3 a0_4 a0_5 a0_6 a0_7) u4_3 hb)
               have n1_ := am (below_step u4_2 hb)
               clear BK136 HB
               have BK136 := n0_
               have HB := n1_
               clear n0_ n1_
               (try clear hb)
               (try clear hb2)
               (try clear hk)
               (try clear hi)
               refine hK.out _ _ ⟨(blk_cell BK136.out 0).trans rfl, (blk_cell BK136.out 1).trans rfl, (blk_cell BK136.out 2).trans rfl, (blk_cell BK136.out 3).trans rfl, (blk_cell BK136.out 4).trans rfl, (blk_cell BK136.out 5).trans rfl, (blk_cell BK136.out 6).trans rfl, (blk_cell BK136.out 7).trans rfl⟩ (fun hHeld => ?_)
               clear hK K
               refine norm_ (a' := ?_) ?_ ?_
               rotate_left
               ·show Act.put _ (some 30) _ = _
                simp only [Act.put, List.setIfInBounds_toArray, List.set_cons_zero, List.set_cons_succ, i64_w, i32_w]
                rfl
               refine pz 11 31 #[true, true, true, true, true, true, true, true, true, true, true, true, false, true, true, false, false, false, true, true, false, false, false, true, true, false, false, false] (any_of HT_.out (by kernel_rfl)) ?_
               refine pz 12 32 #[true, true, true, true, true, true, true, true, true, true, true, true, true, true, true, false, false, false, true, true, false, false, false, true, true, false, false, false] (any_of HT_.out (by kernel_rfl)) ?_
               refine one_ (i := 15) (N := some 35) #[true, true, true, true, true, true, true, true, true, true, true, true, true, true, true, true, false, false, true, true, false, false, false, true, true, false, false, false] rfl rfl (one_of HT_.out (by kernel_rfl)) (by decide) (fun K hK => ?_)
               refine goes_ Tryd.func39 (by kernel_rfl) rfl #[.int .i64 a0_5] (by rfl) rfl rfl u4_4 ?_
               with_reducible refine (impl_FormatNumber.calls a0_5 t140 _ A23.out).mono ?_
               rintro e w37 ⟨rfl, hb⟩
               refine ⟨_, rfl, ?_⟩
               have n0_ := am (blk_below (g := gb136) (o := zo0 a0_0 a0_1 a0_2 a0_3 a0_4 a0_5 a0_6 a0_7) u4_3 hb)
               have n1_ := am (below_step u4_2 hb)
               clear BK136 HB
               have BK136 := n0_
               have HB := n1_
               clear n0_ n1_
               (try clear hb)
               (try clear hb2)
               (try clear hk)
               (try clear hi)
               refine hK.out _ _ ⟨(blk_cell BK136.out 0).trans rfl, (blk_cell BK136.out 1).trans rfl, (blk_cell BK136.out 2).trans rfl, (blk_cell BK136.out 3).trans rfl, (blk_cell BK136.out 4).trans rfl, (blk_cell BK136.out 5).trans rfl, (blk_cell BK136.out 6).trans rfl, (blk_cell BK136.out 7).trans rfl⟩ (fun hHeld => ?_)
               clear hK K
               refine norm_ (a' := ?_) ?_ ?_
               rotate_left
               ·show Act.put _ (some 35) _ = _
                simp only [Act.put, List.setIfInBounds_toArray, List.set_cons_zero, List.set_cons_succ, i64_w, i32_w]
                rfl
               refine pz 16 36 #[true, true, true, true, true, true, true, true, true, true, true, true, true, true, true, true, true, false, true, true, false, false, false, true, true, false, false, false] (any_of HT_.out (by kernel_rfl)) ?_
               refine pz 17 37 #[true, true, true, true, true, true, true, true, true, true, true, true, true, true, true, true, true, true, true, true, false, false, false, true, true, false, false, false] (any_of HT_.out (by kernel_rfl)) ?_
               refine one_ (i := 20) (N := some 40) #[true, true, true, true, true, true, true, true, true, true, true, true, true, true, true, true, true, true, true, true, true, false, false, true, true, false, false, false] rfl rfl (one_of HT_.out (by kernel_rfl)) (by decide) (fun K hK => ?_)
               refine goes_ Tryd.func40 (by kernel_rfl) rfl #[.int .i64 a0_6] (by rfl) rfl rfl u4_4 ?_
               with_reducible refine (impl_FormatMeasure.calls k a0_6 t141 _ A26.out).mono ?_
               rintro e w38 ⟨rfl, hb⟩
               refine ⟨_, rfl, ?_⟩
               have n0_ := am (blk_below (g := gb136) (o := zo0 a0_0 a0_1 a0_2 a0_3 a0_4 a0_5 a0_6 a0_7) u4_3 hb)
               have n1_ := am (below_step u4_2 hb)
               clear BK136 HB
               have BK136 := n0_
               have HB := n1_
               clear n0_ n1_
               (try clear hb)
               (try clear hb2)
               (try clear hk)
               (try clear hi)
               refine hK.out _ _ ⟨(blk_cell BK136.out 0).trans rfl, (blk_cell BK136.out 1).trans rfl, (blk_cell BK136.out 2).trans rfl, (blk_cell BK136.out 3).trans rfl, (blk_cell BK136.out 4).trans rfl, (blk_cell BK136.out 5).trans rfl, (blk_cell BK136.out 6).trans rfl, (blk_cell BK136.out 7).trans rfl⟩ (fun hHeld => ?_)
               clear hK K
               refine norm_ (a' := ?_) ?_ ?_
               rotate_left
               ·show Act.put _ (some 40) _ = _
                simp only [Act.put, List.setIfInBounds_toArray, List.set_cons_zero, List.set_cons_succ, i64_w, i32_w]
                rfl
               refine pz 21 41 #[true, true, true, true, true, true, true, true, true, true, true, true, true, true, true, true, true, true, true, true, true, true, false, true, true, false, false, false] (any_of HT_.out (by kernel_rfl)) ?_
               refine pz 22 42 #[true, true, true, true, true, true, true, true, true, true, true, true, true, true, true, true, true, true, true, true, true, true, true, true, true, false, false, false] (any_of HT_.out (by kernel_rfl)) ?_
               refine one_ (i := 25) (N := some 45) #[true, true, true, true, true, true, true, true, true, true, true, true, true, true, true, true, true, true, true, true, true, true, true, true, true, true, false, false] rfl rfl (one_of HT_.out (by kernel_rfl)) (by decide) (fun K hK => ?_)
               refine goes_ Tryd.func40 (by kernel_rfl) rfl #[.int .i64 a0_7] (by rfl) rfl rfl u4_4 ?_
               with_reducible refine (impl_FormatMeasure.calls k a0_7 t142 _ A29.out).mono ?_
               rintro e w39 ⟨rfl, hb⟩
               refine ⟨_, rfl, ?_⟩
               have n0_ := am (blk_below (g := gb136) (o := zo0 a0_0 a0_1 a0_2 a0_3 a0_4 a0_5 a0_6 a0_7) u4_3 hb)
               have n1_ := am (below_step u4_2 hb)
               clear BK136 HB
               have BK136 := n0_
               have HB := n1_
               clear n0_ n1_
               (try clear hb)
               (try clear hb2)
               (try clear hk)
               (try clear hi)
               refine hK.out _ _ ⟨(blk_cell BK136.out 0).trans rfl, (blk_cell BK136.out 1).trans rfl, (blk_cell BK136.out 2).trans rfl, (blk_cell BK136.out 3).trans rfl, (blk_cell BK136.out 4).trans rfl, (blk_cell BK136.out 5).trans rfl, (blk_cell BK136.out 6).trans rfl, (blk_cell BK136.out 7).trans rfl⟩ (fun hHeld => ?_)
               clear hK K
               refine norm_ (a' := ?_) ?_ ?_
               rotate_left
               ·show Act.put _ (some 45) _ = _
                simp only [Act.put, List.setIfInBounds_toArray, List.set_cons_zero, List.set_cons_succ, i64_w, i32_w]
                rfl
               refine pz 26 46 #[true, true, true, true, true, true, true, true, true, true, true, true, true, true, true, true, true, true, true, true, true, true, true, true, true, true, true, false] (any_of HT_.out (by kernel_rfl)) ?_
               refine pz 27 2 #[true, true, true, true, true, true, true, true, true, true, true, true, true, true, true, true, true, true, true, true, true, true, true, true, true, true, true, true] (any_of HT_.out (by kernel_rfl)) ?_
               refine done_ (done_of HT_.out (by kernel_rfl)) ?_
               try go_wp2
               go_ret
               exact ⟨by first | rfl | (simp [*] <;> rfl), s4_0⟩
              ·rw [if_neg c30] at H
               exact absurd H (by simp)
             ·rw [if_neg c28] at H
              exact absurd H (by simp)
            ·rw [if_neg c27] at H
             exact absurd H (by simp)
           ·rw [if_neg c25] at H
            exact absurd H (by simp)
          ·rw [if_neg c24] at H
           exact absurd H (by simp)
         ·rw [if_neg c22] at H
          exact absurd H (by simp)
        ·rw [if_neg c21] at H
         exact absurd H (by simp)
       ·rw [if_neg c19] at H
        exact absurd H (by simp)
      ·rw [if_neg c18] at H
       exact absurd H (by simp)
     ·rw [if_neg c17] at H
      exact absurd H (by simp)
    ·rw [if_neg c16] at H
     exact absurd H (by simp)
   ·rw [if_neg c15] at H
    have c15b0 : (a0_1 == 2) = false := beq_eq_false_iff_ne.mpr c15
    have c15b1 : (a0_1 != 2) = true := bne_iff_ne.mpr c15
    by_cases c40 : 5 + a0_0.size ≤ 9223372036854775807
    ·rw [if_pos c40] at H
     have c40b0 := eq_true c40
     have c40b1 : decide (5 + a0_0.size ≤ 9223372036854775807) = true := decide_eq_true c40
     try have c40b2 : (9223372036854775807 < 5 + a0_0.size) = False := eq_false (Nat.not_lt.2 c40)
     by_cases c41 : ((⟨#[108, 97, 109, 112, 32]⟩ : ByteArray) ++ a0_0).size + 4 ≤ 9223372036854775807
     ·rw [if_pos c41] at H
      have c41b0 := eq_true c41
      have c41b1 : decide (((⟨#[108, 97, 109, 112, 32]⟩ : ByteArray) ++ a0_0).size + 4 ≤ 9223372036854775807) = true := decide_eq_true c41
      try have c41b2 : (9223372036854775807 < ((⟨#[108, 97, 109, 112, 32]⟩ : ByteArray) ++ a0_0).size + 4) = False := eq_false (Nat.not_lt.2 c41)
      try have c41b8 : (5 + a0_0.size + 4 ≤ 9223372036854775807) = True := by have t_ := c41b0; first | (simp only [ByteArray.size_append, Nat.zero_add, Nat.add_zero] at t_; exact t_) | (have t2_ := of_eq_true t_; simp only [ByteArray.size_append] at t2_; exact eq_true u4_0)
      try have c41b9 : (9223372036854775807 < 5 + a0_0.size + 4) = False := by have t_ := c41b2; first | (simp only [ByteArray.size_append] at t_; exact t_) | (have t2_ := c41b8; exact eq_false (Nat.not_lt.2 (of_eq_true t2_)))
      by_cases c42 : (((⟨#[108, 97, 109, 112, 32]⟩ : ByteArray) ++ a0_0) ++ (⟨#[32, 111, 110, 32]⟩ : ByteArray)).size + a0_2.size ≤ 9223372036854775807
      ·rw [if_pos c42] at H
       have c42b0 := eq_true c42
       have c42b1 : decide ((((⟨#[108, 97, 109, 112, 32]⟩ : ByteArray) ++ a0_0) ++ (⟨#[32, 111, 110, 32]⟩ : ByteArray)).size + a0_2.size ≤ 9223372036854775807) = true := decide_eq_true c42
       try have c42b2 : (9223372036854775807 < (((⟨#[108, 97, 109, 112, 32]⟩ : ByteArray) ++ a0_0) ++ (⟨#[32, 111, 110, 32]⟩ : ByteArray)).size + a0_2.size) = False := eq_false (Nat.not_lt.2 c42)
       try have c42b8 : (5 + a0_0.size + 4 + a0_2.size ≤ 9223372036854775807) = True := by have t_ := c42b0; first | (simp only [ByteArray.size_append, Nat.zero_add, Nat.add_zero] at t_; exact t_) | (have t2_ := of_eq_true t_; simp only [ByteArray.size_append] at t2_; exact eq_true u4_0)
       try have c42b9 : (9223372036854775807 < 5 + a0_0.size + 4 + a0_2.size) = False := by have t_ := c42b2; first | (simp only [ByteArray.size_append] at t_; exact t_) | (have t2_ := c42b8; exact eq_false (Nat.not_lt.2 (of_eq_true t2_)))
       by_cases c43 : ((((⟨#[108, 97, 109, 112, 32]⟩ : ByteArray) ++ a0_0) ++ (⟨#[32, 111, 110, 32]⟩ : ByteArray)) ++ a0_2).size + 4 ≤ 9223372036854775807
       ·rw [if_pos c43] at H
        have c43b0 := eq_true c43
        have c43b1 : decide (((((⟨#[108, 97, 109, 112, 32]⟩ : ByteArray) ++ a0_0) ++ (⟨#[32, 111, 110, 32]⟩ : ByteArray)) ++ a0_2).size + 4 ≤ 9223372036854775807) = true := decide_eq_true c43
        try have c43b2 : (9223372036854775807 < ((((⟨#[108, 97, 109, 112, 32]⟩ : ByteArray) ++ a0_0) ++ (⟨#[32, 111, 110, 32]⟩ : ByteArray)) ++ a0_2).size + 4) = False := eq_false (Nat.not_lt.2 c43)
        try have c43b8 : (5 + a0_0.size + 4 + a0_2.size + 4 ≤ 9223372036854775807) = True := by have t_ := c43b0; first | (simp only [ByteArray.size_append, Nat.zero_add, Nat.add_zero] at t_; exact t_) | (have t2_ := of_eq_true t_; simp only [ByteArray.size_append] at t2_; exact eq_true u4_0)
        try have c43b9 : (9223372036854775807 < 5 + a0_0.size + 4 + a0_2.size + 4) = False := by have t_ := c43b2; first | (simp only [ByteArray.size_append] at t_; exact t_) | (have t2_ := c43b8; exact eq_false (Nat.not_lt.2 (of_eq_true t2_)))
        replace H := ob H
        obtain ⟨t143, A440, H⟩ := H
        replace H : (if (((((⟨#[108, 97, 109, 112, 32]⟩ : ByteArray) ++ a0_0) ++ (⟨#[32, 111, 110, 32]⟩ : ByteArray)) ++ a0_2) ++ (⟨#[32, 97, 116, 32]⟩ : ByteArray)).size + t143.size ≤ 9223372036854775807 then (some ((((((⟨#[108, 97, 109, 112, 32]⟩ : ByteArray) ++ a0_0) ++ (⟨#[32, 111, 110, 32]⟩ : ByteArray)) ++ a0_2) ++ (⟨#[32, 97, 116, 32]⟩ : ByteArray)) ++ t143)) else (none)) = some r := H
        have A44 := am A440
        clear A440
        by_cases c45 : (((((⟨#[108, 97, 109, 112, 32]⟩ : ByteArray) ++ a0_0) ++ (⟨#[32, 111, 110, 32]⟩ : ByteArray)) ++ a0_2) ++ (⟨#[32, 97, 116, 32]⟩ : ByteArray)).size + t143.size ≤ 9223372036854775807
        ·rw [if_pos c45] at H
         have c45b0 := eq_true c45
         have c45b1 : decide ((((((⟨#[108, 97, 109, 112, 32]⟩ : ByteArray) ++ a0_0) ++ (⟨#[32, 111, 110, 32]⟩ : ByteArray)) ++ a0_2) ++ (⟨#[32, 97, 116, 32]⟩ : ByteArray)).size + t143.size ≤ 9223372036854775807) = true := decide_eq_true c45
         try have c45b2 : (9223372036854775807 < (((((⟨#[108, 97, 109, 112, 32]⟩ : ByteArray) ++ a0_0) ++ (⟨#[32, 111, 110, 32]⟩ : ByteArray)) ++ a0_2) ++ (⟨#[32, 97, 116, 32]⟩ : ByteArray)).size + t143.size) = False := eq_false (Nat.not_lt.2 c45)
         try have c45b8 : (5 + a0_0.size + 4 + a0_2.size + 4 + t143.size ≤ 9223372036854775807) = True := by have t_ := c45b0; first | (simp only [ByteArray.size_append, Nat.zero_add, Nat.add_zero] at t_; exact t_) | (have t2_ := of_eq_true t_; simp only [ByteArray.size_append] at t2_; exact eq_true u4_0)
         try have c45b9 : (9223372036854775807 < 5 + a0_0.size + 4 + a0_2.size + 4 + t143.size) = False := by have t_ := c45b2; first | (simp only [ByteArray.size_append] at t_; exact t_) | (have t2_ := c45b8; exact eq_false (Nat.not_lt.2 (of_eq_true t2_)))
         obtain rfl := oi H
         go_enter Tryd.func20, Tryd.ntmps20
         try go_wp2_with (first | ((with_reducible refine gate_dst (N := 1) rfl ?_); refine box_event ?hg (N := 1) ?hd (cs := #[.string a0_0, .int .i64 a0_1, .string a0_2, .int .i64 a0_3, .int .i64 a0_4, .int .i64 a0_5, .int .i64 a0_6, .int .i64 a0_7]) (t := 38) ?hr ?_; (case hd => rfl); (case hg => rfl); (case hr => exact gq); intro gb136 hg w46 hbox hb; have n0_ := am (below_step u4_1 hb); have n1_ := am (hbox); have n2_ := bsw w hg (below_size u4_1); have n3_ := bsw w hg (below_size u4_1); clear HB; have HB := n0_; have BK136 := n1_; have GW136 := n2_; have GE136 := n3_; clear n0_ n1_ n2_ n3_ hb hbox hg; obtain ⟨hcz47_0, hcz47_1, hcz47_2, hcz47_3, hcz47_4, hcz47_5, hcz47_6, hcz47_7, hfz47_0, hfz47_1, hfz47_2, hfz47_3, hfz47_4, hfz47_5, hfz47_6, hfz47_7⟩ := cf8 BK136.out) | ((with_reducible refine gate_callee (f := 21) rfl ?_); refine goesL_ (some 4) rfl rfl Tryd.func21 (by kernel_rfl) rfl #[.agg #[.string a0_0, .int .i64 a0_1, .string a0_2, .int .i64 a0_3, .int .i64 a0_4, .int .i64 a0_5, .int .i64 a0_6, .int .i64 a0_7]] rfl u4_4 ?_; (with_reducible refine (impl_IsDevice.calls k a0_0 a0_1 a0_2 a0_3 a0_4 a0_5 a0_6 a0_7 true _ A2.out).mono ?_); rintro e w48 ⟨rfl, hb⟩; refine ⟨_, rfl, ?_⟩; have n0_ := am (blk_below (g := gb136) (o := zo0 a0_0 a0_1 a0_2 a0_3 a0_4 a0_5 a0_6 a0_7) u4_3 hb); have n1_ := am (below_step u4_2 hb); clear BK136 HB; have BK136 := n0_; have HB := n1_; clear n0_ n1_; (try clear hb); (try clear hb2); (try clear hk); (try clear hi); obtain ⟨hcz49_0, hcz49_1, hcz49_2, hcz49_3, hcz49_4, hcz49_5, hcz49_6, hcz49_7, hfz49_0, hfz49_1, hfz49_2, hfz49_3, hfz49_4, hfz49_5, hfz49_6, hfz49_7⟩ := cf8 BK136.out))
         have n0_ := am (blk_drew BK136.out)
         have n1_ := am (below_drew1 HB.out)
         clear BK136 HB
         have BK136 := n0_
         have HB := n1_
         clear n0_ n1_
         refine start_ (n := 13) (S := fun w' => zc3 w' gb136 a0_0 a0_1 a0_2 a0_3 a0_4 a0_5 a0_6 a0_7) (ds := []) #[false, false, false, false, false, false, false, false, false, false, false, false, false] (by kernel_rfl) rfl rfl ⟨(blk_cell BK136.out 0).trans rfl, (blk_cell BK136.out 1).trans rfl, (blk_cell BK136.out 2).trans rfl, (blk_cell BK136.out 3).trans rfl, (blk_cell BK136.out 4).trans rfl, (blk_cell BK136.out 5).trans rfl, (blk_cell BK136.out 6).trans rfl, (blk_cell BK136.out 7).trans rfl⟩ (fun hHeld => ?_); refine with_tabW impl_FormatDevice.tab8 impl_FormatDevice.bits8 (fun HT_ HW_ => ?_)
         generalize w48.drew = w50 at BK136 HB hHeld ⊢
         refine pz 0 47 #[true, false, false, false, false, false, false, false, false, false, false, false, false] (any_of HT_.out (by kernel_rfl)) ?_
         refine pz 4 51 #[true, false, false, false, true, false, false, false, false, false, false, false, false] (any_of HT_.out (by kernel_rfl)) ?_
         refine pz 8 55 #[true, false, false, false, true, false, false, false, true, false, false, false, false] (any_of HT_.out (by kernel_rfl)) ?_
         refine take_ (i := 1) (N := some 48) (v := ?_) (a' := ?_) #[true, true, false, false, true, false, false, false, true, false, false, false, false] rfl rfl (take_ofW HT_.out HW_.out (by kernel_rfl)) (fun _ _ _ h => h) (Or.inl ⟨by rfl, ?_⟩) hHeld ?_ ?_
         rotate_left
         ·rintro w' ⟨s0, s1, s2, s3, s4, s5, s6, s7⟩
          exact gs
         rotate_left
         ·exact ap
         refine pz 2 49 #[true, true, true, false, true, false, false, false, true, false, false, false, false] (any_of HT_.out (by kernel_rfl)) ?_
         refine pz 3 50 #[true, true, true, true, true, false, false, false, true, false, false, false, false] (any_of HT_.out (by kernel_rfl)) ?_
         refine take_ (i := 5) (N := some 52) (v := ?_) (a' := ?_) #[true, true, true, true, true, true, false, false, true, false, false, false, false] rfl rfl (take_ofW HT_.out HW_.out (by kernel_rfl)) (fun _ _ _ h => h) (Or.inl ⟨by rfl, ?_⟩) hHeld ?_ ?_
         rotate_left
         ·rintro w' ⟨s0, s1, s2, s3, s4, s5, s6, s7⟩
          exact gs
         rotate_left
         ·exact ap
         refine pz 6 53 #[true, true, true, true, true, true, true, false, true, false, false, false, false] (any_of HT_.out (by kernel_rfl)) ?_
         refine pz 7 54 #[true, true, true, true, true, true, true, true, true, false, false, false, false] (any_of HT_.out (by kernel_rfl)) ?_
         refine take_ (i := 9) (N := some 56) (v := ?_) (a' := ?_) #[true, true, true, true, true, true, true, true, true, true, false, false, false] rfl rfl (take_ofW HT_.out HW_.out (by kernel_rfl)) (fun _ _ _ h => h) (Or.inl ⟨by rfl, ?_⟩) hHeld ?_ ?_
         rotate_left
         ·rintro w' ⟨s0, s1, s2, s3, s4, s5, s6, s7⟩
          exact gs
         rotate_left
         ·exact ap
         refine one_ (i := 10) (N := some 57) #[true, true, true, true, true, true, true, true, true, true, true, false, false] rfl rfl (one_of HT_.out (by kernel_rfl)) (by decide) (fun K hK => ?_)
         refine goes_ Tryd.func54 (by kernel_rfl) rfl #[.agg #[.int .i64 a0_3, .int .i64 a0_4]] (by rfl) rfl rfl u4_4 ?_
         with_reducible refine (impl_FormatPlace.calls k a0_3 a0_4 t143 _ A44.out).mono ?_
         rintro e w51 ⟨rfl, hb⟩
         refine ⟨_, rfl, ?_⟩
         have n0_ := am (blk_below (g := gb136) (o := zo0 a0_0 a0_1 a0_2 a0_3 a0_4 a0_5 a0_6 a0_7) u4_3 hb)
         have n1_ := am (below_step u4_2 hb)
         clear BK136 HB
         have BK136 := n0_
         have HB := n1_
         clear n0_ n1_
         (try clear hb)
         (try clear hb2)
         (try clear hk)
         (try clear hi)
         refine hK.out _ _ ⟨(blk_cell BK136.out 0).trans rfl, (blk_cell BK136.out 1).trans rfl, (blk_cell BK136.out 2).trans rfl, (blk_cell BK136.out 3).trans rfl, (blk_cell BK136.out 4).trans rfl, (blk_cell BK136.out 5).trans rfl, (blk_cell BK136.out 6).trans rfl, (blk_cell BK136.out 7).trans rfl⟩ (fun hHeld => ?_)
         clear hK K
         refine norm_ (a' := ?_) ?_ ?_
         rotate_left
         ·show Act.put _ (some 57) _ = _
          simp only [Act.put, List.setIfInBounds_toArray, List.set_cons_zero, List.set_cons_succ, i64_w, i32_w]
          rfl
         refine pz 11 58 #[true, true, true, true, true, true, true, true, true, true, true, true, false] (any_of HT_.out (by kernel_rfl)) ?_
         refine pz 12 2 #[true, true, true, true, true, true, true, true, true, true, true, true, true] (any_of HT_.out (by kernel_rfl)) ?_
         refine done_ (done_of HT_.out (by kernel_rfl)) ?_
         try go_wp2
         go_ret
         exact ⟨by first | rfl | (simp [*] <;> rfl), s4_0⟩
        ·rw [if_neg c45] at H
         exact absurd H (by simp)
       ·rw [if_neg c43] at H
        exact absurd H (by simp)
      ·rw [if_neg c42] at H
       exact absurd H (by simp)
     ·rw [if_neg c41] at H
      exact absurd H (by simp)
    ·rw [if_neg c40] at H
     exact absurd H (by simp)
 ·replace c3 := Bool.eq_false_iff.mpr c3
  subst c3
  have H1 : (some (⟨#[]⟩ : ByteArray)) = some r := by rw [if_neg (show ¬ (false = true) by decide)] at H; exact H
  clear H
  have H := H1
  clear H1
  obtain rfl := oi H
  go_enter Tryd.func20, Tryd.ntmps20
  go_wp2_with (first | ((with_reducible refine gate_dst (N := 1) rfl ?_); refine box_event ?hg (N := 1) ?hd (cs := #[.string a0_0, .int .i64 a0_1, .string a0_2, .int .i64 a0_3, .int .i64 a0_4, .int .i64 a0_5, .int .i64 a0_6, .int .i64 a0_7]) (t := 38) ?hr ?_; (case hd => rfl); (case hg => rfl); (case hr => exact gq); intro gb136 hg w52 hbox hb; have n0_ := am (below_step u4_1 hb); have n1_ := am (hbox); have n2_ := bsw w hg (below_size u4_1); have n3_ := bsw w hg (below_size u4_1); clear HB; have HB := n0_; have BK136 := n1_; have GW136 := n2_; have GE136 := n3_; clear n0_ n1_ n2_ n3_ hb hbox hg; obtain ⟨hcz53_0, hcz53_1, hcz53_2, hcz53_3, hcz53_4, hcz53_5, hcz53_6, hcz53_7, hfz53_0, hfz53_1, hfz53_2, hfz53_3, hfz53_4, hfz53_5, hfz53_6, hfz53_7⟩ := cf8 BK136.out) | ((with_reducible refine gate_callee (f := 21) rfl ?_); refine goesL_ (some 4) rfl rfl Tryd.func21 (by kernel_rfl) rfl #[.agg #[.string a0_0, .int .i64 a0_1, .string a0_2, .int .i64 a0_3, .int .i64 a0_4, .int .i64 a0_5, .int .i64 a0_6, .int .i64 a0_7]] rfl u4_4 ?_; (with_reducible refine (impl_IsDevice.calls k a0_0 a0_1 a0_2 a0_3 a0_4 a0_5 a0_6 a0_7 false _ A2.out).mono ?_); rintro e w54 ⟨rfl, hb⟩; refine ⟨_, rfl, ?_⟩; have n0_ := am (blk_below (g := gb136) (o := zo0 a0_0 a0_1 a0_2 a0_3 a0_4 a0_5 a0_6 a0_7) u4_3 hb); have n1_ := am (below_step u4_2 hb); clear BK136 HB; have BK136 := n0_; have HB := n1_; clear n0_ n1_; (try clear hb); (try clear hb2); (try clear hk); (try clear hi)))
  go_ret
  exact ⟨by first | rfl | (simp [*] <;> rfl), s4_0⟩

/-! ### strings_Split: function 73 -/
def strings_Split.f (a0 : ByteArray) (a1 : ByteArray) : Option (List ByteArray) := if a0.size < 4294967281 ∧ 1 ≤ a1.size then some (Go.Lib.splitB a1 0 (Go.Lib.countB a0 a1) a0) else none
theorem reps_strings {W : World} {base : Nat} {ok : Nat → Prop} : ∀ (l : List ByteArray), Reps (Kd.string.M W base ok) 1 l (l.map Value.string)
 | [] => Reps.none _ _
 | a :: l => Reps.one (show Kd.M Kd.string _ _ _ a [.string a] from rfl) (reps_strings l)
theorem strings_Split.calls (a0 : ByteArray) (a1 : ByteArray) (r : List ByteArray) (w : World) (h : strings_Split.f a0 a1 = some r) (hT : Ty.TabP w := by first | exact hT | exact Ty.TabP.below hT u4_5 | (repeat (first | exact hT | apply Ty.TabP.drewN))) :
  Calls Tryd.prog 73 #[.string a0, .string a1] w fun e w' => ∃ v0_ : Value, e = .returned (v0_) ∧ Kd.R Kd.string 9 w' w.heap.size (fun _ => True) v0_ r ∧ Below w.heap.size w w' := by
 unfold strings_Split.f at h
 split at h
 ·rename_i c; cases h
  refine (Ty.split_calls a0 a1 w c.1 c.2 hT).mono ?_
  rintro e w' ⟨rfl, rfl⟩
  have hn := Go.Lib.splitB_all a1 c.2 0 (Go.Lib.countB a0 a1) a0 rfl
  have hle := Go.Lib.countB_le a1 c.2 a0.size a0 (Nat.le_refl _)
  have hc := c.1
  have hl := World.ownsRow_lit (base := w.heap.size) (e := 9) (size := 1) w ((Go.Lib.splitB a1 0 (Go.Lib.countB a0 a1) a0).map Value.string).toArray (Go.Lib.countB a0 a1 + 1) (Nat.le_refl _) (by unfold maxLen; omega) (by simp [hn])
  generalize Go.Lib.splitB a1 0 (Go.Lib.countB a0 a1) a0 = q at hn hl ⊢
  refine ⟨_, rfl, ⟨fun k hk => trivial, q.map Value.string, ?_, reps_strings q⟩, below_alloc (Below.refl _ _) _⟩
  rw [← hn] at hl ⊢
  exact hl
 ·cases h

/-! ### impl_SplitAt: function 36 -/
def impl_SplitAt.f (a0 : ByteArray) (a1 : ByteArray) : Option (List ByteArray) := if a1.toList = ([] : List UInt8) then (some (([a0] : List ByteArray))) else ((strings_Split.f a0 a1).bind fun t150 => (some t150))
theorem impl_SplitAt.calls (a0 : ByteArray) (a1 : ByteArray) (r : List ByteArray) (w : World) (h : impl_SplitAt.f a0 a1 = some r) (hT : Ty.TabP w := by first | exact hT | exact Ty.TabP.below hT u4_5 | (repeat (first | exact hT | apply Ty.TabP.drewN))) :
  Calls Tryd.prog 36 #[.string a0, .string a1] w fun e w' => ∃ v0_ : Value, e = .returned (v0_) ∧ Kd.R Kd.string 9 w' w.heap.size (fun _ => True) v0_ r ∧ Below w.heap.size w w' := by
 have HB := am (Below.refl w.heap.size w)
 have H : (if a1.toList = ([] : List UInt8) then (some (([a0] : List ByteArray))) else ((strings_Split.f a0 a1).bind fun t150 => (some t150))) = some r := h
 clear h
 by_cases c3 : a1.toList = ([] : List UInt8)
 ·rw [if_pos c3] at H
  have c3b0 : (a1.toList == ([] : List UInt8)) = true := beq_iff_eq.mpr c3
  have c3b1 : (a1.toList != ([] : List UInt8)) = false := bne_eq_false_iff_eq.mpr c3
  clear c3
  obtain ⟨y147, hy147⟩ : ∃ y_ : List ByteArray, y_ = (([a0] : List ByteArray)) := ⟨_, rfl⟩
  replace H : (some y147) = some r := by first | (rw [hy147]; with_reducible exact H) | (have H2_ := (Option.bind_some _ _).symm.trans H; rw [hy147]; with_reducible exact H2_) | (have H2_ := (Option.bind_some _ _).symm.trans H; with_reducible exact H2_) | with_reducible exact H | (rw [hy147]; exact H) | exact H
  have Ny147 := am hy147
  clear hy147
  obtain rfl := oi H
  go_enter Tryd.func36, Tryd.ntmps36
  go_wp2_with (first | ((with_reducible refine gate_dst (N := 8) rfl ?_); refine Kd.R_lit Kd.string _ 9 ?hg (N := 8) ?hd (xs := ([a0] : List ByteArray)) (inner := [.string a0]) (ok := fun _ => True) (okp := fun _ => True) ?hr ?hp (fun _ hk => hk) trivial (Below.refl _ _) (Nat.le_refl _) (by simp) ?_; (case hd => rfl); (case hg => rfl); (case hr => exact gq); (case hp => exact (Reps.one (show Kd.M Kd.string _ _ _ a0 [.string a0] from rfl) (Reps.none _ _))); intro v148 w4 ho5 hb hg_ hnew_; clear hg_ hnew_; (first | rw [← Ny147.out] at ho5 | (simp only [Int.reduceToNat] at ho5; rw [← Ny147.out] at ho5)); have n0_ := am (Kd.R_lower ho5 (below_size u4_1)); have n1_ := am (below_step u4_1 hb); clear HB; have HO149 := n0_; have HB := n1_; clear n0_ n1_ hb ho5))
  go_ret
  exact ⟨_, by first | rfl | (simp [*] <;> rfl), by (with_reducible repeat (first | apply Kd.R_alloc | apply Kd.R_drewN | apply Kd.R_drew)); exact HO149.out, s4_1⟩
 ·rw [if_neg c3] at H
  have c3b0 : (a1.toList == ([] : List UInt8)) = false := beq_eq_false_iff_ne.mpr c3
  have c3b1 : (a1.toList != ([] : List UInt8)) = true := bne_iff_ne.mpr c3
  replace H := ob H
  obtain ⟨t150, A60, H⟩ := H
  replace H : (some t150) = some r := H
  have A6 := am A60
  clear A60
  obtain rfl := oi H
  go_enter Tryd.func36, Tryd.ntmps36
  go_wp2_with (first | ((with_reducible refine gate_callee (f := 73) rfl ?_); refine goesL_ (some 11) rfl rfl Tryd.func73 (by kernel_rfl) rfl #[.string a0, .string a1] rfl u4_4 ?_; (with_reducible refine (strings_Split.calls a0 a1 t150 _ A6.out).mono ?_); rintro e w7 ⟨v151, rfl, ho0, hb⟩; refine ⟨_, rfl, ?_⟩; have n0_ := am (Kd.R_lower ho0 (below_size u4_1)); have n1_ := am (below_step u4_1 hb); clear HB; have HO152 := n0_; have HB := n1_; clear n0_ n1_; (try clear hb); (try clear hb2); (try clear hk); (try clear hi); (try clear ho0)))
  go_ret
  exact ⟨_, by first | rfl | (simp [*] <;> rfl), by (with_reducible repeat (first | apply Kd.R_alloc | apply Kd.R_drewN | apply Kd.R_drew)); exact HO152.out, s4_1⟩

end Go.Proofs.YthofcclbkihemaaDoor.MFnExactParseDevice
