-- Written by a program for this claim.
import Derived.Test.YthofcclbkihemaaDoorMFnExactFormatDevicex0
import Derived.Test.YthofcclbkihemaaDoorMFnExactFormatDevicex2
import Derived.Test.YthofcclbkihemaaDoorMFnExactFormatDevicex3
namespace Go.Proofs.YthofcclbkihemaaDoor.MFnExactFormatDevice
open Go.RowKit Go.Proofs.YthofcclbkihemaaDoorW.PrintWords Go.Proofs.YthofcclbkihemaaDoorW.PrintLast Go.Proofs.YthofcclbkihemaaDoorW.PrintMore
attribute [local go_sem] max2_int min2_int max_two min_two max_three min_three max_four min_four   -- for this text's walks alone
set_option linter.unusedVariables false
set_option linter.unusedSimpArgs false

/-! ### impl_FormatDevice: function 20 -/
def impl_FormatDevice.f (k : Nat) (a0_0 : ByteArray) (a0_1 : Int) (a0_2 : ByteArray) (a0_3 : Int) (a0_4 : Int) (a0_5 : Int) (a0_6 : Int) (a0_7 : Int) : Option (ByteArray) := (impl_IsDevice.f k a0_0 a0_1 a0_2 a0_3 a0_4 a0_5 a0_6 a0_7).bind fun t137 => (if t137 = true then (if a0_1 = 1 then (if 5 + a0_0.size ≤ 9223372036854775807 then (if ((⟨#[112, 117, 109, 112, 32]⟩ : ByteArray) ++ a0_0).size + 6 ≤ 9223372036854775807 then ((impl_FormatMeasure.f k a0_7).bind fun t138 => (if (((⟨#[112, 117, 109, 112, 32]⟩ : ByteArray) ++ a0_0) ++ (⟨#[32, 109, 111, 115, 116, 32]⟩ : ByteArray)).size + t138.size ≤ 9223372036854775807 then (some ((((⟨#[112, 117, 109, 112, 32]⟩ : ByteArray) ++ a0_0) ++ (⟨#[32, 109, 111, 115, 116, 32]⟩ : ByteArray)) ++ t138)) else (none))) else (none)) else (none)) else (if a0_1 = 2 then (if 7 + a0_0.size ≤ 9223372036854775807 then (if ((⟨#[110, 111, 122, 122, 108, 101, 32]⟩ : ByteArray) ++ a0_0).size + 4 ≤ 9223372036854775807 then (if (((⟨#[110, 111, 122, 122, 108, 101, 32]⟩ : ByteArray) ++ a0_0) ++ (⟨#[32, 111, 110, 32]⟩ : ByteArray)).size + a0_2.size ≤ 9223372036854775807 then (if ((((⟨#[110, 111, 122, 122, 108, 101, 32]⟩ : ByteArray) ++ a0_0) ++ (⟨#[32, 111, 110, 32]⟩ : ByteArray)) ++ a0_2).size + 4 ≤ 9223372036854775807 then ((impl_FormatPlace.f k a0_3 a0_4).bind fun t139 => (if (((((⟨#[110, 111, 122, 122, 108, 101, 32]⟩ : ByteArray) ++ a0_0) ++ (⟨#[32, 111, 110, 32]⟩ : ByteArray)) ++ a0_2) ++ (⟨#[32, 97, 116, 32]⟩ : ByteArray)).size + t139.size ≤ 9223372036854775807 then (if ((((((⟨#[110, 111, 122, 122, 108, 101, 32]⟩ : ByteArray) ++ a0_0) ++ (⟨#[32, 111, 110, 32]⟩ : ByteArray)) ++ a0_2) ++ (⟨#[32, 97, 116, 32]⟩ : ByteArray)) ++ t139).size + 9 ≤ 9223372036854775807 then ((impl_FormatNumber.f a0_5).bind fun t140 => (if (((((((⟨#[110, 111, 122, 122, 108, 101, 32]⟩ : ByteArray) ++ a0_0) ++ (⟨#[32, 111, 110, 32]⟩ : ByteArray)) ++ a0_2) ++ (⟨#[32, 97, 116, 32]⟩ : ByteArray)) ++ t139) ++ (⟨#[32, 104, 101, 97, 100, 105, 110, 103, 32]⟩ : ByteArray)).size + t140.size ≤ 9223372036854775807 then (if ((((((((⟨#[110, 111, 122, 122, 108, 101, 32]⟩ : ByteArray) ++ a0_0) ++ (⟨#[32, 111, 110, 32]⟩ : ByteArray)) ++ a0_2) ++ (⟨#[32, 97, 116, 32]⟩ : ByteArray)) ++ t139) ++ (⟨#[32, 104, 101, 97, 100, 105, 110, 103, 32]⟩ : ByteArray)) ++ t140).size + 6 ≤ 9223372036854775807 then ((impl_FormatMeasure.f k a0_6).bind fun t141 => (if (((((((((⟨#[110, 111, 122, 122, 108, 101, 32]⟩ : ByteArray) ++ a0_0) ++ (⟨#[32, 111, 110, 32]⟩ : ByteArray)) ++ a0_2) ++ (⟨#[32, 97, 116, 32]⟩ : ByteArray)) ++ t139) ++ (⟨#[32, 104, 101, 97, 100, 105, 110, 103, 32]⟩ : ByteArray)) ++ t140) ++ (⟨#[32, 116, 105, 108, 116, 32]⟩ : ByteArray)).size + t141.size ≤ 9223372036854775807 then (if ((((((((((⟨#[110, 111, 122, 122, 108, 101, 32]⟩ : ByteArray) ++ a0_0) ++ (⟨#[32, 111, 110, 32]⟩ : ByteArray)) ++ a0_2) ++ (⟨#[32, 97, 116, 32]⟩ : ByteArray)) ++ t139) ++ (⟨#[32, 104, 101, 97, 100, 105, 110, 103, 32]⟩ : ByteArray)) ++ t140) ++ (⟨#[32, 116, 105, 108, 116, 32]⟩ : ByteArray)) ++ t141).size + 6 ≤ 9223372036854775807 then ((impl_FormatMeasure.f k a0_7).bind fun t142 => (if (((((((((((⟨#[110, 111, 122, 122, 108, 101, 32]⟩ : ByteArray) ++ a0_0) ++ (⟨#[32, 111, 110, 32]⟩ : ByteArray)) ++ a0_2) ++ (⟨#[32, 97, 116, 32]⟩ : ByteArray)) ++ t139) ++ (⟨#[32, 104, 101, 97, 100, 105, 110, 103, 32]⟩ : ByteArray)) ++ t140) ++ (⟨#[32, 116, 105, 108, 116, 32]⟩ : ByteArray)) ++ t141) ++ (⟨#[32, 109, 111, 115, 116, 32]⟩ : ByteArray)).size + t142.size ≤ 9223372036854775807 then (some ((((((((((((⟨#[110, 111, 122, 122, 108, 101, 32]⟩ : ByteArray) ++ a0_0) ++ (⟨#[32, 111, 110, 32]⟩ : ByteArray)) ++ a0_2) ++ (⟨#[32, 97, 116, 32]⟩ : ByteArray)) ++ t139) ++ (⟨#[32, 104, 101, 97, 100, 105, 110, 103, 32]⟩ : ByteArray)) ++ t140) ++ (⟨#[32, 116, 105, 108, 116, 32]⟩ : ByteArray)) ++ t141) ++ (⟨#[32, 109, 111, 115, 116, 32]⟩ : ByteArray)) ++ t142)) else (none))) else (none)) else (none))) else (none)) else (none))) else (none)) else (none))) else (none)) else (none)) else (none)) else (none)) else (if 5 + a0_0.size ≤ 9223372036854775807 then (if ((⟨#[108, 97, 109, 112, 32]⟩ : ByteArray) ++ a0_0).size + 4 ≤ 9223372036854775807 then (if (((⟨#[108, 97, 109, 112, 32]⟩ : ByteArray) ++ a0_0) ++ (⟨#[32, 111, 110, 32]⟩ : ByteArray)).size + a0_2.size ≤ 9223372036854775807 then (if ((((⟨#[108, 97, 109, 112, 32]⟩ : ByteArray) ++ a0_0) ++ (⟨#[32, 111, 110, 32]⟩ : ByteArray)) ++ a0_2).size + 4 ≤ 9223372036854775807 then ((impl_FormatPlace.f k a0_3 a0_4).bind fun t143 => (if (((((⟨#[108, 97, 109, 112, 32]⟩ : ByteArray) ++ a0_0) ++ (⟨#[32, 111, 110, 32]⟩ : ByteArray)) ++ a0_2) ++ (⟨#[32, 97, 116, 32]⟩ : ByteArray)).size + t143.size ≤ 9223372036854775807 then (some ((((((⟨#[108, 97, 109, 112, 32]⟩ : ByteArray) ++ a0_0) ++ (⟨#[32, 111, 110, 32]⟩ : ByteArray)) ++ a0_2) ++ (⟨#[32, 97, 116, 32]⟩ : ByteArray)) ++ t143)) else (none))) else (none)) else (none)) else (none)) else (none)))) else (some (⟨#[]⟩ : ByteArray)))
theorem impl_FormatDevice.mono : ∀ a0 a1 a2 a3 a4 a5 a6 a7 k, LeO (impl_FormatDevice.f k a0 a1 a2 a3 a4 a5 a6 a7) (impl_FormatDevice.f (k + 1) a0 a1 a2 a3 a4 a5 a6 a7) := by
  intro a0 a1 a2 a3 a4 a5 a6 a7 k
  unfold impl_FormatDevice.f
  repeat' first
      | (with_reducible exact impl_FormatMeasure.mono _ _)
      | (with_reducible exact impl_FormatPlace.mono _ _ _)
      | (with_reducible exact impl_IsDevice.mono _ _ _ _ _ _ _ _ _)
      | (with_reducible exact LeO.refl _)
      | (with_reducible exact LeO.none _)
      | (with_reducible refine LeO.ite ?_ ?_)
      | (with_reducible refine LeO.bind ?_ (fun _ => ?_))
      | exact impl_FormatMeasure.mono _ _
      | exact impl_FormatPlace.mono _ _ _
      | exact impl_IsDevice.mono _ _ _ _ _ _ _ _ _
      | exact LeO.none _
      | refine LeO.ite ?_ ?_
      | refine LeO.bind ?_ (fun _ => ?_)
def impl_FormatDevice.T5 : Bool × List (List Nat × List Nat) := (true, [([], []), ([0], [0]), ([1], [1]), ([2], [2]), ([], []), ([4], [4]), ([5], [5]), ([3, 6], [3, 6]), ([7, 6, 0, 1, 2, 3, 4, 5, 6, 7], [7])])
def impl_FormatDevice.B5 : List Nat := [0, 1, 3, 7, 0, 16, 48, 127, 255]
theorem impl_FormatDevice.tab5 : rtab .any (opsOf Tryd.f20 5) = impl_FormatDevice.T5 := by kernel_rfl
theorem impl_FormatDevice.bits5 : waitsOk impl_FormatDevice.T5.2 impl_FormatDevice.B5 = true := by kernel_rfl
def impl_FormatDevice.T7 : Bool × List (List Nat × List Nat) := (true, [([], []), ([0], [0]), ([1], [1]), ([2], [2]), ([], []), ([4], [4]), ([3, 5], [3, 5]), ([6], [6]), ([], []), ([8], [8]), ([9], [9]), ([7, 10], [7, 10]), ([11], [11]), ([], []), ([13], [13]), ([14, 10], [14]), ([12, 15], [12, 15]), ([16], [16]), ([], []), ([18], [18]), ([19, 15], [19]), ([17, 20], [17, 20]), ([21], [21]), ([], []), ([23], [23]), ([24, 20], [24]), ([22, 25], [22, 25]), ([26, 25, 0, 1, 2, 3, 4, 5, 6, 7, 8, 9, 10, 11, 12, 13, 14, 15, 16, 17, 18, 19, 20, 21, 22, 23, 24, 25, 26], [26])])
def impl_FormatDevice.B7 : List Nat := [0, 1, 3, 7, 0, 16, 63, 127, 0, 256, 768, 2047, 4095, 0, 8192, 26368, 65535, 131071, 0, 262144, 845568, 2097151, 4194303, 0, 8388608, 27059968, 67108863, 134217727]
theorem impl_FormatDevice.tab7 : rtab .any (opsOf Tryd.f20 7) = impl_FormatDevice.T7 := by kernel_rfl
theorem impl_FormatDevice.bits7 : waitsOk impl_FormatDevice.T7.2 impl_FormatDevice.B7 = true := by kernel_rfl
def impl_FormatDevice.T8 : Bool × List (List Nat × List Nat) := (true, [([], []), ([0], [0]), ([1], [1]), ([2], [2]), ([], []), ([4], [4]), ([3, 5], [3, 5]), ([6], [6]), ([], []), ([8], [8]), ([9], [9]), ([7, 10], [7, 10]), ([11, 10, 0, 1, 2, 3, 4, 5, 6, 7, 8, 9, 10, 11], [11])])
def impl_FormatDevice.B8 : List Nat := [0, 1, 3, 7, 0, 16, 63, 127, 0, 256, 768, 2047, 4095]
theorem impl_FormatDevice.tab8 : rtab .any (opsOf Tryd.f20 8) = impl_FormatDevice.T8 := by kernel_rfl
theorem impl_FormatDevice.bits8 : waitsOk impl_FormatDevice.T8.2 impl_FormatDevice.B8 = true := by kernel_rfl
set_option maxHeartbeats 8000000 in
set_option maxRecDepth 100000 in
theorem impl_FormatDevice.calls (k : Nat) (a0_0 : ByteArray) (a0_1 : Int) (a0_2 : ByteArray) (a0_3 : Int) (a0_4 : Int) (a0_5 : Int) (a0_6 : Int) (a0_7 : Int) (r : ByteArray) (w : World) (h : impl_FormatDevice.f k a0_0 a0_1 a0_2 a0_3 a0_4 a0_5 a0_6 a0_7 = some r) (hT : Tx.TabP w := by first | exact hT | exact Tx.TabP.below hT (by repeat (first | (with_reducible first | exact HB.out | apply below_alloc | apply pw_below_drewN | apply below_drew1) | exact HB.out)) | (repeat (first | exact hT | apply Tx.TabP.drewN))) :
    Calls Tryd.prog 20 #[.agg #[.string a0_0, .int .i64 a0_1, .string a0_2, .int .i64 a0_3, .int .i64 a0_4, .int .i64 a0_5, .int .i64 a0_6, .int .i64 a0_7]] w fun e w' => e = .returned (.string r) ∧ Below w.heap.size w w' := by
  have hu38 := Tryd.underlying38
  have hu36 := Tryd.underlying36
  have HB := Aside0.mk (Below.refl w.heap.size w)
  have H : ((impl_IsDevice.f k a0_0 a0_1 a0_2 a0_3 a0_4 a0_5 a0_6 a0_7).bind fun t137 => (if t137 = true then (if a0_1 = 1 then (if 5 + a0_0.size ≤ 9223372036854775807 then (if ((⟨#[112, 117, 109, 112, 32]⟩ : ByteArray) ++ a0_0).size + 6 ≤ 9223372036854775807 then ((impl_FormatMeasure.f k a0_7).bind fun t138 => (if (((⟨#[112, 117, 109, 112, 32]⟩ : ByteArray) ++ a0_0) ++ (⟨#[32, 109, 111, 115, 116, 32]⟩ : ByteArray)).size + t138.size ≤ 9223372036854775807 then (some ((((⟨#[112, 117, 109, 112, 32]⟩ : ByteArray) ++ a0_0) ++ (⟨#[32, 109, 111, 115, 116, 32]⟩ : ByteArray)) ++ t138)) else (none))) else (none)) else (none)) else (if a0_1 = 2 then (if 7 + a0_0.size ≤ 9223372036854775807 then (if ((⟨#[110, 111, 122, 122, 108, 101, 32]⟩ : ByteArray) ++ a0_0).size + 4 ≤ 9223372036854775807 then (if (((⟨#[110, 111, 122, 122, 108, 101, 32]⟩ : ByteArray) ++ a0_0) ++ (⟨#[32, 111, 110, 32]⟩ : ByteArray)).size + a0_2.size ≤ 9223372036854775807 then (if ((((⟨#[110, 111, 122, 122, 108, 101, 32]⟩ : ByteArray) ++ a0_0) ++ (⟨#[32, 111, 110, 32]⟩ : ByteArray)) ++ a0_2).size + 4 ≤ 9223372036854775807 then ((impl_FormatPlace.f k a0_3 a0_4).bind fun t139 => (if (((((⟨#[110, 111, 122, 122, 108, 101, 32]⟩ : ByteArray) ++ a0_0) ++ (⟨#[32, 111, 110, 32]⟩ : ByteArray)) ++ a0_2) ++ (⟨#[32, 97, 116, 32]⟩ : ByteArray)).size + t139.size ≤ 9223372036854775807 then (if ((((((⟨#[110, 111, 122, 122, 108, 101, 32]⟩ : ByteArray) ++ a0_0) ++ (⟨#[32, 111, 110, 32]⟩ : ByteArray)) ++ a0_2) ++ (⟨#[32, 97, 116, 32]⟩ : ByteArray)) ++ t139).size + 9 ≤ 9223372036854775807 then ((impl_FormatNumber.f a0_5).bind fun t140 => (if (((((((⟨#[110, 111, 122, 122, 108, 101, 32]⟩ : ByteArray) ++ a0_0) ++ (⟨#[32, 111, 110, 32]⟩ : ByteArray)) ++ a0_2) ++ (⟨#[32, 97, 116, 32]⟩ : ByteArray)) ++ t139) ++ (⟨#[32, 104, 101, 97, 100, 105, 110, 103, 32]⟩ : ByteArray)).size + t140.size ≤ 9223372036854775807 then (if ((((((((⟨#[110, 111, 122, 122, 108, 101, 32]⟩ : ByteArray) ++ a0_0) ++ (⟨#[32, 111, 110, 32]⟩ : ByteArray)) ++ a0_2) ++ (⟨#[32, 97, 116, 32]⟩ : ByteArray)) ++ t139) ++ (⟨#[32, 104, 101, 97, 100, 105, 110, 103, 32]⟩ : ByteArray)) ++ t140).size + 6 ≤ 9223372036854775807 then ((impl_FormatMeasure.f k a0_6).bind fun t141 => (if (((((((((⟨#[110, 111, 122, 122, 108, 101, 32]⟩ : ByteArray) ++ a0_0) ++ (⟨#[32, 111, 110, 32]⟩ : ByteArray)) ++ a0_2) ++ (⟨#[32, 97, 116, 32]⟩ : ByteArray)) ++ t139) ++ (⟨#[32, 104, 101, 97, 100, 105, 110, 103, 32]⟩ : ByteArray)) ++ t140) ++ (⟨#[32, 116, 105, 108, 116, 32]⟩ : ByteArray)).size + t141.size ≤ 9223372036854775807 then (if ((((((((((⟨#[110, 111, 122, 122, 108, 101, 32]⟩ : ByteArray) ++ a0_0) ++ (⟨#[32, 111, 110, 32]⟩ : ByteArray)) ++ a0_2) ++ (⟨#[32, 97, 116, 32]⟩ : ByteArray)) ++ t139) ++ (⟨#[32, 104, 101, 97, 100, 105, 110, 103, 32]⟩ : ByteArray)) ++ t140) ++ (⟨#[32, 116, 105, 108, 116, 32]⟩ : ByteArray)) ++ t141).size + 6 ≤ 9223372036854775807 then ((impl_FormatMeasure.f k a0_7).bind fun t142 => (if (((((((((((⟨#[110, 111, 122, 122, 108, 101, 32]⟩ : ByteArray) ++ a0_0) ++ (⟨#[32, 111, 110, 32]⟩ : ByteArray)) ++ a0_2) ++ (⟨#[32, 97, 116, 32]⟩ : ByteArray)) ++ t139) ++ (⟨#[32, 104, 101, 97, 100, 105, 110, 103, 32]⟩ : ByteArray)) ++ t140) ++ (⟨#[32, 116, 105, 108, 116, 32]⟩ : ByteArray)) ++ t141) ++ (⟨#[32, 109, 111, 115, 116, 32]⟩ : ByteArray)).size + t142.size ≤ 9223372036854775807 then (some ((((((((((((⟨#[110, 111, 122, 122, 108, 101, 32]⟩ : ByteArray) ++ a0_0) ++ (⟨#[32, 111, 110, 32]⟩ : ByteArray)) ++ a0_2) ++ (⟨#[32, 97, 116, 32]⟩ : ByteArray)) ++ t139) ++ (⟨#[32, 104, 101, 97, 100, 105, 110, 103, 32]⟩ : ByteArray)) ++ t140) ++ (⟨#[32, 116, 105, 108, 116, 32]⟩ : ByteArray)) ++ t141) ++ (⟨#[32, 109, 111, 115, 116, 32]⟩ : ByteArray)) ++ t142)) else (none))) else (none)) else (none))) else (none)) else (none))) else (none)) else (none))) else (none)) else (none)) else (none)) else (none)) else (if 5 + a0_0.size ≤ 9223372036854775807 then (if ((⟨#[108, 97, 109, 112, 32]⟩ : ByteArray) ++ a0_0).size + 4 ≤ 9223372036854775807 then (if (((⟨#[108, 97, 109, 112, 32]⟩ : ByteArray) ++ a0_0) ++ (⟨#[32, 111, 110, 32]⟩ : ByteArray)).size + a0_2.size ≤ 9223372036854775807 then (if ((((⟨#[108, 97, 109, 112, 32]⟩ : ByteArray) ++ a0_0) ++ (⟨#[32, 111, 110, 32]⟩ : ByteArray)) ++ a0_2).size + 4 ≤ 9223372036854775807 then ((impl_FormatPlace.f k a0_3 a0_4).bind fun t143 => (if (((((⟨#[108, 97, 109, 112, 32]⟩ : ByteArray) ++ a0_0) ++ (⟨#[32, 111, 110, 32]⟩ : ByteArray)) ++ a0_2) ++ (⟨#[32, 97, 116, 32]⟩ : ByteArray)).size + t143.size ≤ 9223372036854775807 then (some ((((((⟨#[108, 97, 109, 112, 32]⟩ : ByteArray) ++ a0_0) ++ (⟨#[32, 111, 110, 32]⟩ : ByteArray)) ++ a0_2) ++ (⟨#[32, 97, 116, 32]⟩ : ByteArray)) ++ t143)) else (none))) else (none)) else (none)) else (none)) else (none)))) else (some (⟨#[]⟩ : ByteArray)))) = some r := h
  clear h
  replace H := Option.bind_eq_some_iff.mp H
  obtain ⟨t137, A20, H⟩ := H
  replace H : (if t137 = true then (if a0_1 = 1 then (if 5 + a0_0.size ≤ 9223372036854775807 then (if ((⟨#[112, 117, 109, 112, 32]⟩ : ByteArray) ++ a0_0).size + 6 ≤ 9223372036854775807 then ((impl_FormatMeasure.f k a0_7).bind fun t138 => (if (((⟨#[112, 117, 109, 112, 32]⟩ : ByteArray) ++ a0_0) ++ (⟨#[32, 109, 111, 115, 116, 32]⟩ : ByteArray)).size + t138.size ≤ 9223372036854775807 then (some ((((⟨#[112, 117, 109, 112, 32]⟩ : ByteArray) ++ a0_0) ++ (⟨#[32, 109, 111, 115, 116, 32]⟩ : ByteArray)) ++ t138)) else (none))) else (none)) else (none)) else (if a0_1 = 2 then (if 7 + a0_0.size ≤ 9223372036854775807 then (if ((⟨#[110, 111, 122, 122, 108, 101, 32]⟩ : ByteArray) ++ a0_0).size + 4 ≤ 9223372036854775807 then (if (((⟨#[110, 111, 122, 122, 108, 101, 32]⟩ : ByteArray) ++ a0_0) ++ (⟨#[32, 111, 110, 32]⟩ : ByteArray)).size + a0_2.size ≤ 9223372036854775807 then (if ((((⟨#[110, 111, 122, 122, 108, 101, 32]⟩ : ByteArray) ++ a0_0) ++ (⟨#[32, 111, 110, 32]⟩ : ByteArray)) ++ a0_2).size + 4 ≤ 9223372036854775807 then ((impl_FormatPlace.f k a0_3 a0_4).bind fun t139 => (if (((((⟨#[110, 111, 122, 122, 108, 101, 32]⟩ : ByteArray) ++ a0_0) ++ (⟨#[32, 111, 110, 32]⟩ : ByteArray)) ++ a0_2) ++ (⟨#[32, 97, 116, 32]⟩ : ByteArray)).size + t139.size ≤ 9223372036854775807 then (if ((((((⟨#[110, 111, 122, 122, 108, 101, 32]⟩ : ByteArray) ++ a0_0) ++ (⟨#[32, 111, 110, 32]⟩ : ByteArray)) ++ a0_2) ++ (⟨#[32, 97, 116, 32]⟩ : ByteArray)) ++ t139).size + 9 ≤ 9223372036854775807 then ((impl_FormatNumber.f a0_5).bind fun t140 => (if (((((((⟨#[110, 111, 122, 122, 108, 101, 32]⟩ : ByteArray) ++ a0_0) ++ (⟨#[32, 111, 110, 32]⟩ : ByteArray)) ++ a0_2) ++ (⟨#[32, 97, 116, 32]⟩ : ByteArray)) ++ t139) ++ (⟨#[32, 104, 101, 97, 100, 105, 110, 103, 32]⟩ : ByteArray)).size + t140.size ≤ 9223372036854775807 then (if ((((((((⟨#[110, 111, 122, 122, 108, 101, 32]⟩ : ByteArray) ++ a0_0) ++ (⟨#[32, 111, 110, 32]⟩ : ByteArray)) ++ a0_2) ++ (⟨#[32, 97, 116, 32]⟩ : ByteArray)) ++ t139) ++ (⟨#[32, 104, 101, 97, 100, 105, 110, 103, 32]⟩ : ByteArray)) ++ t140).size + 6 ≤ 9223372036854775807 then ((impl_FormatMeasure.f k a0_6).bind fun t141 => (if (((((((((⟨#[110, 111, 122, 122, 108, 101, 32]⟩ : ByteArray) ++ a0_0) ++ (⟨#[32, 111, 110, 32]⟩ : ByteArray)) ++ a0_2) ++ (⟨#[32, 97, 116, 32]⟩ : ByteArray)) ++ t139) ++ (⟨#[32, 104, 101, 97, 100, 105, 110, 103, 32]⟩ : ByteArray)) ++ t140) ++ (⟨#[32, 116, 105, 108, 116, 32]⟩ : ByteArray)).size + t141.size ≤ 9223372036854775807 then (if ((((((((((⟨#[110, 111, 122, 122, 108, 101, 32]⟩ : ByteArray) ++ a0_0) ++ (⟨#[32, 111, 110, 32]⟩ : ByteArray)) ++ a0_2) ++ (⟨#[32, 97, 116, 32]⟩ : ByteArray)) ++ t139) ++ (⟨#[32, 104, 101, 97, 100, 105, 110, 103, 32]⟩ : ByteArray)) ++ t140) ++ (⟨#[32, 116, 105, 108, 116, 32]⟩ : ByteArray)) ++ t141).size + 6 ≤ 9223372036854775807 then ((impl_FormatMeasure.f k a0_7).bind fun t142 => (if (((((((((((⟨#[110, 111, 122, 122, 108, 101, 32]⟩ : ByteArray) ++ a0_0) ++ (⟨#[32, 111, 110, 32]⟩ : ByteArray)) ++ a0_2) ++ (⟨#[32, 97, 116, 32]⟩ : ByteArray)) ++ t139) ++ (⟨#[32, 104, 101, 97, 100, 105, 110, 103, 32]⟩ : ByteArray)) ++ t140) ++ (⟨#[32, 116, 105, 108, 116, 32]⟩ : ByteArray)) ++ t141) ++ (⟨#[32, 109, 111, 115, 116, 32]⟩ : ByteArray)).size + t142.size ≤ 9223372036854775807 then (some ((((((((((((⟨#[110, 111, 122, 122, 108, 101, 32]⟩ : ByteArray) ++ a0_0) ++ (⟨#[32, 111, 110, 32]⟩ : ByteArray)) ++ a0_2) ++ (⟨#[32, 97, 116, 32]⟩ : ByteArray)) ++ t139) ++ (⟨#[32, 104, 101, 97, 100, 105, 110, 103, 32]⟩ : ByteArray)) ++ t140) ++ (⟨#[32, 116, 105, 108, 116, 32]⟩ : ByteArray)) ++ t141) ++ (⟨#[32, 109, 111, 115, 116, 32]⟩ : ByteArray)) ++ t142)) else (none))) else (none)) else (none))) else (none)) else (none))) else (none)) else (none))) else (none)) else (none)) else (none)) else (none)) else (if 5 + a0_0.size ≤ 9223372036854775807 then (if ((⟨#[108, 97, 109, 112, 32]⟩ : ByteArray) ++ a0_0).size + 4 ≤ 9223372036854775807 then (if (((⟨#[108, 97, 109, 112, 32]⟩ : ByteArray) ++ a0_0) ++ (⟨#[32, 111, 110, 32]⟩ : ByteArray)).size + a0_2.size ≤ 9223372036854775807 then (if ((((⟨#[108, 97, 109, 112, 32]⟩ : ByteArray) ++ a0_0) ++ (⟨#[32, 111, 110, 32]⟩ : ByteArray)) ++ a0_2).size + 4 ≤ 9223372036854775807 then ((impl_FormatPlace.f k a0_3 a0_4).bind fun t143 => (if (((((⟨#[108, 97, 109, 112, 32]⟩ : ByteArray) ++ a0_0) ++ (⟨#[32, 111, 110, 32]⟩ : ByteArray)) ++ a0_2) ++ (⟨#[32, 97, 116, 32]⟩ : ByteArray)).size + t143.size ≤ 9223372036854775807 then (some ((((((⟨#[108, 97, 109, 112, 32]⟩ : ByteArray) ++ a0_0) ++ (⟨#[32, 111, 110, 32]⟩ : ByteArray)) ++ a0_2) ++ (⟨#[32, 97, 116, 32]⟩ : ByteArray)) ++ t143)) else (none))) else (none)) else (none)) else (none)) else (none)))) else (some (⟨#[]⟩ : ByteArray))) = some r := H
  have A2 := Aside0.mk A20
  clear A20
  by_cases c3 : t137 = true
  · subst c3
    have H1 : (if a0_1 = 1 then (if 5 + a0_0.size ≤ 9223372036854775807 then (if ((⟨#[112, 117, 109, 112, 32]⟩ : ByteArray) ++ a0_0).size + 6 ≤ 9223372036854775807 then ((impl_FormatMeasure.f k a0_7).bind fun t138 => (if (((⟨#[112, 117, 109, 112, 32]⟩ : ByteArray) ++ a0_0) ++ (⟨#[32, 109, 111, 115, 116, 32]⟩ : ByteArray)).size + t138.size ≤ 9223372036854775807 then (some ((((⟨#[112, 117, 109, 112, 32]⟩ : ByteArray) ++ a0_0) ++ (⟨#[32, 109, 111, 115, 116, 32]⟩ : ByteArray)) ++ t138)) else (none))) else (none)) else (none)) else (if a0_1 = 2 then (if 7 + a0_0.size ≤ 9223372036854775807 then (if ((⟨#[110, 111, 122, 122, 108, 101, 32]⟩ : ByteArray) ++ a0_0).size + 4 ≤ 9223372036854775807 then (if (((⟨#[110, 111, 122, 122, 108, 101, 32]⟩ : ByteArray) ++ a0_0) ++ (⟨#[32, 111, 110, 32]⟩ : ByteArray)).size + a0_2.size ≤ 9223372036854775807 then (if ((((⟨#[110, 111, 122, 122, 108, 101, 32]⟩ : ByteArray) ++ a0_0) ++ (⟨#[32, 111, 110, 32]⟩ : ByteArray)) ++ a0_2).size + 4 ≤ 9223372036854775807 then ((impl_FormatPlace.f k a0_3 a0_4).bind fun t139 => (if (((((⟨#[110, 111, 122, 122, 108, 101, 32]⟩ : ByteArray) ++ a0_0) ++ (⟨#[32, 111, 110, 32]⟩ : ByteArray)) ++ a0_2) ++ (⟨#[32, 97, 116, 32]⟩ : ByteArray)).size + t139.size ≤ 9223372036854775807 then (if ((((((⟨#[110, 111, 122, 122, 108, 101, 32]⟩ : ByteArray) ++ a0_0) ++ (⟨#[32, 111, 110, 32]⟩ : ByteArray)) ++ a0_2) ++ (⟨#[32, 97, 116, 32]⟩ : ByteArray)) ++ t139).size + 9 ≤ 9223372036854775807 then ((impl_FormatNumber.f a0_5).bind fun t140 => (if (((((((⟨#[110, 111, 122, 122, 108, 101, 32]⟩ : ByteArray) ++ a0_0) ++ (⟨#[32, 111, 110, 32]⟩ : ByteArray)) ++ a0_2) ++ (⟨#[32, 97, 116, 32]⟩ : ByteArray)) ++ t139) ++ (⟨#[32, 104, 101, 97, 100, 105, 110, 103, 32]⟩ : ByteArray)).size + t140.size ≤ 9223372036854775807 then (if ((((((((⟨#[110, 111, 122, 122, 108, 101, 32]⟩ : ByteArray) ++ a0_0) ++ (⟨#[32, 111, 110, 32]⟩ : ByteArray)) ++ a0_2) ++ (⟨#[32, 97, 116, 32]⟩ : ByteArray)) ++ t139) ++ (⟨#[32, 104, 101, 97, 100, 105, 110, 103, 32]⟩ : ByteArray)) ++ t140).size + 6 ≤ 9223372036854775807 then ((impl_FormatMeasure.f k a0_6).bind fun t141 => (if (((((((((⟨#[110, 111, 122, 122, 108, 101, 32]⟩ : ByteArray) ++ a0_0) ++ (⟨#[32, 111, 110, 32]⟩ : ByteArray)) ++ a0_2) ++ (⟨#[32, 97, 116, 32]⟩ : ByteArray)) ++ t139) ++ (⟨#[32, 104, 101, 97, 100, 105, 110, 103, 32]⟩ : ByteArray)) ++ t140) ++ (⟨#[32, 116, 105, 108, 116, 32]⟩ : ByteArray)).size + t141.size ≤ 9223372036854775807 then (if ((((((((((⟨#[110, 111, 122, 122, 108, 101, 32]⟩ : ByteArray) ++ a0_0) ++ (⟨#[32, 111, 110, 32]⟩ : ByteArray)) ++ a0_2) ++ (⟨#[32, 97, 116, 32]⟩ : ByteArray)) ++ t139) ++ (⟨#[32, 104, 101, 97, 100, 105, 110, 103, 32]⟩ : ByteArray)) ++ t140) ++ (⟨#[32, 116, 105, 108, 116, 32]⟩ : ByteArray)) ++ t141).size + 6 ≤ 9223372036854775807 then ((impl_FormatMeasure.f k a0_7).bind fun t142 => (if (((((((((((⟨#[110, 111, 122, 122, 108, 101, 32]⟩ : ByteArray) ++ a0_0) ++ (⟨#[32, 111, 110, 32]⟩ : ByteArray)) ++ a0_2) ++ (⟨#[32, 97, 116, 32]⟩ : ByteArray)) ++ t139) ++ (⟨#[32, 104, 101, 97, 100, 105, 110, 103, 32]⟩ : ByteArray)) ++ t140) ++ (⟨#[32, 116, 105, 108, 116, 32]⟩ : ByteArray)) ++ t141) ++ (⟨#[32, 109, 111, 115, 116, 32]⟩ : ByteArray)).size + t142.size ≤ 9223372036854775807 then (some ((((((((((((⟨#[110, 111, 122, 122, 108, 101, 32]⟩ : ByteArray) ++ a0_0) ++ (⟨#[32, 111, 110, 32]⟩ : ByteArray)) ++ a0_2) ++ (⟨#[32, 97, 116, 32]⟩ : ByteArray)) ++ t139) ++ (⟨#[32, 104, 101, 97, 100, 105, 110, 103, 32]⟩ : ByteArray)) ++ t140) ++ (⟨#[32, 116, 105, 108, 116, 32]⟩ : ByteArray)) ++ t141) ++ (⟨#[32, 109, 111, 115, 116, 32]⟩ : ByteArray)) ++ t142)) else (none))) else (none)) else (none))) else (none)) else (none))) else (none)) else (none))) else (none)) else (none)) else (none)) else (none)) else (if 5 + a0_0.size ≤ 9223372036854775807 then (if ((⟨#[108, 97, 109, 112, 32]⟩ : ByteArray) ++ a0_0).size + 4 ≤ 9223372036854775807 then (if (((⟨#[108, 97, 109, 112, 32]⟩ : ByteArray) ++ a0_0) ++ (⟨#[32, 111, 110, 32]⟩ : ByteArray)).size + a0_2.size ≤ 9223372036854775807 then (if ((((⟨#[108, 97, 109, 112, 32]⟩ : ByteArray) ++ a0_0) ++ (⟨#[32, 111, 110, 32]⟩ : ByteArray)) ++ a0_2).size + 4 ≤ 9223372036854775807 then ((impl_FormatPlace.f k a0_3 a0_4).bind fun t143 => (if (((((⟨#[108, 97, 109, 112, 32]⟩ : ByteArray) ++ a0_0) ++ (⟨#[32, 111, 110, 32]⟩ : ByteArray)) ++ a0_2) ++ (⟨#[32, 97, 116, 32]⟩ : ByteArray)).size + t143.size ≤ 9223372036854775807 then (some ((((((⟨#[108, 97, 109, 112, 32]⟩ : ByteArray) ++ a0_0) ++ (⟨#[32, 111, 110, 32]⟩ : ByteArray)) ++ a0_2) ++ (⟨#[32, 97, 116, 32]⟩ : ByteArray)) ++ t143)) else (none))) else (none)) else (none)) else (none)) else (none)))) = some r := by rw [if_pos rfl] at H; exact H
    clear H
    have H := H1
    clear H1
    by_cases c4 : a0_1 = 1
    · rw [if_pos c4] at H
      have c4b0 : (a0_1 == 1) = true := beq_iff_eq.mpr c4
      have c4b1 : (a0_1 != 1) = false := bne_eq_false_iff_eq.mpr c4
      clear c4
      by_cases c5 : 5 + a0_0.size ≤ 9223372036854775807
      · rw [if_pos c5] at H
        have c5b0 := eq_true c5
        have c5b1 : decide (5 + a0_0.size ≤ 9223372036854775807) = true := decide_eq_true c5
        try have c5b2 : (9223372036854775807 < 5 + a0_0.size) = False := eq_false (Nat.not_lt.2 c5)
        by_cases c6 : ((⟨#[112, 117, 109, 112, 32]⟩ : ByteArray) ++ a0_0).size + 6 ≤ 9223372036854775807
        · rw [if_pos c6] at H
          have c6b0 := eq_true c6
          have c6b1 : decide (((⟨#[112, 117, 109, 112, 32]⟩ : ByteArray) ++ a0_0).size + 6 ≤ 9223372036854775807) = true := decide_eq_true c6
          try have c6b2 : (9223372036854775807 < ((⟨#[112, 117, 109, 112, 32]⟩ : ByteArray) ++ a0_0).size + 6) = False := eq_false (Nat.not_lt.2 c6)
          try have c6b8 : (5 + a0_0.size + 6 ≤ 9223372036854775807) = True := by have t_ := c6b0; first | (simp only [ByteArray.size_append, Nat.zero_add, Nat.add_zero] at t_; exact t_) | (have t2_ := of_eq_true t_; simp only [ByteArray.size_append] at t2_; exact eq_true (by first | exact t2_ | (have t3_ := t2_; change 0 + _ ≤ _ at t3_; rwa [Nat.zero_add] at t3_) | (change (0 + _) + _ ≤ _ at t2_; rwa [Nat.zero_add] at t2_)))
          try have c6b9 : (9223372036854775807 < 5 + a0_0.size + 6) = False := by have t_ := c6b2; first | (simp only [ByteArray.size_append] at t_; exact t_) | (have t2_ := c6b8; exact eq_false (Nat.not_lt.2 (of_eq_true t2_)))
          replace H := Option.bind_eq_some_iff.mp H
          obtain ⟨t138, A70, H⟩ := H
          replace H : (if (((⟨#[112, 117, 109, 112, 32]⟩ : ByteArray) ++ a0_0) ++ (⟨#[32, 109, 111, 115, 116, 32]⟩ : ByteArray)).size + t138.size ≤ 9223372036854775807 then (some ((((⟨#[112, 117, 109, 112, 32]⟩ : ByteArray) ++ a0_0) ++ (⟨#[32, 109, 111, 115, 116, 32]⟩ : ByteArray)) ++ t138)) else (none)) = some r := H
          have A7 := Aside0.mk A70
          clear A70
          by_cases c8 : (((⟨#[112, 117, 109, 112, 32]⟩ : ByteArray) ++ a0_0) ++ (⟨#[32, 109, 111, 115, 116, 32]⟩ : ByteArray)).size + t138.size ≤ 9223372036854775807
          · rw [if_pos c8] at H
            have c8b0 := eq_true c8
            have c8b1 : decide ((((⟨#[112, 117, 109, 112, 32]⟩ : ByteArray) ++ a0_0) ++ (⟨#[32, 109, 111, 115, 116, 32]⟩ : ByteArray)).size + t138.size ≤ 9223372036854775807) = true := decide_eq_true c8
            try have c8b2 : (9223372036854775807 < (((⟨#[112, 117, 109, 112, 32]⟩ : ByteArray) ++ a0_0) ++ (⟨#[32, 109, 111, 115, 116, 32]⟩ : ByteArray)).size + t138.size) = False := eq_false (Nat.not_lt.2 c8)
            try have c8b8 : (5 + a0_0.size + 6 + t138.size ≤ 9223372036854775807) = True := by have t_ := c8b0; first | (simp only [ByteArray.size_append, Nat.zero_add, Nat.add_zero] at t_; exact t_) | (have t2_ := of_eq_true t_; simp only [ByteArray.size_append] at t2_; exact eq_true (by first | exact t2_ | (have t3_ := t2_; change 0 + _ ≤ _ at t3_; rwa [Nat.zero_add] at t3_) | (change (0 + _) + _ ≤ _ at t2_; rwa [Nat.zero_add] at t2_)))
            try have c8b9 : (9223372036854775807 < 5 + a0_0.size + 6 + t138.size) = False := by have t_ := c8b2; first | (simp only [ByteArray.size_append] at t_; exact t_) | (have t2_ := c8b8; exact eq_false (Nat.not_lt.2 (of_eq_true t2_)))
            obtain rfl := Option.some.inj H
            go_enter Tryd.func20, Tryd.ntmps20
            try go_wp2_with (first | ((with_reducible refine gate_dst (N := 1) rfl ?_); refine box_event ?hg (N := 1) ?hd (cs := #[.string a0_0, .int .i64 a0_1, .string a0_2, .int .i64 a0_3, .int .i64 a0_4, .int .i64 a0_5, .int .i64 a0_6, .int .i64 a0_7]) (t := 38) ?hr ?_; (case hd => rfl); (case hg => rfl); (case hr => first | (go_simp; done) | (go_simp; rfl)); intro gb136 hg w9 hbox hb; have n0_ := Aside0.mk (below_step (by repeat (first | (with_reducible first | exact HB.out | apply below_alloc | apply pw_below_drewN | apply below_drew1) | exact HB.out)) hb); have n1_ := Aside0.mk (hbox); have n2_ := Aside0.mk ((by rw [hg]; exact (below_size (by repeat (first | (with_reducible first | exact HB.out | apply below_alloc | apply pw_below_drewN | apply below_drew1) | exact HB.out))) : w.heap.size ≤ gb136)); have n3_ := Aside0.mk ((by rw [hg]; exact (below_size (by repeat (first | (with_reducible first | exact HB.out | apply below_alloc | apply pw_below_drewN | apply below_drew1) | exact HB.out))) : w.heap.size ≤ gb136)); clear HB; have HB := n0_; have BK136 := n1_; have GW136 := n2_; have GE136 := n3_; clear n0_ n1_ n2_ n3_; clear hb hbox hg; have hcz10_0 : w9.cell? ⟨gb136, 0, none⟩ = some (.string a0_0) := (blk_cell BK136.out 0).trans rfl; have hcz10_1 : w9.cell? ⟨gb136, 1, none⟩ = some (.int .i64 a0_1) := (blk_cell BK136.out 1).trans rfl; have hcz10_2 : w9.cell? ⟨gb136, 2, none⟩ = some (.string a0_2) := (blk_cell BK136.out 2).trans rfl; have hcz10_3 : w9.cell? ⟨gb136, 3, none⟩ = some (.int .i64 a0_3) := (blk_cell BK136.out 3).trans rfl; have hcz10_4 : w9.cell? ⟨gb136, 4, none⟩ = some (.int .i64 a0_4) := (blk_cell BK136.out 4).trans rfl; have hcz10_5 : w9.cell? ⟨gb136, 5, none⟩ = some (.int .i64 a0_5) := (blk_cell BK136.out 5).trans rfl; have hcz10_6 : w9.cell? ⟨gb136, 6, none⟩ = some (.int .i64 a0_6) := (blk_cell BK136.out 6).trans rfl; have hcz10_7 : w9.cell? ⟨gb136, 7, none⟩ = some (.int .i64 a0_7) := (blk_cell BK136.out 7).trans rfl; have hfz10_0 := blk_frozen BK136.out 0; have hfz10_1 := blk_frozen BK136.out 1; have hfz10_2 := blk_frozen BK136.out 2; have hfz10_3 := blk_frozen BK136.out 3; have hfz10_4 := blk_frozen BK136.out 4; have hfz10_5 := blk_frozen BK136.out 5; have hfz10_6 := blk_frozen BK136.out 6; have hfz10_7 := blk_frozen BK136.out 7) | ((with_reducible refine gate_callee (f := 21) rfl ?_); refine goesL_ (some 4) rfl rfl Tryd.func21 (by kernel_rfl) rfl #[.agg #[.string a0_0, .int .i64 a0_1, .string a0_2, .int .i64 a0_3, .int .i64 a0_4, .int .i64 a0_5, .int .i64 a0_6, .int .i64 a0_7]] rfl (by (try simp only [List.map_toArray, List.map_cons, List.map_nil]); first | done | rfl | (simp only [List.length_drop, List.length_take]; rfl)) ?_; (with_reducible refine (impl_IsDevice.calls k a0_0 a0_1 a0_2 a0_3 a0_4 a0_5 a0_6 a0_7 true _ A2.out).mono ?_); rintro e w11 ⟨rfl, hb⟩; refine ⟨_, rfl, ?_⟩; have n0_ := Aside0.mk (blk_below (g := gb136) (o := .cells #[.string a0_0, .int .i64 a0_1, .string a0_2, .int .i64 a0_3, .int .i64 a0_4, .int .i64 a0_5, .int .i64 a0_6, .int .i64 a0_7] 38 (0, 0)) (by (with_reducible repeat (first | refine blk_drewN ?_ _ | refine blk_drew ?_ | refine blk_alloc ?_ _)); exact BK136.out) hb); have n1_ := Aside0.mk (below_step (by repeat (first | (with_reducible first | exact HB.out | apply below_alloc | apply pw_below_drewN | apply below_drew1 | refine below_set ?_ GE136.out) | exact HB.out)) hb); clear BK136; clear HB; have BK136 := n0_; have HB := n1_; clear n0_ n1_; (try clear hb); (try clear hb2); (try clear hk); (try clear hi); have hcz12_0 : w11.cell? ⟨gb136, 0, none⟩ = some (.string a0_0) := (blk_cell BK136.out 0).trans rfl; have hcz12_1 : w11.cell? ⟨gb136, 1, none⟩ = some (.int .i64 a0_1) := (blk_cell BK136.out 1).trans rfl; have hcz12_2 : w11.cell? ⟨gb136, 2, none⟩ = some (.string a0_2) := (blk_cell BK136.out 2).trans rfl; have hcz12_3 : w11.cell? ⟨gb136, 3, none⟩ = some (.int .i64 a0_3) := (blk_cell BK136.out 3).trans rfl; have hcz12_4 : w11.cell? ⟨gb136, 4, none⟩ = some (.int .i64 a0_4) := (blk_cell BK136.out 4).trans rfl; have hcz12_5 : w11.cell? ⟨gb136, 5, none⟩ = some (.int .i64 a0_5) := (blk_cell BK136.out 5).trans rfl; have hcz12_6 : w11.cell? ⟨gb136, 6, none⟩ = some (.int .i64 a0_6) := (blk_cell BK136.out 6).trans rfl; have hcz12_7 : w11.cell? ⟨gb136, 7, none⟩ = some (.int .i64 a0_7) := (blk_cell BK136.out 7).trans rfl; have hfz12_0 := blk_frozen BK136.out 0; have hfz12_1 := blk_frozen BK136.out 1; have hfz12_2 := blk_frozen BK136.out 2; have hfz12_3 := blk_frozen BK136.out 3; have hfz12_4 := blk_frozen BK136.out 4; have hfz12_5 := blk_frozen BK136.out 5; have hfz12_6 := blk_frozen BK136.out 6; have hfz12_7 := blk_frozen BK136.out 7))
            have n0_ := Aside0.mk (blk_drew BK136.out)
            have n1_ := Aside0.mk (below_drew1 HB.out)
            clear BK136
            clear HB
            have BK136 := n0_
            have HB := n1_
            clear n0_ n1_
            refine start_ (n := 9) (S := fun w' => w'.cell? ⟨gb136, 0, none⟩ = some (.string a0_0) ∧ w'.cell? ⟨gb136, 1, none⟩ = some (.int .i64 a0_1) ∧ w'.cell? ⟨gb136, 2, none⟩ = some (.string a0_2) ∧ w'.cell? ⟨gb136, 3, none⟩ = some (.int .i64 a0_3) ∧ w'.cell? ⟨gb136, 4, none⟩ = some (.int .i64 a0_4) ∧ w'.cell? ⟨gb136, 5, none⟩ = some (.int .i64 a0_5) ∧ w'.cell? ⟨gb136, 6, none⟩ = some (.int .i64 a0_6) ∧ w'.cell? ⟨gb136, 7, none⟩ = some (.int .i64 a0_7)) (ds := []) #[false, false, false, false, false, false, false, false, false] (by kernel_rfl) rfl rfl ⟨(blk_cell BK136.out 0).trans rfl, (blk_cell BK136.out 1).trans rfl, (blk_cell BK136.out 2).trans rfl, (blk_cell BK136.out 3).trans rfl, (blk_cell BK136.out 4).trans rfl, (blk_cell BK136.out 5).trans rfl, (blk_cell BK136.out 6).trans rfl, (blk_cell BK136.out 7).trans rfl⟩ (fun hHeld => ?_); refine with_tabW impl_FormatDevice.tab5 impl_FormatDevice.bits5 (fun HT_ HW_ => ?_)
            generalize w11.drew = w13 at BK136 HB hHeld ⊢
            refine pure_ (i := 0) (N := some 10) (v := ?_) (a' := ?_) #[true, false, false, false, false, false, false, false, false] rfl rfl (any_of HT_.out (by kernel_rfl)) (fun _ _ _ h => h) (Or.inl ⟨by rfl, ?_⟩) ?_ ?_
            rotate_left
            · intro w'
              go_simp
              first | (with_reducible rfl) | rfl
            rotate_left
            · simp only [Act.put, List.setIfInBounds_toArray, List.set_cons_zero, List.set_cons_succ, i64_w, i32_w]
              rfl
            refine pure_ (i := 4) (N := some 14) (v := ?_) (a' := ?_) #[true, false, false, false, true, false, false, false, false] rfl rfl (any_of HT_.out (by kernel_rfl)) (fun _ _ _ h => h) (Or.inl ⟨by rfl, ?_⟩) ?_ ?_
            rotate_left
            · intro w'
              go_simp
              first | (with_reducible rfl) | rfl
            rotate_left
            · simp only [Act.put, List.setIfInBounds_toArray, List.set_cons_zero, List.set_cons_succ, i64_w, i32_w]
              rfl
            refine take_ (i := 1) (N := some 11) (v := ?_) (a' := ?_) #[true, true, false, false, true, false, false, false, false] rfl rfl (take_ofW HT_.out HW_.out (by kernel_rfl)) (fun _ _ _ h => h) (Or.inl ⟨by rfl, ?_⟩) hHeld ?_ ?_
            rotate_left
            · rintro w' ⟨s0, s1, s2, s3, s4, s5, s6, s7⟩
              go_simp
              first | (with_reducible rfl) | rfl
            rotate_left
            · simp only [Act.put, List.setIfInBounds_toArray, List.set_cons_zero, List.set_cons_succ, i64_w, i32_w]
              rfl
            refine pure_ (i := 2) (N := some 12) (v := ?_) (a' := ?_) #[true, true, true, false, true, false, false, false, false] rfl rfl (any_of HT_.out (by kernel_rfl)) (fun _ _ _ h => h) (Or.inl ⟨by rfl, ?_⟩) ?_ ?_
            rotate_left
            · intro w'
              go_simp
              first | (with_reducible rfl) | rfl
            rotate_left
            · simp only [Act.put, List.setIfInBounds_toArray, List.set_cons_zero, List.set_cons_succ, i64_w, i32_w]
              rfl
            refine pure_ (i := 3) (N := some 13) (v := ?_) (a' := ?_) #[true, true, true, true, true, false, false, false, false] rfl rfl (any_of HT_.out (by kernel_rfl)) (fun _ _ _ h => h) (Or.inl ⟨by rfl, ?_⟩) ?_ ?_
            rotate_left
            · intro w'
              go_simp
              first | (with_reducible rfl) | rfl
            rotate_left
            · simp only [Act.put, List.setIfInBounds_toArray, List.set_cons_zero, List.set_cons_succ, i64_w, i32_w]
              rfl
            refine take_ (i := 5) (N := some 15) (v := ?_) (a' := ?_) #[true, true, true, true, true, true, false, false, false] rfl rfl (take_ofW HT_.out HW_.out (by kernel_rfl)) (fun _ _ _ h => h) (Or.inl ⟨by rfl, ?_⟩) hHeld ?_ ?_
            rotate_left
            · rintro w' ⟨s0, s1, s2, s3, s4, s5, s6, s7⟩
              go_simp
              first | (with_reducible rfl) | rfl
            rotate_left
            · simp only [Act.put, List.setIfInBounds_toArray, List.set_cons_zero, List.set_cons_succ, i64_w, i32_w]
              rfl
            refine one_ (i := 6) (N := some 16) #[true, true, true, true, true, true, true, false, false] rfl rfl (one_of HT_.out (by kernel_rfl)) (by decide) (fun K hK => ?_)
            refine goes_ Tryd.func40 (by kernel_rfl) rfl #[.int .i64 a0_7] (by rfl) rfl rfl (by (try simp only [List.map_toArray, List.map_cons, List.map_nil]); first | done | rfl | (simp only [List.length_drop, List.length_take]; rfl)) ?_
            with_reducible refine (impl_FormatMeasure.calls k a0_7 t138 _ A7.out).mono ?_
            rintro e w14 ⟨rfl, hb⟩
            refine ⟨_, rfl, ?_⟩
            have n0_ := Aside0.mk (blk_below (g := gb136) (o := .cells #[.string a0_0, .int .i64 a0_1, .string a0_2, .int .i64 a0_3, .int .i64 a0_4, .int .i64 a0_5, .int .i64 a0_6, .int .i64 a0_7] 38 (0, 0)) (by (with_reducible repeat (first | refine blk_drewN ?_ _ | refine blk_drew ?_ | refine blk_alloc ?_ _)); exact BK136.out) hb)
            have n1_ := Aside0.mk (below_step (by repeat (first | (with_reducible first | exact HB.out | apply below_alloc | apply pw_below_drewN | apply below_drew1 | refine below_set ?_ GE136.out) | exact HB.out)) hb)
            clear BK136
            clear HB
            have BK136 := n0_
            have HB := n1_
            clear n0_ n1_
            (try clear hb)
            (try clear hb2)
            (try clear hk)
            (try clear hi)
            refine hK.out _ _ ⟨(blk_cell BK136.out 0).trans rfl, (blk_cell BK136.out 1).trans rfl, (blk_cell BK136.out 2).trans rfl, (blk_cell BK136.out 3).trans rfl, (blk_cell BK136.out 4).trans rfl, (blk_cell BK136.out 5).trans rfl, (blk_cell BK136.out 6).trans rfl, (blk_cell BK136.out 7).trans rfl⟩ (fun hHeld => ?_)
            clear hK K
            refine norm_ (a' := ?_) ?_ ?_
            rotate_left
            · show Act.put _ (some 16) _ = _
              simp only [Act.put, List.setIfInBounds_toArray, List.set_cons_zero, List.set_cons_succ, i64_w, i32_w]
              rfl
            refine pure_ (i := 7) (N := some 17) (v := ?_) (a' := ?_) #[true, true, true, true, true, true, true, true, false] rfl rfl (any_of HT_.out (by kernel_rfl)) (fun _ _ _ h => h) (Or.inl ⟨by rfl, ?_⟩) ?_ ?_
            rotate_left
            · intro w'
              go_simp
              first | (with_reducible rfl) | rfl
            rotate_left
            · simp only [Act.put, List.setIfInBounds_toArray, List.set_cons_zero, List.set_cons_succ, i64_w, i32_w]
              rfl
            refine pure_ (i := 8) (N := some 2) (v := ?_) (a' := ?_) #[true, true, true, true, true, true, true, true, true] rfl rfl (any_of HT_.out (by kernel_rfl)) (fun _ _ _ h => h) (Or.inl ⟨by rfl, ?_⟩) ?_ ?_
            rotate_left
            · intro w'
              go_simp
              first | (with_reducible rfl) | rfl
            rotate_left
            · simp only [Act.put, List.setIfInBounds_toArray, List.set_cons_zero, List.set_cons_succ, i64_w, i32_w]
              rfl
            refine done_ (done_of HT_.out (by kernel_rfl)) ?_
            try go_wp2
            go_ret
            exact ⟨by first | rfl | (simp [errW_none, errW_some] <;> rfl) | (simp [*, errW_none, errW_some] <;> rfl), by repeat (first | (with_reducible first | exact HB.out | apply below_alloc | apply pw_below_drewN | apply below_drew1 | refine below_set ?_ GE136.out) | exact HB.out)⟩
          · rw [if_neg c8] at H
            exact absurd H (by simp)
        · rw [if_neg c6] at H
          exact absurd H (by simp)
      · rw [if_neg c5] at H
        exact absurd H (by simp)
    · rw [if_neg c4] at H
      have c4b0 : (a0_1 == 1) = false := beq_eq_false_iff_ne.mpr c4
      have c4b1 : (a0_1 != 1) = true := bne_iff_ne.mpr c4
      by_cases c15 : a0_1 = 2
      · rw [if_pos c15] at H
        have c15b0 : (a0_1 == 2) = true := beq_iff_eq.mpr c15
        have c15b1 : (a0_1 != 2) = false := bne_eq_false_iff_eq.mpr c15
        clear c15
        by_cases c16 : 7 + a0_0.size ≤ 9223372036854775807
        · rw [if_pos c16] at H
          have c16b0 := eq_true c16
          have c16b1 : decide (7 + a0_0.size ≤ 9223372036854775807) = true := decide_eq_true c16
          try have c16b2 : (9223372036854775807 < 7 + a0_0.size) = False := eq_false (Nat.not_lt.2 c16)
          by_cases c17 : ((⟨#[110, 111, 122, 122, 108, 101, 32]⟩ : ByteArray) ++ a0_0).size + 4 ≤ 9223372036854775807
          · rw [if_pos c17] at H
            have c17b0 := eq_true c17
            have c17b1 : decide (((⟨#[110, 111, 122, 122, 108, 101, 32]⟩ : ByteArray) ++ a0_0).size + 4 ≤ 9223372036854775807) = true := decide_eq_true c17
            try have c17b2 : (9223372036854775807 < ((⟨#[110, 111, 122, 122, 108, 101, 32]⟩ : ByteArray) ++ a0_0).size + 4) = False := eq_false (Nat.not_lt.2 c17)
            try have c17b8 : (7 + a0_0.size + 4 ≤ 9223372036854775807) = True := by have t_ := c17b0; first | (simp only [ByteArray.size_append, Nat.zero_add, Nat.add_zero] at t_; exact t_) | (have t2_ := of_eq_true t_; simp only [ByteArray.size_append] at t2_; exact eq_true (by first | exact t2_ | (have t3_ := t2_; change 0 + _ ≤ _ at t3_; rwa [Nat.zero_add] at t3_) | (change (0 + _) + _ ≤ _ at t2_; rwa [Nat.zero_add] at t2_)))
            try have c17b9 : (9223372036854775807 < 7 + a0_0.size + 4) = False := by have t_ := c17b2; first | (simp only [ByteArray.size_append] at t_; exact t_) | (have t2_ := c17b8; exact eq_false (Nat.not_lt.2 (of_eq_true t2_)))
            by_cases c18 : (((⟨#[110, 111, 122, 122, 108, 101, 32]⟩ : ByteArray) ++ a0_0) ++ (⟨#[32, 111, 110, 32]⟩ : ByteArray)).size + a0_2.size ≤ 9223372036854775807
            · rw [if_pos c18] at H
              have c18b0 := eq_true c18
              have c18b1 : decide ((((⟨#[110, 111, 122, 122, 108, 101, 32]⟩ : ByteArray) ++ a0_0) ++ (⟨#[32, 111, 110, 32]⟩ : ByteArray)).size + a0_2.size ≤ 9223372036854775807) = true := decide_eq_true c18
              try have c18b2 : (9223372036854775807 < (((⟨#[110, 111, 122, 122, 108, 101, 32]⟩ : ByteArray) ++ a0_0) ++ (⟨#[32, 111, 110, 32]⟩ : ByteArray)).size + a0_2.size) = False := eq_false (Nat.not_lt.2 c18)
              try have c18b8 : (7 + a0_0.size + 4 + a0_2.size ≤ 9223372036854775807) = True := by have t_ := c18b0; first | (simp only [ByteArray.size_append, Nat.zero_add, Nat.add_zero] at t_; exact t_) | (have t2_ := of_eq_true t_; simp only [ByteArray.size_append] at t2_; exact eq_true (by first | exact t2_ | (have t3_ := t2_; change 0 + _ ≤ _ at t3_; rwa [Nat.zero_add] at t3_) | (change (0 + _) + _ ≤ _ at t2_; rwa [Nat.zero_add] at t2_)))
              try have c18b9 : (9223372036854775807 < 7 + a0_0.size + 4 + a0_2.size) = False := by have t_ := c18b2; first | (simp only [ByteArray.size_append] at t_; exact t_) | (have t2_ := c18b8; exact eq_false (Nat.not_lt.2 (of_eq_true t2_)))
              by_cases c19 : ((((⟨#[110, 111, 122, 122, 108, 101, 32]⟩ : ByteArray) ++ a0_0) ++ (⟨#[32, 111, 110, 32]⟩ : ByteArray)) ++ a0_2).size + 4 ≤ 9223372036854775807
              · rw [if_pos c19] at H
                have c19b0 := eq_true c19
                have c19b1 : decide (((((⟨#[110, 111, 122, 122, 108, 101, 32]⟩ : ByteArray) ++ a0_0) ++ (⟨#[32, 111, 110, 32]⟩ : ByteArray)) ++ a0_2).size + 4 ≤ 9223372036854775807) = true := decide_eq_true c19
                try have c19b2 : (9223372036854775807 < ((((⟨#[110, 111, 122, 122, 108, 101, 32]⟩ : ByteArray) ++ a0_0) ++ (⟨#[32, 111, 110, 32]⟩ : ByteArray)) ++ a0_2).size + 4) = False := eq_false (Nat.not_lt.2 c19)
                try have c19b8 : (7 + a0_0.size + 4 + a0_2.size + 4 ≤ 9223372036854775807) = True := by have t_ := c19b0; first | (simp only [ByteArray.size_append, Nat.zero_add, Nat.add_zero] at t_; exact t_) | (have t2_ := of_eq_true t_; simp only [ByteArray.size_append] at t2_; exact eq_true (by first | exact t2_ | (have t3_ := t2_; change 0 + _ ≤ _ at t3_; rwa [Nat.zero_add] at t3_) | (change (0 + _) + _ ≤ _ at t2_; rwa [Nat.zero_add] at t2_)))
                try have c19b9 : (9223372036854775807 < 7 + a0_0.size + 4 + a0_2.size + 4) = False := by have t_ := c19b2; first | (simp only [ByteArray.size_append] at t_; exact t_) | (have t2_ := c19b8; exact eq_false (Nat.not_lt.2 (of_eq_true t2_)))
                replace H := Option.bind_eq_some_iff.mp H
                obtain ⟨t139, A200, H⟩ := H
                replace H : (if (((((⟨#[110, 111, 122, 122, 108, 101, 32]⟩ : ByteArray) ++ a0_0) ++ (⟨#[32, 111, 110, 32]⟩ : ByteArray)) ++ a0_2) ++ (⟨#[32, 97, 116, 32]⟩ : ByteArray)).size + t139.size ≤ 9223372036854775807 then (if ((((((⟨#[110, 111, 122, 122, 108, 101, 32]⟩ : ByteArray) ++ a0_0) ++ (⟨#[32, 111, 110, 32]⟩ : ByteArray)) ++ a0_2) ++ (⟨#[32, 97, 116, 32]⟩ : ByteArray)) ++ t139).size + 9 ≤ 9223372036854775807 then ((impl_FormatNumber.f a0_5).bind fun t140 => (if (((((((⟨#[110, 111, 122, 122, 108, 101, 32]⟩ : ByteArray) ++ a0_0) ++ (⟨#[32, 111, 110, 32]⟩ : ByteArray)) ++ a0_2) ++ (⟨#[32, 97, 116, 32]⟩ : ByteArray)) ++ t139) ++ (⟨#[32, 104, 101, 97, 100, 105, 110, 103, 32]⟩ : ByteArray)).size + t140.size ≤ 9223372036854775807 then (if ((((((((⟨#[110, 111, 122, 122, 108, 101, 32]⟩ : ByteArray) ++ a0_0) ++ (⟨#[32, 111, 110, 32]⟩ : ByteArray)) ++ a0_2) ++ (⟨#[32, 97, 116, 32]⟩ : ByteArray)) ++ t139) ++ (⟨#[32, 104, 101, 97, 100, 105, 110, 103, 32]⟩ : ByteArray)) ++ t140).size + 6 ≤ 9223372036854775807 then ((impl_FormatMeasure.f k a0_6).bind fun t141 => (if (((((((((⟨#[110, 111, 122, 122, 108, 101, 32]⟩ : ByteArray) ++ a0_0) ++ (⟨#[32, 111, 110, 32]⟩ : ByteArray)) ++ a0_2) ++ (⟨#[32, 97, 116, 32]⟩ : ByteArray)) ++ t139) ++ (⟨#[32, 104, 101, 97, 100, 105, 110, 103, 32]⟩ : ByteArray)) ++ t140) ++ (⟨#[32, 116, 105, 108, 116, 32]⟩ : ByteArray)).size + t141.size ≤ 9223372036854775807 then (if ((((((((((⟨#[110, 111, 122, 122, 108, 101, 32]⟩ : ByteArray) ++ a0_0) ++ (⟨#[32, 111, 110, 32]⟩ : ByteArray)) ++ a0_2) ++ (⟨#[32, 97, 116, 32]⟩ : ByteArray)) ++ t139) ++ (⟨#[32, 104, 101, 97, 100, 105, 110, 103, 32]⟩ : ByteArray)) ++ t140) ++ (⟨#[32, 116, 105, 108, 116, 32]⟩ : ByteArray)) ++ t141).size + 6 ≤ 9223372036854775807 then ((impl_FormatMeasure.f k a0_7).bind fun t142 => (if (((((((((((⟨#[110, 111, 122, 122, 108, 101, 32]⟩ : ByteArray) ++ a0_0) ++ (⟨#[32, 111, 110, 32]⟩ : ByteArray)) ++ a0_2) ++ (⟨#[32, 97, 116, 32]⟩ : ByteArray)) ++ t139) ++ (⟨#[32, 104, 101, 97, 100, 105, 110, 103, 32]⟩ : ByteArray)) ++ t140) ++ (⟨#[32, 116, 105, 108, 116, 32]⟩ : ByteArray)) ++ t141) ++ (⟨#[32, 109, 111, 115, 116, 32]⟩ : ByteArray)).size + t142.size ≤ 9223372036854775807 then (some ((((((((((((⟨#[110, 111, 122, 122, 108, 101, 32]⟩ : ByteArray) ++ a0_0) ++ (⟨#[32, 111, 110, 32]⟩ : ByteArray)) ++ a0_2) ++ (⟨#[32, 97, 116, 32]⟩ : ByteArray)) ++ t139) ++ (⟨#[32, 104, 101, 97, 100, 105, 110, 103, 32]⟩ : ByteArray)) ++ t140) ++ (⟨#[32, 116, 105, 108, 116, 32]⟩ : ByteArray)) ++ t141) ++ (⟨#[32, 109, 111, 115, 116, 32]⟩ : ByteArray)) ++ t142)) else (none))) else (none)) else (none))) else (none)) else (none))) else (none)) else (none)) = some r := H
                have A20 := Aside0.mk A200
                clear A200
                by_cases c21 : (((((⟨#[110, 111, 122, 122, 108, 101, 32]⟩ : ByteArray) ++ a0_0) ++ (⟨#[32, 111, 110, 32]⟩ : ByteArray)) ++ a0_2) ++ (⟨#[32, 97, 116, 32]⟩ : ByteArray)).size + t139.size ≤ 9223372036854775807
                · rw [if_pos c21] at H
                  have c21b0 := eq_true c21
                  have c21b1 : decide ((((((⟨#[110, 111, 122, 122, 108, 101, 32]⟩ : ByteArray) ++ a0_0) ++ (⟨#[32, 111, 110, 32]⟩ : ByteArray)) ++ a0_2) ++ (⟨#[32, 97, 116, 32]⟩ : ByteArray)).size + t139.size ≤ 9223372036854775807) = true := decide_eq_true c21
                  try have c21b2 : (9223372036854775807 < (((((⟨#[110, 111, 122, 122, 108, 101, 32]⟩ : ByteArray) ++ a0_0) ++ (⟨#[32, 111, 110, 32]⟩ : ByteArray)) ++ a0_2) ++ (⟨#[32, 97, 116, 32]⟩ : ByteArray)).size + t139.size) = False := eq_false (Nat.not_lt.2 c21)
                  try have c21b8 : (7 + a0_0.size + 4 + a0_2.size + 4 + t139.size ≤ 9223372036854775807) = True := by have t_ := c21b0; first | (simp only [ByteArray.size_append, Nat.zero_add, Nat.add_zero] at t_; exact t_) | (have t2_ := of_eq_true t_; simp only [ByteArray.size_append] at t2_; exact eq_true (by first | exact t2_ | (have t3_ := t2_; change 0 + _ ≤ _ at t3_; rwa [Nat.zero_add] at t3_) | (change (0 + _) + _ ≤ _ at t2_; rwa [Nat.zero_add] at t2_)))
                  try have c21b9 : (9223372036854775807 < 7 + a0_0.size + 4 + a0_2.size + 4 + t139.size) = False := by have t_ := c21b2; first | (simp only [ByteArray.size_append] at t_; exact t_) | (have t2_ := c21b8; exact eq_false (Nat.not_lt.2 (of_eq_true t2_)))
                  by_cases c22 : ((((((⟨#[110, 111, 122, 122, 108, 101, 32]⟩ : ByteArray) ++ a0_0) ++ (⟨#[32, 111, 110, 32]⟩ : ByteArray)) ++ a0_2) ++ (⟨#[32, 97, 116, 32]⟩ : ByteArray)) ++ t139).size + 9 ≤ 9223372036854775807
                  · rw [if_pos c22] at H
                    have c22b0 := eq_true c22
                    have c22b1 : decide (((((((⟨#[110, 111, 122, 122, 108, 101, 32]⟩ : ByteArray) ++ a0_0) ++ (⟨#[32, 111, 110, 32]⟩ : ByteArray)) ++ a0_2) ++ (⟨#[32, 97, 116, 32]⟩ : ByteArray)) ++ t139).size + 9 ≤ 9223372036854775807) = true := decide_eq_true c22
                    try have c22b2 : (9223372036854775807 < ((((((⟨#[110, 111, 122, 122, 108, 101, 32]⟩ : ByteArray) ++ a0_0) ++ (⟨#[32, 111, 110, 32]⟩ : ByteArray)) ++ a0_2) ++ (⟨#[32, 97, 116, 32]⟩ : ByteArray)) ++ t139).size + 9) = False := eq_false (Nat.not_lt.2 c22)
                    try have c22b8 : (7 + a0_0.size + 4 + a0_2.size + 4 + t139.size + 9 ≤ 9223372036854775807) = True := by have t_ := c22b0; first | (simp only [ByteArray.size_append, Nat.zero_add, Nat.add_zero] at t_; exact t_) | (have t2_ := of_eq_true t_; simp only [ByteArray.size_append] at t2_; exact eq_true (by first | exact t2_ | (have t3_ := t2_; change 0 + _ ≤ _ at t3_; rwa [Nat.zero_add] at t3_) | (change (0 + _) + _ ≤ _ at t2_; rwa [Nat.zero_add] at t2_)))
                    try have c22b9 : (9223372036854775807 < 7 + a0_0.size + 4 + a0_2.size + 4 + t139.size + 9) = False := by have t_ := c22b2; first | (simp only [ByteArray.size_append] at t_; exact t_) | (have t2_ := c22b8; exact eq_false (Nat.not_lt.2 (of_eq_true t2_)))
                    replace H := Option.bind_eq_some_iff.mp H
                    obtain ⟨t140, A230, H⟩ := H
                    replace H : (if (((((((⟨#[110, 111, 122, 122, 108, 101, 32]⟩ : ByteArray) ++ a0_0) ++ (⟨#[32, 111, 110, 32]⟩ : ByteArray)) ++ a0_2) ++ (⟨#[32, 97, 116, 32]⟩ : ByteArray)) ++ t139) ++ (⟨#[32, 104, 101, 97, 100, 105, 110, 103, 32]⟩ : ByteArray)).size + t140.size ≤ 9223372036854775807 then (if ((((((((⟨#[110, 111, 122, 122, 108, 101, 32]⟩ : ByteArray) ++ a0_0) ++ (⟨#[32, 111, 110, 32]⟩ : ByteArray)) ++ a0_2) ++ (⟨#[32, 97, 116, 32]⟩ : ByteArray)) ++ t139) ++ (⟨#[32, 104, 101, 97, 100, 105, 110, 103, 32]⟩ : ByteArray)) ++ t140).size + 6 ≤ 9223372036854775807 then ((impl_FormatMeasure.f k a0_6).bind fun t141 => (if (((((((((⟨#[110, 111, 122, 122, 108, 101, 32]⟩ : ByteArray) ++ a0_0) ++ (⟨#[32, 111, 110, 32]⟩ : ByteArray)) ++ a0_2) ++ (⟨#[32, 97, 116, 32]⟩ : ByteArray)) ++ t139) ++ (⟨#[32, 104, 101, 97, 100, 105, 110, 103, 32]⟩ : ByteArray)) ++ t140) ++ (⟨#[32, 116, 105, 108, 116, 32]⟩ : ByteArray)).size + t141.size ≤ 9223372036854775807 then (if ((((((((((⟨#[110, 111, 122, 122, 108, 101, 32]⟩ : ByteArray) ++ a0_0) ++ (⟨#[32, 111, 110, 32]⟩ : ByteArray)) ++ a0_2) ++ (⟨#[32, 97, 116, 32]⟩ : ByteArray)) ++ t139) ++ (⟨#[32, 104, 101, 97, 100, 105, 110, 103, 32]⟩ : ByteArray)) ++ t140) ++ (⟨#[32, 116, 105, 108, 116, 32]⟩ : ByteArray)) ++ t141).size + 6 ≤ 9223372036854775807 then ((impl_FormatMeasure.f k a0_7).bind fun t142 => (if (((((((((((⟨#[110, 111, 122, 122, 108, 101, 32]⟩ : ByteArray) ++ a0_0) ++ (⟨#[32, 111, 110, 32]⟩ : ByteArray)) ++ a0_2) ++ (⟨#[32, 97, 116, 32]⟩ : ByteArray)) ++ t139) ++ (⟨#[32, 104, 101, 97, 100, 105, 110, 103, 32]⟩ : ByteArray)) ++ t140) ++ (⟨#[32, 116, 105, 108, 116, 32]⟩ : ByteArray)) ++ t141) ++ (⟨#[32, 109, 111, 115, 116, 32]⟩ : ByteArray)).size + t142.size ≤ 9223372036854775807 then (some ((((((((((((⟨#[110, 111, 122, 122, 108, 101, 32]⟩ : ByteArray) ++ a0_0) ++ (⟨#[32, 111, 110, 32]⟩ : ByteArray)) ++ a0_2) ++ (⟨#[32, 97, 116, 32]⟩ : ByteArray)) ++ t139) ++ (⟨#[32, 104, 101, 97, 100, 105, 110, 103, 32]⟩ : ByteArray)) ++ t140) ++ (⟨#[32, 116, 105, 108, 116, 32]⟩ : ByteArray)) ++ t141) ++ (⟨#[32, 109, 111, 115, 116, 32]⟩ : ByteArray)) ++ t142)) else (none))) else (none)) else (none))) else (none)) else (none)) = some r := H
                    have A23 := Aside0.mk A230
                    clear A230
                    by_cases c24 : (((((((⟨#[110, 111, 122, 122, 108, 101, 32]⟩ : ByteArray) ++ a0_0) ++ (⟨#[32, 111, 110, 32]⟩ : ByteArray)) ++ a0_2) ++ (⟨#[32, 97, 116, 32]⟩ : ByteArray)) ++ t139) ++ (⟨#[32, 104, 101, 97, 100, 105, 110, 103, 32]⟩ : ByteArray)).size + t140.size ≤ 9223372036854775807
                    · rw [if_pos c24] at H
                      have c24b0 := eq_true c24
                      have c24b1 : decide ((((((((⟨#[110, 111, 122, 122, 108, 101, 32]⟩ : ByteArray) ++ a0_0) ++ (⟨#[32, 111, 110, 32]⟩ : ByteArray)) ++ a0_2) ++ (⟨#[32, 97, 116, 32]⟩ : ByteArray)) ++ t139) ++ (⟨#[32, 104, 101, 97, 100, 105, 110, 103, 32]⟩ : ByteArray)).size + t140.size ≤ 9223372036854775807) = true := decide_eq_true c24
                      try have c24b2 : (9223372036854775807 < (((((((⟨#[110, 111, 122, 122, 108, 101, 32]⟩ : ByteArray) ++ a0_0) ++ (⟨#[32, 111, 110, 32]⟩ : ByteArray)) ++ a0_2) ++ (⟨#[32, 97, 116, 32]⟩ : ByteArray)) ++ t139) ++ (⟨#[32, 104, 101, 97, 100, 105, 110, 103, 32]⟩ : ByteArray)).size + t140.size) = False := eq_false (Nat.not_lt.2 c24)
                      try have c24b8 : (7 + a0_0.size + 4 + a0_2.size + 4 + t139.size + 9 + t140.size ≤ 9223372036854775807) = True := by have t_ := c24b0; first | (simp only [ByteArray.size_append, Nat.zero_add, Nat.add_zero] at t_; exact t_) | (have t2_ := of_eq_true t_; simp only [ByteArray.size_append] at t2_; exact eq_true (by first | exact t2_ | (have t3_ := t2_; change 0 + _ ≤ _ at t3_; rwa [Nat.zero_add] at t3_) | (change (0 + _) + _ ≤ _ at t2_; rwa [Nat.zero_add] at t2_)))
                      try have c24b9 : (9223372036854775807 < 7 + a0_0.size + 4 + a0_2.size + 4 + t139.size + 9 + t140.size) = False := by have t_ := c24b2; first | (simp only [ByteArray.size_append] at t_; exact t_) | (have t2_ := c24b8; exact eq_false (Nat.not_lt.2 (of_eq_true t2_)))
                      by_cases c25 : ((((((((⟨#[110, 111, 122, 122, 108, 101, 32]⟩ : ByteArray) ++ a0_0) ++ (⟨#[32, 111, 110, 32]⟩ : ByteArray)) ++ a0_2) ++ (⟨#[32, 97, 116, 32]⟩ : ByteArray)) ++ t139) ++ (⟨#[32, 104, 101, 97, 100, 105, 110, 103, 32]⟩ : ByteArray)) ++ t140).size + 6 ≤ 9223372036854775807
                      · rw [if_pos c25] at H
                        have c25b0 := eq_true c25
                        have c25b1 : decide (((((((((⟨#[110, 111, 122, 122, 108, 101, 32]⟩ : ByteArray) ++ a0_0) ++ (⟨#[32, 111, 110, 32]⟩ : ByteArray)) ++ a0_2) ++ (⟨#[32, 97, 116, 32]⟩ : ByteArray)) ++ t139) ++ (⟨#[32, 104, 101, 97, 100, 105, 110, 103, 32]⟩ : ByteArray)) ++ t140).size + 6 ≤ 9223372036854775807) = true := decide_eq_true c25
                        try have c25b2 : (9223372036854775807 < ((((((((⟨#[110, 111, 122, 122, 108, 101, 32]⟩ : ByteArray) ++ a0_0) ++ (⟨#[32, 111, 110, 32]⟩ : ByteArray)) ++ a0_2) ++ (⟨#[32, 97, 116, 32]⟩ : ByteArray)) ++ t139) ++ (⟨#[32, 104, 101, 97, 100, 105, 110, 103, 32]⟩ : ByteArray)) ++ t140).size + 6) = False := eq_false (Nat.not_lt.2 c25)
                        try have c25b8 : (7 + a0_0.size + 4 + a0_2.size + 4 + t139.size + 9 + t140.size + 6 ≤ 9223372036854775807) = True := by have t_ := c25b0; first | (simp only [ByteArray.size_append, Nat.zero_add, Nat.add_zero] at t_; exact t_) | (have t2_ := of_eq_true t_; simp only [ByteArray.size_append] at t2_; exact eq_true (by first | exact t2_ | (have t3_ := t2_; change 0 + _ ≤ _ at t3_; rwa [Nat.zero_add] at t3_) | (change (0 + _) + _ ≤ _ at t2_; rwa [Nat.zero_add] at t2_)))
                        try have c25b9 : (9223372036854775807 < 7 + a0_0.size + 4 + a0_2.size + 4 + t139.size + 9 + t140.size + 6) = False := by have t_ := c25b2; first | (simp only [ByteArray.size_append] at t_; exact t_) | (have t2_ := c25b8; exact eq_false (Nat.not_lt.2 (of_eq_true t2_)))
                        replace H := Option.bind_eq_some_iff.mp H
                        obtain ⟨t141, A260, H⟩ := H
                        replace H : (if (((((((((⟨#[110, 111, 122, 122, 108, 101, 32]⟩ : ByteArray) ++ a0_0) ++ (⟨#[32, 111, 110, 32]⟩ : ByteArray)) ++ a0_2) ++ (⟨#[32, 97, 116, 32]⟩ : ByteArray)) ++ t139) ++ (⟨#[32, 104, 101, 97, 100, 105, 110, 103, 32]⟩ : ByteArray)) ++ t140) ++ (⟨#[32, 116, 105, 108, 116, 32]⟩ : ByteArray)).size + t141.size ≤ 9223372036854775807 then (if ((((((((((⟨#[110, 111, 122, 122, 108, 101, 32]⟩ : ByteArray) ++ a0_0) ++ (⟨#[32, 111, 110, 32]⟩ : ByteArray)) ++ a0_2) ++ (⟨#[32, 97, 116, 32]⟩ : ByteArray)) ++ t139) ++ (⟨#[32, 104, 101, 97, 100, 105, 110, 103, 32]⟩ : ByteArray)) ++ t140) ++ (⟨#[32, 116, 105, 108, 116, 32]⟩ : ByteArray)) ++ t141).size + 6 ≤ 9223372036854775807 then ((impl_FormatMeasure.f k a0_7).bind fun t142 => (if (((((((((((⟨#[110, 111, 122, 122, 108, 101, 32]⟩ : ByteArray) ++ a0_0) ++ (⟨#[32, 111, 110, 32]⟩ : ByteArray)) ++ a0_2) ++ (⟨#[32, 97, 116, 32]⟩ : ByteArray)) ++ t139) ++ (⟨#[32, 104, 101, 97, 100, 105, 110, 103, 32]⟩ : ByteArray)) ++ t140) ++ (⟨#[32, 116, 105, 108, 116, 32]⟩ : ByteArray)) ++ t141) ++ (⟨#[32, 109, 111, 115, 116, 32]⟩ : ByteArray)).size + t142.size ≤ 9223372036854775807 then (some ((((((((((((⟨#[110, 111, 122, 122, 108, 101, 32]⟩ : ByteArray) ++ a0_0) ++ (⟨#[32, 111, 110, 32]⟩ : ByteArray)) ++ a0_2) ++ (⟨#[32, 97, 116, 32]⟩ : ByteArray)) ++ t139) ++ (⟨#[32, 104, 101, 97, 100, 105, 110, 103, 32]⟩ : ByteArray)) ++ t140) ++ (⟨#[32, 116, 105, 108, 116, 32]⟩ : ByteArray)) ++ t141) ++ (⟨#[32, 109, 111, 115, 116, 32]⟩ : ByteArray)) ++ t142)) else (none))) else (none)) else (none)) = some r := H
                        have A26 := Aside0.mk A260
                        clear A260
                        by_cases c27 : (((((((((⟨#[110, 111, 122, 122, 108, 101, 32]⟩ : ByteArray) ++ a0_0) ++ (⟨#[32, 111, 110, 32]⟩ : ByteArray)) ++ a0_2) ++ (⟨#[32, 97, 116, 32]⟩ : ByteArray)) ++ t139) ++ (⟨#[32, 104, 101, 97, 100, 105, 110, 103, 32]⟩ : ByteArray)) ++ t140) ++ (⟨#[32, 116, 105, 108, 116, 32]⟩ : ByteArray)).size + t141.size ≤ 9223372036854775807
                        · rw [if_pos c27] at H
                          have c27b0 := eq_true c27
                          have c27b1 : decide ((((((((((⟨#[110, 111, 122, 122, 108, 101, 32]⟩ : ByteArray) ++ a0_0) ++ (⟨#[32, 111, 110, 32]⟩ : ByteArray)) ++ a0_2) ++ (⟨#[32, 97, 116, 32]⟩ : ByteArray)) ++ t139) ++ (⟨#[32, 104, 101, 97, 100, 105, 110, 103, 32]⟩ : ByteArray)) ++ t140) ++ (⟨#[32, 116, 105, 108, 116, 32]⟩ : ByteArray)).size + t141.size ≤ 9223372036854775807) = true := decide_eq_true c27
                          try have c27b2 : (9223372036854775807 < (((((((((⟨#[110, 111, 122, 122, 108, 101, 32]⟩ : ByteArray) ++ a0_0) ++ (⟨#[32, 111, 110, 32]⟩ : ByteArray)) ++ a0_2) ++ (⟨#[32, 97, 116, 32]⟩ : ByteArray)) ++ t139) ++ (⟨#[32, 104, 101, 97, 100, 105, 110, 103, 32]⟩ : ByteArray)) ++ t140) ++ (⟨#[32, 116, 105, 108, 116, 32]⟩ : ByteArray)).size + t141.size) = False := eq_false (Nat.not_lt.2 c27)
                          try have c27b8 : (7 + a0_0.size + 4 + a0_2.size + 4 + t139.size + 9 + t140.size + 6 + t141.size ≤ 9223372036854775807) = True := by have t_ := c27b0; first | (simp only [ByteArray.size_append, Nat.zero_add, Nat.add_zero] at t_; exact t_) | (have t2_ := of_eq_true t_; simp only [ByteArray.size_append] at t2_; exact eq_true (by first | exact t2_ | (have t3_ := t2_; change 0 + _ ≤ _ at t3_; rwa [Nat.zero_add] at t3_) | (change (0 + _) + _ ≤ _ at t2_; rwa [Nat.zero_add] at t2_)))
                          try have c27b9 : (9223372036854775807 < 7 + a0_0.size + 4 + a0_2.size + 4 + t139.size + 9 + t140.size + 6 + t141.size) = False := by have t_ := c27b2; first | (simp only [ByteArray.size_append] at t_; exact t_) | (have t2_ := c27b8; exact eq_false (Nat.not_lt.2 (of_eq_true t2_)))
                          by_cases c28 : ((((((((((⟨#[110, 111, 122, 122, 108, 101, 32]⟩ : ByteArray) ++ a0_0) ++ (⟨#[32, 111, 110, 32]⟩ : ByteArray)) ++ a0_2) ++ (⟨#[32, 97, 116, 32]⟩ : ByteArray)) ++ t139) ++ (⟨#[32, 104, 101, 97, 100, 105, 110, 103, 32]⟩ : ByteArray)) ++ t140) ++ (⟨#[32, 116, 105, 108, 116, 32]⟩ : ByteArray)) ++ t141).size + 6 ≤ 9223372036854775807
                          · rw [if_pos c28] at H
                            have c28b0 := eq_true c28
                            have c28b1 : decide (((((((((((⟨#[110, 111, 122, 122, 108, 101, 32]⟩ : ByteArray) ++ a0_0) ++ (⟨#[32, 111, 110, 32]⟩ : ByteArray)) ++ a0_2) ++ (⟨#[32, 97, 116, 32]⟩ : ByteArray)) ++ t139) ++ (⟨#[32, 104, 101, 97, 100, 105, 110, 103, 32]⟩ : ByteArray)) ++ t140) ++ (⟨#[32, 116, 105, 108, 116, 32]⟩ : ByteArray)) ++ t141).size + 6 ≤ 9223372036854775807) = true := decide_eq_true c28
                            try have c28b2 : (9223372036854775807 < ((((((((((⟨#[110, 111, 122, 122, 108, 101, 32]⟩ : ByteArray) ++ a0_0) ++ (⟨#[32, 111, 110, 32]⟩ : ByteArray)) ++ a0_2) ++ (⟨#[32, 97, 116, 32]⟩ : ByteArray)) ++ t139) ++ (⟨#[32, 104, 101, 97, 100, 105, 110, 103, 32]⟩ : ByteArray)) ++ t140) ++ (⟨#[32, 116, 105, 108, 116, 32]⟩ : ByteArray)) ++ t141).size + 6) = False := eq_false (Nat.not_lt.2 c28)
                            try have c28b8 : (7 + a0_0.size + 4 + a0_2.size + 4 + t139.size + 9 + t140.size + 6 + t141.size + 6 ≤ 9223372036854775807) = True := by have t_ := c28b0; first | (simp only [ByteArray.size_append, Nat.zero_add, Nat.add_zero] at t_; exact t_) | (have t2_ := of_eq_true t_; simp only [ByteArray.size_append] at t2_; exact eq_true (by first | exact t2_ | (have t3_ := t2_; change 0 + _ ≤ _ at t3_; rwa [Nat.zero_add] at t3_) | (change (0 + _) + _ ≤ _ at t2_; rwa [Nat.zero_add] at t2_)))
                            try have c28b9 : (9223372036854775807 < 7 + a0_0.size + 4 + a0_2.size + 4 + t139.size + 9 + t140.size + 6 + t141.size + 6) = False := by have t_ := c28b2; first | (simp only [ByteArray.size_append] at t_; exact t_) | (have t2_ := c28b8; exact eq_false (Nat.not_lt.2 (of_eq_true t2_)))
                            replace H := Option.bind_eq_some_iff.mp H
                            obtain ⟨t142, A290, H⟩ := H
                            replace H : (if (((((((((((⟨#[110, 111, 122, 122, 108, 101, 32]⟩ : ByteArray) ++ a0_0) ++ (⟨#[32, 111, 110, 32]⟩ : ByteArray)) ++ a0_2) ++ (⟨#[32, 97, 116, 32]⟩ : ByteArray)) ++ t139) ++ (⟨#[32, 104, 101, 97, 100, 105, 110, 103, 32]⟩ : ByteArray)) ++ t140) ++ (⟨#[32, 116, 105, 108, 116, 32]⟩ : ByteArray)) ++ t141) ++ (⟨#[32, 109, 111, 115, 116, 32]⟩ : ByteArray)).size + t142.size ≤ 9223372036854775807 then (some ((((((((((((⟨#[110, 111, 122, 122, 108, 101, 32]⟩ : ByteArray) ++ a0_0) ++ (⟨#[32, 111, 110, 32]⟩ : ByteArray)) ++ a0_2) ++ (⟨#[32, 97, 116, 32]⟩ : ByteArray)) ++ t139) ++ (⟨#[32, 104, 101, 97, 100, 105, 110, 103, 32]⟩ : ByteArray)) ++ t140) ++ (⟨#[32, 116, 105, 108, 116, 32]⟩ : ByteArray)) ++ t141) ++ (⟨#[32, 109, 111, 115, 116, 32]⟩ : ByteArray)) ++ t142)) else (none)) = some r := H
                            have A29 := Aside0.mk A290
                            clear A290
                            by_cases c30 : (((((((((((⟨#[110, 111, 122, 122, 108, 101, 32]⟩ : ByteArray) ++ a0_0) ++ (⟨#[32, 111, 110, 32]⟩ : ByteArray)) ++ a0_2) ++ (⟨#[32, 97, 116, 32]⟩ : ByteArray)) ++ t139) ++ (⟨#[32, 104, 101, 97, 100, 105, 110, 103, 32]⟩ : ByteArray)) ++ t140) ++ (⟨#[32, 116, 105, 108, 116, 32]⟩ : ByteArray)) ++ t141) ++ (⟨#[32, 109, 111, 115, 116, 32]⟩ : ByteArray)).size + t142.size ≤ 9223372036854775807
                            · rw [if_pos c30] at H
                              have c30b0 := eq_true c30
                              have c30b1 : decide ((((((((((((⟨#[110, 111, 122, 122, 108, 101, 32]⟩ : ByteArray) ++ a0_0) ++ (⟨#[32, 111, 110, 32]⟩ : ByteArray)) ++ a0_2) ++ (⟨#[32, 97, 116, 32]⟩ : ByteArray)) ++ t139) ++ (⟨#[32, 104, 101, 97, 100, 105, 110, 103, 32]⟩ : ByteArray)) ++ t140) ++ (⟨#[32, 116, 105, 108, 116, 32]⟩ : ByteArray)) ++ t141) ++ (⟨#[32, 109, 111, 115, 116, 32]⟩ : ByteArray)).size + t142.size ≤ 9223372036854775807) = true := decide_eq_true c30
                              try have c30b2 : (9223372036854775807 < (((((((((((⟨#[110, 111, 122, 122, 108, 101, 32]⟩ : ByteArray) ++ a0_0) ++ (⟨#[32, 111, 110, 32]⟩ : ByteArray)) ++ a0_2) ++ (⟨#[32, 97, 116, 32]⟩ : ByteArray)) ++ t139) ++ (⟨#[32, 104, 101, 97, 100, 105, 110, 103, 32]⟩ : ByteArray)) ++ t140) ++ (⟨#[32, 116, 105, 108, 116, 32]⟩ : ByteArray)) ++ t141) ++ (⟨#[32, 109, 111, 115, 116, 32]⟩ : ByteArray)).size + t142.size) = False := eq_false (Nat.not_lt.2 c30)
                              try have c30b8 : (7 + a0_0.size + 4 + a0_2.size + 4 + t139.size + 9 + t140.size + 6 + t141.size + 6 + t142.size ≤ 9223372036854775807) = True := by have t_ := c30b0; first | (simp only [ByteArray.size_append, Nat.zero_add, Nat.add_zero] at t_; exact t_) | (have t2_ := of_eq_true t_; simp only [ByteArray.size_append] at t2_; exact eq_true (by first | exact t2_ | (have t3_ := t2_; change 0 + _ ≤ _ at t3_; rwa [Nat.zero_add] at t3_) | (change (0 + _) + _ ≤ _ at t2_; rwa [Nat.zero_add] at t2_)))
                              try have c30b9 : (9223372036854775807 < 7 + a0_0.size + 4 + a0_2.size + 4 + t139.size + 9 + t140.size + 6 + t141.size + 6 + t142.size) = False := by have t_ := c30b2; first | (simp only [ByteArray.size_append] at t_; exact t_) | (have t2_ := c30b8; exact eq_false (Nat.not_lt.2 (of_eq_true t2_)))
                              obtain rfl := Option.some.inj H
                              go_enter Tryd.func20, Tryd.ntmps20
                              try go_wp2_with (first | ((with_reducible refine gate_dst (N := 1) rfl ?_); refine box_event ?hg (N := 1) ?hd (cs := #[.string a0_0, .int .i64 a0_1, .string a0_2, .int .i64 a0_3, .int .i64 a0_4, .int .i64 a0_5, .int .i64 a0_6, .int .i64 a0_7]) (t := 38) ?hr ?_; (case hd => rfl); (case hg => rfl); (case hr => first | (go_simp; done) | (go_simp; rfl)); intro gb136 hg w31 hbox hb; have n0_ := Aside0.mk (below_step (by repeat (first | (with_reducible first | exact HB.out | apply below_alloc | apply pw_below_drewN | apply below_drew1) | exact HB.out)) hb); have n1_ := Aside0.mk (hbox); have n2_ := Aside0.mk ((by rw [hg]; exact (below_size (by repeat (first | (with_reducible first | exact HB.out | apply below_alloc | apply pw_below_drewN | apply below_drew1) | exact HB.out))) : w.heap.size ≤ gb136)); have n3_ := Aside0.mk ((by rw [hg]; exact (below_size (by repeat (first | (with_reducible first | exact HB.out | apply below_alloc | apply pw_below_drewN | apply below_drew1) | exact HB.out))) : w.heap.size ≤ gb136)); clear HB; have HB := n0_; have BK136 := n1_; have GW136 := n2_; have GE136 := n3_; clear n0_ n1_ n2_ n3_; clear hb hbox hg; have hcz32_0 : w31.cell? ⟨gb136, 0, none⟩ = some (.string a0_0) := (blk_cell BK136.out 0).trans rfl; have hcz32_1 : w31.cell? ⟨gb136, 1, none⟩ = some (.int .i64 a0_1) := (blk_cell BK136.out 1).trans rfl; have hcz32_2 : w31.cell? ⟨gb136, 2, none⟩ = some (.string a0_2) := (blk_cell BK136.out 2).trans rfl; have hcz32_3 : w31.cell? ⟨gb136, 3, none⟩ = some (.int .i64 a0_3) := (blk_cell BK136.out 3).trans rfl; have hcz32_4 : w31.cell? ⟨gb136, 4, none⟩ = some (.int .i64 a0_4) := (blk_cell BK136.out 4).trans rfl; have hcz32_5 : w31.cell? ⟨gb136, 5, none⟩ = some (.int .i64 a0_5) := (blk_cell BK136.out 5).trans rfl; have hcz32_6 : w31.cell? ⟨gb136, 6, none⟩ = some (.int .i64 a0_6) := (blk_cell BK136.out 6).trans rfl; have hcz32_7 : w31.cell? ⟨gb136, 7, none⟩ = some (.int .i64 a0_7) := (blk_cell BK136.out 7).trans rfl; have hfz32_0 := blk_frozen BK136.out 0; have hfz32_1 := blk_frozen BK136.out 1; have hfz32_2 := blk_frozen BK136.out 2; have hfz32_3 := blk_frozen BK136.out 3; have hfz32_4 := blk_frozen BK136.out 4; have hfz32_5 := blk_frozen BK136.out 5; have hfz32_6 := blk_frozen BK136.out 6; have hfz32_7 := blk_frozen BK136.out 7) | ((with_reducible refine gate_callee (f := 21) rfl ?_); refine goesL_ (some 4) rfl rfl Tryd.func21 (by kernel_rfl) rfl #[.agg #[.string a0_0, .int .i64 a0_1, .string a0_2, .int .i64 a0_3, .int .i64 a0_4, .int .i64 a0_5, .int .i64 a0_6, .int .i64 a0_7]] rfl (by (try simp only [List.map_toArray, List.map_cons, List.map_nil]); first | done | rfl | (simp only [List.length_drop, List.length_take]; rfl)) ?_; (with_reducible refine (impl_IsDevice.calls k a0_0 a0_1 a0_2 a0_3 a0_4 a0_5 a0_6 a0_7 true _ A2.out).mono ?_); rintro e w33 ⟨rfl, hb⟩; refine ⟨_, rfl, ?_⟩; have n0_ := Aside0.mk (blk_below (g := gb136) (o := .cells #[.string a0_0, .int .i64 a0_1, .string a0_2, .int .i64 a0_3, .int .i64 a0_4, .int .i64 a0_5, .int .i64 a0_6, .int .i64 a0_7] 38 (0, 0)) (by (with_reducible repeat (first | refine blk_drewN ?_ _ | refine blk_drew ?_ | refine blk_alloc ?_ _)); exact BK136.out) hb); have n1_ := Aside0.mk (below_step (by repeat (first | (with_reducible first | exact HB.out | apply below_alloc | apply pw_below_drewN | apply below_drew1 | refine below_set ?_ GE136.out) | exact HB.out)) hb); clear BK136; clear HB; have BK136 := n0_; have HB := n1_; clear n0_ n1_; (try clear hb); (try clear hb2); (try clear hk); (try clear hi); have hcz34_0 : w33.cell? ⟨gb136, 0, none⟩ = some (.string a0_0) := (blk_cell BK136.out 0).trans rfl; have hcz34_1 : w33.cell? ⟨gb136, 1, none⟩ = some (.int .i64 a0_1) := (blk_cell BK136.out 1).trans rfl; have hcz34_2 : w33.cell? ⟨gb136, 2, none⟩ = some (.string a0_2) := (blk_cell BK136.out 2).trans rfl; have hcz34_3 : w33.cell? ⟨gb136, 3, none⟩ = some (.int .i64 a0_3) := (blk_cell BK136.out 3).trans rfl; have hcz34_4 : w33.cell? ⟨gb136, 4, none⟩ = some (.int .i64 a0_4) := (blk_cell BK136.out 4).trans rfl; have hcz34_5 : w33.cell? ⟨gb136, 5, none⟩ = some (.int .i64 a0_5) := (blk_cell BK136.out 5).trans rfl; have hcz34_6 : w33.cell? ⟨gb136, 6, none⟩ = some (.int .i64 a0_6) := (blk_cell BK136.out 6).trans rfl; have hcz34_7 : w33.cell? ⟨gb136, 7, none⟩ = some (.int .i64 a0_7) := (blk_cell BK136.out 7).trans rfl; have hfz34_0 := blk_frozen BK136.out 0; have hfz34_1 := blk_frozen BK136.out 1; have hfz34_2 := blk_frozen BK136.out 2; have hfz34_3 := blk_frozen BK136.out 3; have hfz34_4 := blk_frozen BK136.out 4; have hfz34_5 := blk_frozen BK136.out 5; have hfz34_6 := blk_frozen BK136.out 6; have hfz34_7 := blk_frozen BK136.out 7))
                              have n0_ := Aside0.mk (blk_drew BK136.out)
                              have n1_ := Aside0.mk (below_drew1 HB.out)
                              clear BK136
                              clear HB
                              have BK136 := n0_
                              have HB := n1_
                              clear n0_ n1_
                              refine start_ (n := 28) (S := fun w' => w'.cell? ⟨gb136, 0, none⟩ = some (.string a0_0) ∧ w'.cell? ⟨gb136, 1, none⟩ = some (.int .i64 a0_1) ∧ w'.cell? ⟨gb136, 2, none⟩ = some (.string a0_2) ∧ w'.cell? ⟨gb136, 3, none⟩ = some (.int .i64 a0_3) ∧ w'.cell? ⟨gb136, 4, none⟩ = some (.int .i64 a0_4) ∧ w'.cell? ⟨gb136, 5, none⟩ = some (.int .i64 a0_5) ∧ w'.cell? ⟨gb136, 6, none⟩ = some (.int .i64 a0_6) ∧ w'.cell? ⟨gb136, 7, none⟩ = some (.int .i64 a0_7)) (ds := []) #[false, false, false, false, false, false, false, false, false, false, false, false, false, false, false, false, false, false, false, false, false, false, false, false, false, false, false, false] (by kernel_rfl) rfl rfl ⟨(blk_cell BK136.out 0).trans rfl, (blk_cell BK136.out 1).trans rfl, (blk_cell BK136.out 2).trans rfl, (blk_cell BK136.out 3).trans rfl, (blk_cell BK136.out 4).trans rfl, (blk_cell BK136.out 5).trans rfl, (blk_cell BK136.out 6).trans rfl, (blk_cell BK136.out 7).trans rfl⟩ (fun hHeld => ?_); refine with_tabW impl_FormatDevice.tab7 impl_FormatDevice.bits7 (fun HT_ HW_ => ?_)
                              generalize w33.drew = w35 at BK136 HB hHeld ⊢
                              refine pure_ (i := 0) (N := some 20) (v := ?_) (a' := ?_) #[true, false, false, false, false, false, false, false, false, false, false, false, false, false, false, false, false, false, false, false, false, false, false, false, false, false, false, false] rfl rfl (any_of HT_.out (by kernel_rfl)) (fun _ _ _ h => h) (Or.inl ⟨by rfl, ?_⟩) ?_ ?_
                              rotate_left
                              · intro w'
                                go_simp
                                first | (with_reducible rfl) | rfl
                              rotate_left
                              · simp only [Act.put, List.setIfInBounds_toArray, List.set_cons_zero, List.set_cons_succ, i64_w, i32_w]
                                rfl
                              refine pure_ (i := 4) (N := some 24) (v := ?_) (a' := ?_) #[true, false, false, false, true, false, false, false, false, false, false, false, false, false, false, false, false, false, false, false, false, false, false, false, false, false, false, false] rfl rfl (any_of HT_.out (by kernel_rfl)) (fun _ _ _ h => h) (Or.inl ⟨by rfl, ?_⟩) ?_ ?_
                              rotate_left
                              · intro w'
                                go_simp
                                first | (with_reducible rfl) | rfl
                              rotate_left
                              · simp only [Act.put, List.setIfInBounds_toArray, List.set_cons_zero, List.set_cons_succ, i64_w, i32_w]
                                rfl
                              refine pure_ (i := 8) (N := some 28) (v := ?_) (a' := ?_) #[true, false, false, false, true, false, false, false, true, false, false, false, false, false, false, false, false, false, false, false, false, false, false, false, false, false, false, false] rfl rfl (any_of HT_.out (by kernel_rfl)) (fun _ _ _ h => h) (Or.inl ⟨by rfl, ?_⟩) ?_ ?_
                              rotate_left
                              · intro w'
                                go_simp
                                first | (with_reducible rfl) | rfl
                              rotate_left
                              · simp only [Act.put, List.setIfInBounds_toArray, List.set_cons_zero, List.set_cons_succ, i64_w, i32_w]
                                rfl
                              refine pure_ (i := 13) (N := some 33) (v := ?_) (a' := ?_) #[true, false, false, false, true, false, false, false, true, false, false, false, false, true, false, false, false, false, false, false, false, false, false, false, false, false, false, false] rfl rfl (any_of HT_.out (by kernel_rfl)) (fun _ _ _ h => h) (Or.inl ⟨by rfl, ?_⟩) ?_ ?_
                              rotate_left
                              · intro w'
                                go_simp
                                first | (with_reducible rfl) | rfl
                              rotate_left
                              · simp only [Act.put, List.setIfInBounds_toArray, List.set_cons_zero, List.set_cons_succ, i64_w, i32_w]
                                rfl
                              refine pure_ (i := 18) (N := some 38) (v := ?_) (a' := ?_) #[true, false, false, false, true, false, false, false, true, false, false, false, false, true, false, false, false, false, true, false, false, false, false, false, false, false, false, false] rfl rfl (any_of HT_.out (by kernel_rfl)) (fun _ _ _ h => h) (Or.inl ⟨by rfl, ?_⟩) ?_ ?_
                              rotate_left
                              · intro w'
                                go_simp
                                first | (with_reducible rfl) | rfl
                              rotate_left
                              · simp only [Act.put, List.setIfInBounds_toArray, List.set_cons_zero, List.set_cons_succ, i64_w, i32_w]
                                rfl
                              refine pure_ (i := 23) (N := some 43) (v := ?_) (a' := ?_) #[true, false, false, false, true, false, false, false, true, false, false, false, false, true, false, false, false, false, true, false, false, false, false, true, false, false, false, false] rfl rfl (any_of HT_.out (by kernel_rfl)) (fun _ _ _ h => h) (Or.inl ⟨by rfl, ?_⟩) ?_ ?_
                              rotate_left
                              · intro w'
                                go_simp
                                first | (with_reducible rfl) | rfl
                              rotate_left
                              · simp only [Act.put, List.setIfInBounds_toArray, List.set_cons_zero, List.set_cons_succ, i64_w, i32_w]
                                rfl
                              refine take_ (i := 1) (N := some 21) (v := ?_) (a' := ?_) #[true, true, false, false, true, false, false, false, true, false, false, false, false, true, false, false, false, false, true, false, false, false, false, true, false, false, false, false] rfl rfl (take_ofW HT_.out HW_.out (by kernel_rfl)) (fun _ _ _ h => h) (Or.inl ⟨by rfl, ?_⟩) hHeld ?_ ?_
                              rotate_left
                              · rintro w' ⟨s0, s1, s2, s3, s4, s5, s6, s7⟩
                                go_simp
                                first | (with_reducible rfl) | rfl
                              rotate_left
                              · simp only [Act.put, List.setIfInBounds_toArray, List.set_cons_zero, List.set_cons_succ, i64_w, i32_w]
                                rfl
                              refine pure_ (i := 2) (N := some 22) (v := ?_) (a' := ?_) #[true, true, true, false, true, false, false, false, true, false, false, false, false, true, false, false, false, false, true, false, false, false, false, true, false, false, false, false] rfl rfl (any_of HT_.out (by kernel_rfl)) (fun _ _ _ h => h) (Or.inl ⟨by rfl, ?_⟩) ?_ ?_
                              rotate_left
                              · intro w'
                                go_simp
                                first | (with_reducible rfl) | rfl
                              rotate_left
                              · simp only [Act.put, List.setIfInBounds_toArray, List.set_cons_zero, List.set_cons_succ, i64_w, i32_w]
                                rfl
                              refine pure_ (i := 3) (N := some 23) (v := ?_) (a' := ?_) #[true, true, true, true, true, false, false, false, true, false, false, false, false, true, false, false, false, false, true, false, false, false, false, true, false, false, false, false] rfl rfl (any_of HT_.out (by kernel_rfl)) (fun _ _ _ h => h) (Or.inl ⟨by rfl, ?_⟩) ?_ ?_
                              rotate_left
                              · intro w'
                                go_simp
                                first | (with_reducible rfl) | rfl
                              rotate_left
                              · simp only [Act.put, List.setIfInBounds_toArray, List.set_cons_zero, List.set_cons_succ, i64_w, i32_w]
                                rfl
                              refine take_ (i := 5) (N := some 25) (v := ?_) (a' := ?_) #[true, true, true, true, true, true, false, false, true, false, false, false, false, true, false, false, false, false, true, false, false, false, false, true, false, false, false, false] rfl rfl (take_ofW HT_.out HW_.out (by kernel_rfl)) (fun _ _ _ h => h) (Or.inl ⟨by rfl, ?_⟩) hHeld ?_ ?_
                              rotate_left
                              · rintro w' ⟨s0, s1, s2, s3, s4, s5, s6, s7⟩
                                go_simp
                                first | (with_reducible rfl) | rfl
                              rotate_left
                              · simp only [Act.put, List.setIfInBounds_toArray, List.set_cons_zero, List.set_cons_succ, i64_w, i32_w]
                                rfl
                              refine pure_ (i := 6) (N := some 26) (v := ?_) (a' := ?_) #[true, true, true, true, true, true, true, false, true, false, false, false, false, true, false, false, false, false, true, false, false, false, false, true, false, false, false, false] rfl rfl (any_of HT_.out (by kernel_rfl)) (fun _ _ _ h => h) (Or.inl ⟨by rfl, ?_⟩) ?_ ?_
                              rotate_left
                              · intro w'
                                go_simp
                                first | (with_reducible rfl) | rfl
                              rotate_left
                              · simp only [Act.put, List.setIfInBounds_toArray, List.set_cons_zero, List.set_cons_succ, i64_w, i32_w]
                                rfl
                              refine pure_ (i := 7) (N := some 27) (v := ?_) (a' := ?_) #[true, true, true, true, true, true, true, true, true, false, false, false, false, true, false, false, false, false, true, false, false, false, false, true, false, false, false, false] rfl rfl (any_of HT_.out (by kernel_rfl)) (fun _ _ _ h => h) (Or.inl ⟨by rfl, ?_⟩) ?_ ?_
                              rotate_left
                              · intro w'
                                go_simp
                                first | (with_reducible rfl) | rfl
                              rotate_left
                              · simp only [Act.put, List.setIfInBounds_toArray, List.set_cons_zero, List.set_cons_succ, i64_w, i32_w]
                                rfl
                              refine take_ (i := 9) (N := some 29) (v := ?_) (a' := ?_) #[true, true, true, true, true, true, true, true, true, true, false, false, false, true, false, false, false, false, true, false, false, false, false, true, false, false, false, false] rfl rfl (take_ofW HT_.out HW_.out (by kernel_rfl)) (fun _ _ _ h => h) (Or.inl ⟨by rfl, ?_⟩) hHeld ?_ ?_
                              rotate_left
                              · rintro w' ⟨s0, s1, s2, s3, s4, s5, s6, s7⟩
                                go_simp
                                first | (with_reducible rfl) | rfl
                              rotate_left
                              · simp only [Act.put, List.setIfInBounds_toArray, List.set_cons_zero, List.set_cons_succ, i64_w, i32_w]
                                rfl
                              refine take_ (i := 14) (N := some 34) (v := ?_) (a' := ?_) #[true, true, true, true, true, true, true, true, true, true, false, false, false, true, true, false, false, false, true, false, false, false, false, true, false, false, false, false] rfl rfl (take_ofW HT_.out HW_.out (by kernel_rfl)) (fun _ _ _ h => h) (Or.inl ⟨by rfl, ?_⟩) hHeld ?_ ?_
                              rotate_left
                              · rintro w' ⟨s0, s1, s2, s3, s4, s5, s6, s7⟩
                                go_simp
                                first | (with_reducible rfl) | rfl
                              rotate_left
                              · simp only [Act.put, List.setIfInBounds_toArray, List.set_cons_zero, List.set_cons_succ, i64_w, i32_w]
                                rfl
                              refine take_ (i := 19) (N := some 39) (v := ?_) (a' := ?_) #[true, true, true, true, true, true, true, true, true, true, false, false, false, true, true, false, false, false, true, true, false, false, false, true, false, false, false, false] rfl rfl (take_ofW HT_.out HW_.out (by kernel_rfl)) (fun _ _ _ h => h) (Or.inl ⟨by rfl, ?_⟩) hHeld ?_ ?_
                              rotate_left
                              · rintro w' ⟨s0, s1, s2, s3, s4, s5, s6, s7⟩
                                go_simp
                                first | (with_reducible rfl) | rfl
                              rotate_left
                              · simp only [Act.put, List.setIfInBounds_toArray, List.set_cons_zero, List.set_cons_succ, i64_w, i32_w]
                                rfl
                              refine take_ (i := 24) (N := some 44) (v := ?_) (a' := ?_) #[true, true, true, true, true, true, true, true, true, true, false, false, false, true, true, false, false, false, true, true, false, false, false, true, true, false, false, false] rfl rfl (take_ofW HT_.out HW_.out (by kernel_rfl)) (fun _ _ _ h => h) (Or.inl ⟨by rfl, ?_⟩) hHeld ?_ ?_
                              rotate_left
                              · rintro w' ⟨s0, s1, s2, s3, s4, s5, s6, s7⟩
                                go_simp
                                first | (with_reducible rfl) | rfl
                              rotate_left
                              · simp only [Act.put, List.setIfInBounds_toArray, List.set_cons_zero, List.set_cons_succ, i64_w, i32_w]
                                rfl
                              refine one_ (i := 10) (N := some 30) #[true, true, true, true, true, true, true, true, true, true, true, false, false, true, true, false, false, false, true, true, false, false, false, true, true, false, false, false] rfl rfl (one_of HT_.out (by kernel_rfl)) (by decide) (fun K hK => ?_)
                              refine goes_ Tryd.func54 (by kernel_rfl) rfl #[.agg #[.int .i64 a0_3, .int .i64 a0_4]] (by rfl) rfl rfl (by (try simp only [List.map_toArray, List.map_cons, List.map_nil]); first | done | rfl | (simp only [List.length_drop, List.length_take]; rfl)) ?_
                              with_reducible refine (impl_FormatPlace.calls k a0_3 a0_4 t139 _ A20.out).mono ?_
                              rintro e w36 ⟨rfl, hb⟩
                              refine ⟨_, rfl, ?_⟩
                              have n0_ := Aside0.mk (blk_below (g := gb136) (o := .cells #[.string a0_0, .int .i64 a0_1, .string a0_2, .int .i64 a0_3, .int .i64 a0_4, .int .i64 a0_5, .int .i64 a0_6, .int .i64 a0_7] 38 (0, 0)) (by (with_reducible repeat (first | refine blk_drewN ?_ _ | refine blk_drew ?_ | refine blk_alloc ?_ _)); exact BK136.out) hb)
                              have n1_ := Aside0.mk (below_step (by repeat (first | (with_reducible first | exact HB.out | apply below_alloc | apply pw_below_drewN | apply below_drew1 | refine below_set ?_ GE136.out) | exact HB.out)) hb)
                              clear BK136
                              clear HB
                              have BK136 := n0_
                              have HB := n1_
                              clear n0_ n1_
                              (try clear hb)
                              (try clear hb2)
                              (try clear hk)
                              (try clear hi)
                              refine hK.out _ _ ⟨(blk_cell BK136.out 0).trans rfl, (blk_cell BK136.out 1).trans rfl, (blk_cell BK136.out 2).trans rfl, (blk_cell BK136.out 3).trans rfl, (blk_cell BK136.out 4).trans rfl, (blk_cell BK136.out 5).trans rfl, (blk_cell BK136.out 6).trans rfl, (blk_cell BK136.out 7).trans rfl⟩ (fun hHeld => ?_)
                              clear hK K
                              refine norm_ (a' := ?_) ?_ ?_
                              rotate_left
                              · show Act.put _ (some 30) _ = _
                                simp only [Act.put, List.setIfInBounds_toArray, List.set_cons_zero, List.set_cons_succ, i64_w, i32_w]
                                rfl
                              refine pure_ (i := 11) (N := some 31) (v := ?_) (a' := ?_) #[true, true, true, true, true, true, true, true, true, true, true, true, false, true, true, false, false, false, true, true, false, false, false, true, true, false, false, false] rfl rfl (any_of HT_.out (by kernel_rfl)) (fun _ _ _ h => h) (Or.inl ⟨by rfl, ?_⟩) ?_ ?_
                              rotate_left
                              · intro w'
                                go_simp
                                first | (with_reducible rfl) | rfl
                              rotate_left
                              · simp only [Act.put, List.setIfInBounds_toArray, List.set_cons_zero, List.set_cons_succ, i64_w, i32_w]
                                rfl
                              refine pure_ (i := 12) (N := some 32) (v := ?_) (a' := ?_) #[true, true, true, true, true, true, true, true, true, true, true, true, true, true, true, false, false, false, true, true, false, false, false, true, true, false, false, false] rfl rfl (any_of HT_.out (by kernel_rfl)) (fun _ _ _ h => h) (Or.inl ⟨by rfl, ?_⟩) ?_ ?_
                              rotate_left
                              · intro w'
                                go_simp
                                first | (with_reducible rfl) | rfl
                              rotate_left
                              · simp only [Act.put, List.setIfInBounds_toArray, List.set_cons_zero, List.set_cons_succ, i64_w, i32_w]
                                rfl
                              refine one_ (i := 15) (N := some 35) #[true, true, true, true, true, true, true, true, true, true, true, true, true, true, true, true, false, false, true, true, false, false, false, true, true, false, false, false] rfl rfl (one_of HT_.out (by kernel_rfl)) (by decide) (fun K hK => ?_)
                              refine goes_ Tryd.func39 (by kernel_rfl) rfl #[.int .i64 a0_5] (by rfl) rfl rfl (by (try simp only [List.map_toArray, List.map_cons, List.map_nil]); first | done | rfl | (simp only [List.length_drop, List.length_take]; rfl)) ?_
                              with_reducible refine (impl_FormatNumber.calls a0_5 t140 _ A23.out).mono ?_
                              rintro e w37 ⟨rfl, hb⟩
                              refine ⟨_, rfl, ?_⟩
                              have n0_ := Aside0.mk (blk_below (g := gb136) (o := .cells #[.string a0_0, .int .i64 a0_1, .string a0_2, .int .i64 a0_3, .int .i64 a0_4, .int .i64 a0_5, .int .i64 a0_6, .int .i64 a0_7] 38 (0, 0)) (by (with_reducible repeat (first | refine blk_drewN ?_ _ | refine blk_drew ?_ | refine blk_alloc ?_ _)); exact BK136.out) hb)
                              have n1_ := Aside0.mk (below_step (by repeat (first | (with_reducible first | exact HB.out | apply below_alloc | apply pw_below_drewN | apply below_drew1 | refine below_set ?_ GE136.out) | exact HB.out)) hb)
                              clear BK136
                              clear HB
                              have BK136 := n0_
                              have HB := n1_
                              clear n0_ n1_
                              (try clear hb)
                              (try clear hb2)
                              (try clear hk)
                              (try clear hi)
                              refine hK.out _ _ ⟨(blk_cell BK136.out 0).trans rfl, (blk_cell BK136.out 1).trans rfl, (blk_cell BK136.out 2).trans rfl, (blk_cell BK136.out 3).trans rfl, (blk_cell BK136.out 4).trans rfl, (blk_cell BK136.out 5).trans rfl, (blk_cell BK136.out 6).trans rfl, (blk_cell BK136.out 7).trans rfl⟩ (fun hHeld => ?_)
                              clear hK K
                              refine norm_ (a' := ?_) ?_ ?_
                              rotate_left
                              · show Act.put _ (some 35) _ = _
                                simp only [Act.put, List.setIfInBounds_toArray, List.set_cons_zero, List.set_cons_succ, i64_w, i32_w]
                                rfl
                              refine pure_ (i := 16) (N := some 36) (v := ?_) (a' := ?_) #[true, true, true, true, true, true, true, true, true, true, true, true, true, true, true, true, true, false, true, true, false, false, false, true, true, false, false, false] rfl rfl (any_of HT_.out (by kernel_rfl)) (fun _ _ _ h => h) (Or.inl ⟨by rfl, ?_⟩) ?_ ?_
                              rotate_left
                              · intro w'
                                go_simp
                                first | (with_reducible rfl) | rfl
                              rotate_left
                              · simp only [Act.put, List.setIfInBounds_toArray, List.set_cons_zero, List.set_cons_succ, i64_w, i32_w]
                                rfl
                              refine pure_ (i := 17) (N := some 37) (v := ?_) (a' := ?_) #[true, true, true, true, true, true, true, true, true, true, true, true, true, true, true, true, true, true, true, true, false, false, false, true, true, false, false, false] rfl rfl (any_of HT_.out (by kernel_rfl)) (fun _ _ _ h => h) (Or.inl ⟨by rfl, ?_⟩) ?_ ?_
                              rotate_left
                              · intro w'
                                go_simp
                                first | (with_reducible rfl) | rfl
                              rotate_left
                              · simp only [Act.put, List.setIfInBounds_toArray, List.set_cons_zero, List.set_cons_succ, i64_w, i32_w]
                                rfl
                              refine one_ (i := 20) (N := some 40) #[true, true, true, true, true, true, true, true, true, true, true, true, true, true, true, true, true, true, true, true, true, false, false, true, true, false, false, false] rfl rfl (one_of HT_.out (by kernel_rfl)) (by decide) (fun K hK => ?_)
                              refine goes_ Tryd.func40 (by kernel_rfl) rfl #[.int .i64 a0_6] (by rfl) rfl rfl (by (try simp only [List.map_toArray, List.map_cons, List.map_nil]); first | done | rfl | (simp only [List.length_drop, List.length_take]; rfl)) ?_
                              with_reducible refine (impl_FormatMeasure.calls k a0_6 t141 _ A26.out).mono ?_
                              rintro e w38 ⟨rfl, hb⟩
                              refine ⟨_, rfl, ?_⟩
                              have n0_ := Aside0.mk (blk_below (g := gb136) (o := .cells #[.string a0_0, .int .i64 a0_1, .string a0_2, .int .i64 a0_3, .int .i64 a0_4, .int .i64 a0_5, .int .i64 a0_6, .int .i64 a0_7] 38 (0, 0)) (by (with_reducible repeat (first | refine blk_drewN ?_ _ | refine blk_drew ?_ | refine blk_alloc ?_ _)); exact BK136.out) hb)
                              have n1_ := Aside0.mk (below_step (by repeat (first | (with_reducible first | exact HB.out | apply below_alloc | apply pw_below_drewN | apply below_drew1 | refine below_set ?_ GE136.out) | exact HB.out)) hb)
                              clear BK136
                              clear HB
                              have BK136 := n0_
                              have HB := n1_
                              clear n0_ n1_
                              (try clear hb)
                              (try clear hb2)
                              (try clear hk)
                              (try clear hi)
                              refine hK.out _ _ ⟨(blk_cell BK136.out 0).trans rfl, (blk_cell BK136.out 1).trans rfl, (blk_cell BK136.out 2).trans rfl, (blk_cell BK136.out 3).trans rfl, (blk_cell BK136.out 4).trans rfl, (blk_cell BK136.out 5).trans rfl, (blk_cell BK136.out 6).trans rfl, (blk_cell BK136.out 7).trans rfl⟩ (fun hHeld => ?_)
                              clear hK K
                              refine norm_ (a' := ?_) ?_ ?_
                              rotate_left
                              · show Act.put _ (some 40) _ = _
                                simp only [Act.put, List.setIfInBounds_toArray, List.set_cons_zero, List.set_cons_succ, i64_w, i32_w]
                                rfl
                              refine pure_ (i := 21) (N := some 41) (v := ?_) (a' := ?_) #[true, true, true, true, true, true, true, true, true, true, true, true, true, true, true, true, true, true, true, true, true, true, false, true, true, false, false, false] rfl rfl (any_of HT_.out (by kernel_rfl)) (fun _ _ _ h => h) (Or.inl ⟨by rfl, ?_⟩) ?_ ?_
                              rotate_left
                              · intro w'
                                go_simp
                                first | (with_reducible rfl) | rfl
                              rotate_left
                              · simp only [Act.put, List.setIfInBounds_toArray, List.set_cons_zero, List.set_cons_succ, i64_w, i32_w]
                                rfl
                              refine pure_ (i := 22) (N := some 42) (v := ?_) (a' := ?_) #[true, true, true, true, true, true, true, true, true, true, true, true, true, true, true, true, true, true, true, true, true, true, true, true, true, false, false, false] rfl rfl (any_of HT_.out (by kernel_rfl)) (fun _ _ _ h => h) (Or.inl ⟨by rfl, ?_⟩) ?_ ?_
                              rotate_left
                              · intro w'
                                go_simp
                                first | (with_reducible rfl) | rfl
                              rotate_left
                              · simp only [Act.put, List.setIfInBounds_toArray, List.set_cons_zero, List.set_cons_succ, i64_w, i32_w]
                                rfl
                              refine one_ (i := 25) (N := some 45) #[true, true, true, true, true, true, true, true, true, true, true, true, true, true, true, true, true, true, true, true, true, true, true, true, true, true, false, false] rfl rfl (one_of HT_.out (by kernel_rfl)) (by decide) (fun K hK => ?_)
                              refine goes_ Tryd.func40 (by kernel_rfl) rfl #[.int .i64 a0_7] (by rfl) rfl rfl (by (try simp only [List.map_toArray, List.map_cons, List.map_nil]); first | done | rfl | (simp only [List.length_drop, List.length_take]; rfl)) ?_
                              with_reducible refine (impl_FormatMeasure.calls k a0_7 t142 _ A29.out).mono ?_
                              rintro e w39 ⟨rfl, hb⟩
                              refine ⟨_, rfl, ?_⟩
                              have n0_ := Aside0.mk (blk_below (g := gb136) (o := .cells #[.string a0_0, .int .i64 a0_1, .string a0_2, .int .i64 a0_3, .int .i64 a0_4, .int .i64 a0_5, .int .i64 a0_6, .int .i64 a0_7] 38 (0, 0)) (by (with_reducible repeat (first | refine blk_drewN ?_ _ | refine blk_drew ?_ | refine blk_alloc ?_ _)); exact BK136.out) hb)
                              have n1_ := Aside0.mk (below_step (by repeat (first | (with_reducible first | exact HB.out | apply below_alloc | apply pw_below_drewN | apply below_drew1 | refine below_set ?_ GE136.out) | exact HB.out)) hb)
                              clear BK136
                              clear HB
                              have BK136 := n0_
                              have HB := n1_
                              clear n0_ n1_
                              (try clear hb)
                              (try clear hb2)
                              (try clear hk)
                              (try clear hi)
                              refine hK.out _ _ ⟨(blk_cell BK136.out 0).trans rfl, (blk_cell BK136.out 1).trans rfl, (blk_cell BK136.out 2).trans rfl, (blk_cell BK136.out 3).trans rfl, (blk_cell BK136.out 4).trans rfl, (blk_cell BK136.out 5).trans rfl, (blk_cell BK136.out 6).trans rfl, (blk_cell BK136.out 7).trans rfl⟩ (fun hHeld => ?_)
                              clear hK K
                              refine norm_ (a' := ?_) ?_ ?_
                              rotate_left
                              · show Act.put _ (some 45) _ = _
                                simp only [Act.put, List.setIfInBounds_toArray, List.set_cons_zero, List.set_cons_succ, i64_w, i32_w]
                                rfl
                              refine pure_ (i := 26) (N := some 46) (v := ?_) (a' := ?_) #[true, true, true, true, true, true, true, true, true, true, true, true, true, true, true, true, true, true, true, true, true, true, true, true, true, true, true, false] rfl rfl (any_of HT_.out (by kernel_rfl)) (fun _ _ _ h => h) (Or.inl ⟨by rfl, ?_⟩) ?_ ?_
                              rotate_left
                              · intro w'
                                go_simp
                                first | (with_reducible rfl) | rfl
                              rotate_left
                              · simp only [Act.put, List.setIfInBounds_toArray, List.set_cons_zero, List.set_cons_succ, i64_w, i32_w]
                                rfl
                              refine pure_ (i := 27) (N := some 2) (v := ?_) (a' := ?_) #[true, true, true, true, true, true, true, true, true, true, true, true, true, true, true, true, true, true, true, true, true, true, true, true, true, true, true, true] rfl rfl (any_of HT_.out (by kernel_rfl)) (fun _ _ _ h => h) (Or.inl ⟨by rfl, ?_⟩) ?_ ?_
                              rotate_left
                              · intro w'
                                go_simp
                                first | (with_reducible rfl) | rfl
                              rotate_left
                              · simp only [Act.put, List.setIfInBounds_toArray, List.set_cons_zero, List.set_cons_succ, i64_w, i32_w]
                                rfl
                              refine done_ (done_of HT_.out (by kernel_rfl)) ?_
                              try go_wp2
                              go_ret
                              exact ⟨by first | rfl | (simp [errW_none, errW_some] <;> rfl) | (simp [*, errW_none, errW_some] <;> rfl), by repeat (first | (with_reducible first | exact HB.out | apply below_alloc | apply pw_below_drewN | apply below_drew1 | refine below_set ?_ GE136.out) | exact HB.out)⟩
                            · rw [if_neg c30] at H
                              exact absurd H (by simp)
                          · rw [if_neg c28] at H
                            exact absurd H (by simp)
                        · rw [if_neg c27] at H
                          exact absurd H (by simp)
                      · rw [if_neg c25] at H
                        exact absurd H (by simp)
                    · rw [if_neg c24] at H
                      exact absurd H (by simp)
                  · rw [if_neg c22] at H
                    exact absurd H (by simp)
                · rw [if_neg c21] at H
                  exact absurd H (by simp)
              · rw [if_neg c19] at H
                exact absurd H (by simp)
            · rw [if_neg c18] at H
              exact absurd H (by simp)
          · rw [if_neg c17] at H
            exact absurd H (by simp)
        · rw [if_neg c16] at H
          exact absurd H (by simp)
      · rw [if_neg c15] at H
        have c15b0 : (a0_1 == 2) = false := beq_eq_false_iff_ne.mpr c15
        have c15b1 : (a0_1 != 2) = true := bne_iff_ne.mpr c15
        by_cases c40 : 5 + a0_0.size ≤ 9223372036854775807
        · rw [if_pos c40] at H
          have c40b0 := eq_true c40
          have c40b1 : decide (5 + a0_0.size ≤ 9223372036854775807) = true := decide_eq_true c40
          try have c40b2 : (9223372036854775807 < 5 + a0_0.size) = False := eq_false (Nat.not_lt.2 c40)
          by_cases c41 : ((⟨#[108, 97, 109, 112, 32]⟩ : ByteArray) ++ a0_0).size + 4 ≤ 9223372036854775807
          · rw [if_pos c41] at H
            have c41b0 := eq_true c41
            have c41b1 : decide (((⟨#[108, 97, 109, 112, 32]⟩ : ByteArray) ++ a0_0).size + 4 ≤ 9223372036854775807) = true := decide_eq_true c41
            try have c41b2 : (9223372036854775807 < ((⟨#[108, 97, 109, 112, 32]⟩ : ByteArray) ++ a0_0).size + 4) = False := eq_false (Nat.not_lt.2 c41)
            try have c41b8 : (5 + a0_0.size + 4 ≤ 9223372036854775807) = True := by have t_ := c41b0; first | (simp only [ByteArray.size_append, Nat.zero_add, Nat.add_zero] at t_; exact t_) | (have t2_ := of_eq_true t_; simp only [ByteArray.size_append] at t2_; exact eq_true (by first | exact t2_ | (have t3_ := t2_; change 0 + _ ≤ _ at t3_; rwa [Nat.zero_add] at t3_) | (change (0 + _) + _ ≤ _ at t2_; rwa [Nat.zero_add] at t2_)))
            try have c41b9 : (9223372036854775807 < 5 + a0_0.size + 4) = False := by have t_ := c41b2; first | (simp only [ByteArray.size_append] at t_; exact t_) | (have t2_ := c41b8; exact eq_false (Nat.not_lt.2 (of_eq_true t2_)))
            by_cases c42 : (((⟨#[108, 97, 109, 112, 32]⟩ : ByteArray) ++ a0_0) ++ (⟨#[32, 111, 110, 32]⟩ : ByteArray)).size + a0_2.size ≤ 9223372036854775807
            · rw [if_pos c42] at H
              have c42b0 := eq_true c42
              have c42b1 : decide ((((⟨#[108, 97, 109, 112, 32]⟩ : ByteArray) ++ a0_0) ++ (⟨#[32, 111, 110, 32]⟩ : ByteArray)).size + a0_2.size ≤ 9223372036854775807) = true := decide_eq_true c42
              try have c42b2 : (9223372036854775807 < (((⟨#[108, 97, 109, 112, 32]⟩ : ByteArray) ++ a0_0) ++ (⟨#[32, 111, 110, 32]⟩ : ByteArray)).size + a0_2.size) = False := eq_false (Nat.not_lt.2 c42)
              try have c42b8 : (5 + a0_0.size + 4 + a0_2.size ≤ 9223372036854775807) = True := by have t_ := c42b0; first | (simp only [ByteArray.size_append, Nat.zero_add, Nat.add_zero] at t_; exact t_) | (have t2_ := of_eq_true t_; simp only [ByteArray.size_append] at t2_; exact eq_true (by first | exact t2_ | (have t3_ := t2_; change 0 + _ ≤ _ at t3_; rwa [Nat.zero_add] at t3_) | (change (0 + _) + _ ≤ _ at t2_; rwa [Nat.zero_add] at t2_)))
              try have c42b9 : (9223372036854775807 < 5 + a0_0.size + 4 + a0_2.size) = False := by have t_ := c42b2; first | (simp only [ByteArray.size_append] at t_; exact t_) | (have t2_ := c42b8; exact eq_false (Nat.not_lt.2 (of_eq_true t2_)))
              by_cases c43 : ((((⟨#[108, 97, 109, 112, 32]⟩ : ByteArray) ++ a0_0) ++ (⟨#[32, 111, 110, 32]⟩ : ByteArray)) ++ a0_2).size + 4 ≤ 9223372036854775807
              · rw [if_pos c43] at H
                have c43b0 := eq_true c43
                have c43b1 : decide (((((⟨#[108, 97, 109, 112, 32]⟩ : ByteArray) ++ a0_0) ++ (⟨#[32, 111, 110, 32]⟩ : ByteArray)) ++ a0_2).size + 4 ≤ 9223372036854775807) = true := decide_eq_true c43
                try have c43b2 : (9223372036854775807 < ((((⟨#[108, 97, 109, 112, 32]⟩ : ByteArray) ++ a0_0) ++ (⟨#[32, 111, 110, 32]⟩ : ByteArray)) ++ a0_2).size + 4) = False := eq_false (Nat.not_lt.2 c43)
                try have c43b8 : (5 + a0_0.size + 4 + a0_2.size + 4 ≤ 9223372036854775807) = True := by have t_ := c43b0; first | (simp only [ByteArray.size_append, Nat.zero_add, Nat.add_zero] at t_; exact t_) | (have t2_ := of_eq_true t_; simp only [ByteArray.size_append] at t2_; exact eq_true (by first | exact t2_ | (have t3_ := t2_; change 0 + _ ≤ _ at t3_; rwa [Nat.zero_add] at t3_) | (change (0 + _) + _ ≤ _ at t2_; rwa [Nat.zero_add] at t2_)))
                try have c43b9 : (9223372036854775807 < 5 + a0_0.size + 4 + a0_2.size + 4) = False := by have t_ := c43b2; first | (simp only [ByteArray.size_append] at t_; exact t_) | (have t2_ := c43b8; exact eq_false (Nat.not_lt.2 (of_eq_true t2_)))
                replace H := Option.bind_eq_some_iff.mp H
                obtain ⟨t143, A440, H⟩ := H
                replace H : (if (((((⟨#[108, 97, 109, 112, 32]⟩ : ByteArray) ++ a0_0) ++ (⟨#[32, 111, 110, 32]⟩ : ByteArray)) ++ a0_2) ++ (⟨#[32, 97, 116, 32]⟩ : ByteArray)).size + t143.size ≤ 9223372036854775807 then (some ((((((⟨#[108, 97, 109, 112, 32]⟩ : ByteArray) ++ a0_0) ++ (⟨#[32, 111, 110, 32]⟩ : ByteArray)) ++ a0_2) ++ (⟨#[32, 97, 116, 32]⟩ : ByteArray)) ++ t143)) else (none)) = some r := H
                have A44 := Aside0.mk A440
                clear A440
                by_cases c45 : (((((⟨#[108, 97, 109, 112, 32]⟩ : ByteArray) ++ a0_0) ++ (⟨#[32, 111, 110, 32]⟩ : ByteArray)) ++ a0_2) ++ (⟨#[32, 97, 116, 32]⟩ : ByteArray)).size + t143.size ≤ 9223372036854775807
                · rw [if_pos c45] at H
                  have c45b0 := eq_true c45
                  have c45b1 : decide ((((((⟨#[108, 97, 109, 112, 32]⟩ : ByteArray) ++ a0_0) ++ (⟨#[32, 111, 110, 32]⟩ : ByteArray)) ++ a0_2) ++ (⟨#[32, 97, 116, 32]⟩ : ByteArray)).size + t143.size ≤ 9223372036854775807) = true := decide_eq_true c45
                  try have c45b2 : (9223372036854775807 < (((((⟨#[108, 97, 109, 112, 32]⟩ : ByteArray) ++ a0_0) ++ (⟨#[32, 111, 110, 32]⟩ : ByteArray)) ++ a0_2) ++ (⟨#[32, 97, 116, 32]⟩ : ByteArray)).size + t143.size) = False := eq_false (Nat.not_lt.2 c45)
                  try have c45b8 : (5 + a0_0.size + 4 + a0_2.size + 4 + t143.size ≤ 9223372036854775807) = True := by have t_ := c45b0; first | (simp only [ByteArray.size_append, Nat.zero_add, Nat.add_zero] at t_; exact t_) | (have t2_ := of_eq_true t_; simp only [ByteArray.size_append] at t2_; exact eq_true (by first | exact t2_ | (have t3_ := t2_; change 0 + _ ≤ _ at t3_; rwa [Nat.zero_add] at t3_) | (change (0 + _) + _ ≤ _ at t2_; rwa [Nat.zero_add] at t2_)))
                  try have c45b9 : (9223372036854775807 < 5 + a0_0.size + 4 + a0_2.size + 4 + t143.size) = False := by have t_ := c45b2; first | (simp only [ByteArray.size_append] at t_; exact t_) | (have t2_ := c45b8; exact eq_false (Nat.not_lt.2 (of_eq_true t2_)))
                  obtain rfl := Option.some.inj H
                  go_enter Tryd.func20, Tryd.ntmps20
                  try go_wp2_with (first | ((with_reducible refine gate_dst (N := 1) rfl ?_); refine box_event ?hg (N := 1) ?hd (cs := #[.string a0_0, .int .i64 a0_1, .string a0_2, .int .i64 a0_3, .int .i64 a0_4, .int .i64 a0_5, .int .i64 a0_6, .int .i64 a0_7]) (t := 38) ?hr ?_; (case hd => rfl); (case hg => rfl); (case hr => first | (go_simp; done) | (go_simp; rfl)); intro gb136 hg w46 hbox hb; have n0_ := Aside0.mk (below_step (by repeat (first | (with_reducible first | exact HB.out | apply below_alloc | apply pw_below_drewN | apply below_drew1) | exact HB.out)) hb); have n1_ := Aside0.mk (hbox); have n2_ := Aside0.mk ((by rw [hg]; exact (below_size (by repeat (first | (with_reducible first | exact HB.out | apply below_alloc | apply pw_below_drewN | apply below_drew1) | exact HB.out))) : w.heap.size ≤ gb136)); have n3_ := Aside0.mk ((by rw [hg]; exact (below_size (by repeat (first | (with_reducible first | exact HB.out | apply below_alloc | apply pw_below_drewN | apply below_drew1) | exact HB.out))) : w.heap.size ≤ gb136)); clear HB; have HB := n0_; have BK136 := n1_; have GW136 := n2_; have GE136 := n3_; clear n0_ n1_ n2_ n3_; clear hb hbox hg; have hcz47_0 : w46.cell? ⟨gb136, 0, none⟩ = some (.string a0_0) := (blk_cell BK136.out 0).trans rfl; have hcz47_1 : w46.cell? ⟨gb136, 1, none⟩ = some (.int .i64 a0_1) := (blk_cell BK136.out 1).trans rfl; have hcz47_2 : w46.cell? ⟨gb136, 2, none⟩ = some (.string a0_2) := (blk_cell BK136.out 2).trans rfl; have hcz47_3 : w46.cell? ⟨gb136, 3, none⟩ = some (.int .i64 a0_3) := (blk_cell BK136.out 3).trans rfl; have hcz47_4 : w46.cell? ⟨gb136, 4, none⟩ = some (.int .i64 a0_4) := (blk_cell BK136.out 4).trans rfl; have hcz47_5 : w46.cell? ⟨gb136, 5, none⟩ = some (.int .i64 a0_5) := (blk_cell BK136.out 5).trans rfl; have hcz47_6 : w46.cell? ⟨gb136, 6, none⟩ = some (.int .i64 a0_6) := (blk_cell BK136.out 6).trans rfl; have hcz47_7 : w46.cell? ⟨gb136, 7, none⟩ = some (.int .i64 a0_7) := (blk_cell BK136.out 7).trans rfl; have hfz47_0 := blk_frozen BK136.out 0; have hfz47_1 := blk_frozen BK136.out 1; have hfz47_2 := blk_frozen BK136.out 2; have hfz47_3 := blk_frozen BK136.out 3; have hfz47_4 := blk_frozen BK136.out 4; have hfz47_5 := blk_frozen BK136.out 5; have hfz47_6 := blk_frozen BK136.out 6; have hfz47_7 := blk_frozen BK136.out 7) | ((with_reducible refine gate_callee (f := 21) rfl ?_); refine goesL_ (some 4) rfl rfl Tryd.func21 (by kernel_rfl) rfl #[.agg #[.string a0_0, .int .i64 a0_1, .string a0_2, .int .i64 a0_3, .int .i64 a0_4, .int .i64 a0_5, .int .i64 a0_6, .int .i64 a0_7]] rfl (by (try simp only [List.map_toArray, List.map_cons, List.map_nil]); first | done | rfl | (simp only [List.length_drop, List.length_take]; rfl)) ?_; (with_reducible refine (impl_IsDevice.calls k a0_0 a0_1 a0_2 a0_3 a0_4 a0_5 a0_6 a0_7 true _ A2.out).mono ?_); rintro e w48 ⟨rfl, hb⟩; refine ⟨_, rfl, ?_⟩; have n0_ := Aside0.mk (blk_below (g := gb136) (o := .cells #[.string a0_0, .int .i64 a0_1, .string a0_2, .int .i64 a0_3, .int .i64 a0_4, .int .i64 a0_5, .int .i64 a0_6, .int .i64 a0_7] 38 (0, 0)) (by (with_reducible repeat (first | refine blk_drewN ?_ _ | refine blk_drew ?_ | refine blk_alloc ?_ _)); exact BK136.out) hb); have n1_ := Aside0.mk (below_step (by repeat (first | (with_reducible first | exact HB.out | apply below_alloc | apply pw_below_drewN | apply below_drew1 | refine below_set ?_ GE136.out) | exact HB.out)) hb); clear BK136; clear HB; have BK136 := n0_; have HB := n1_; clear n0_ n1_; (try clear hb); (try clear hb2); (try clear hk); (try clear hi); have hcz49_0 : w48.cell? ⟨gb136, 0, none⟩ = some (.string a0_0) := (blk_cell BK136.out 0).trans rfl; have hcz49_1 : w48.cell? ⟨gb136, 1, none⟩ = some (.int .i64 a0_1) := (blk_cell BK136.out 1).trans rfl; have hcz49_2 : w48.cell? ⟨gb136, 2, none⟩ = some (.string a0_2) := (blk_cell BK136.out 2).trans rfl; have hcz49_3 : w48.cell? ⟨gb136, 3, none⟩ = some (.int .i64 a0_3) := (blk_cell BK136.out 3).trans rfl; have hcz49_4 : w48.cell? ⟨gb136, 4, none⟩ = some (.int .i64 a0_4) := (blk_cell BK136.out 4).trans rfl; have hcz49_5 : w48.cell? ⟨gb136, 5, none⟩ = some (.int .i64 a0_5) := (blk_cell BK136.out 5).trans rfl; have hcz49_6 : w48.cell? ⟨gb136, 6, none⟩ = some (.int .i64 a0_6) := (blk_cell BK136.out 6).trans rfl; have hcz49_7 : w48.cell? ⟨gb136, 7, none⟩ = some (.int .i64 a0_7) := (blk_cell BK136.out 7).trans rfl; have hfz49_0 := blk_frozen BK136.out 0; have hfz49_1 := blk_frozen BK136.out 1; have hfz49_2 := blk_frozen BK136.out 2; have hfz49_3 := blk_frozen BK136.out 3; have hfz49_4 := blk_frozen BK136.out 4; have hfz49_5 := blk_frozen BK136.out 5; have hfz49_6 := blk_frozen BK136.out 6; have hfz49_7 := blk_frozen BK136.out 7))
                  have n0_ := Aside0.mk (blk_drew BK136.out)
                  have n1_ := Aside0.mk (below_drew1 HB.out)
                  clear BK136
                  clear HB
                  have BK136 := n0_
                  have HB := n1_
                  clear n0_ n1_
                  refine start_ (n := 13) (S := fun w' => w'.cell? ⟨gb136, 0, none⟩ = some (.string a0_0) ∧ w'.cell? ⟨gb136, 1, none⟩ = some (.int .i64 a0_1) ∧ w'.cell? ⟨gb136, 2, none⟩ = some (.string a0_2) ∧ w'.cell? ⟨gb136, 3, none⟩ = some (.int .i64 a0_3) ∧ w'.cell? ⟨gb136, 4, none⟩ = some (.int .i64 a0_4) ∧ w'.cell? ⟨gb136, 5, none⟩ = some (.int .i64 a0_5) ∧ w'.cell? ⟨gb136, 6, none⟩ = some (.int .i64 a0_6) ∧ w'.cell? ⟨gb136, 7, none⟩ = some (.int .i64 a0_7)) (ds := []) #[false, false, false, false, false, false, false, false, false, false, false, false, false] (by kernel_rfl) rfl rfl ⟨(blk_cell BK136.out 0).trans rfl, (blk_cell BK136.out 1).trans rfl, (blk_cell BK136.out 2).trans rfl, (blk_cell BK136.out 3).trans rfl, (blk_cell BK136.out 4).trans rfl, (blk_cell BK136.out 5).trans rfl, (blk_cell BK136.out 6).trans rfl, (blk_cell BK136.out 7).trans rfl⟩ (fun hHeld => ?_); refine with_tabW impl_FormatDevice.tab8 impl_FormatDevice.bits8 (fun HT_ HW_ => ?_)
                  generalize w48.drew = w50 at BK136 HB hHeld ⊢
                  refine pure_ (i := 0) (N := some 47) (v := ?_) (a' := ?_) #[true, false, false, false, false, false, false, false, false, false, false, false, false] rfl rfl (any_of HT_.out (by kernel_rfl)) (fun _ _ _ h => h) (Or.inl ⟨by rfl, ?_⟩) ?_ ?_
                  rotate_left
                  · intro w'
                    go_simp
                    first | (with_reducible rfl) | rfl
                  rotate_left
                  · simp only [Act.put, List.setIfInBounds_toArray, List.set_cons_zero, List.set_cons_succ, i64_w, i32_w]
                    rfl
                  refine pure_ (i := 4) (N := some 51) (v := ?_) (a' := ?_) #[true, false, false, false, true, false, false, false, false, false, false, false, false] rfl rfl (any_of HT_.out (by kernel_rfl)) (fun _ _ _ h => h) (Or.inl ⟨by rfl, ?_⟩) ?_ ?_
                  rotate_left
                  · intro w'
                    go_simp
                    first | (with_reducible rfl) | rfl
                  rotate_left
                  · simp only [Act.put, List.setIfInBounds_toArray, List.set_cons_zero, List.set_cons_succ, i64_w, i32_w]
                    rfl
                  refine pure_ (i := 8) (N := some 55) (v := ?_) (a' := ?_) #[true, false, false, false, true, false, false, false, true, false, false, false, false] rfl rfl (any_of HT_.out (by kernel_rfl)) (fun _ _ _ h => h) (Or.inl ⟨by rfl, ?_⟩) ?_ ?_
                  rotate_left
                  · intro w'
                    go_simp
                    first | (with_reducible rfl) | rfl
                  rotate_left
                  · simp only [Act.put, List.setIfInBounds_toArray, List.set_cons_zero, List.set_cons_succ, i64_w, i32_w]
                    rfl
                  refine take_ (i := 1) (N := some 48) (v := ?_) (a' := ?_) #[true, true, false, false, true, false, false, false, true, false, false, false, false] rfl rfl (take_ofW HT_.out HW_.out (by kernel_rfl)) (fun _ _ _ h => h) (Or.inl ⟨by rfl, ?_⟩) hHeld ?_ ?_
                  rotate_left
                  · rintro w' ⟨s0, s1, s2, s3, s4, s5, s6, s7⟩
                    go_simp
                    first | (with_reducible rfl) | rfl
                  rotate_left
                  · simp only [Act.put, List.setIfInBounds_toArray, List.set_cons_zero, List.set_cons_succ, i64_w, i32_w]
                    rfl
                  refine pure_ (i := 2) (N := some 49) (v := ?_) (a' := ?_) #[true, true, true, false, true, false, false, false, true, false, false, false, false] rfl rfl (any_of HT_.out (by kernel_rfl)) (fun _ _ _ h => h) (Or.inl ⟨by rfl, ?_⟩) ?_ ?_
                  rotate_left
                  · intro w'
                    go_simp
                    first | (with_reducible rfl) | rfl
                  rotate_left
                  · simp only [Act.put, List.setIfInBounds_toArray, List.set_cons_zero, List.set_cons_succ, i64_w, i32_w]
                    rfl
                  refine pure_ (i := 3) (N := some 50) (v := ?_) (a' := ?_) #[true, true, true, true, true, false, false, false, true, false, false, false, false] rfl rfl (any_of HT_.out (by kernel_rfl)) (fun _ _ _ h => h) (Or.inl ⟨by rfl, ?_⟩) ?_ ?_
                  rotate_left
                  · intro w'
                    go_simp
                    first | (with_reducible rfl) | rfl
                  rotate_left
                  · simp only [Act.put, List.setIfInBounds_toArray, List.set_cons_zero, List.set_cons_succ, i64_w, i32_w]
                    rfl
                  refine take_ (i := 5) (N := some 52) (v := ?_) (a' := ?_) #[true, true, true, true, true, true, false, false, true, false, false, false, false] rfl rfl (take_ofW HT_.out HW_.out (by kernel_rfl)) (fun _ _ _ h => h) (Or.inl ⟨by rfl, ?_⟩) hHeld ?_ ?_
                  rotate_left
                  · rintro w' ⟨s0, s1, s2, s3, s4, s5, s6, s7⟩
                    go_simp
                    first | (with_reducible rfl) | rfl
                  rotate_left
                  · simp only [Act.put, List.setIfInBounds_toArray, List.set_cons_zero, List.set_cons_succ, i64_w, i32_w]
                    rfl
                  refine pure_ (i := 6) (N := some 53) (v := ?_) (a' := ?_) #[true, true, true, true, true, true, true, false, true, false, false, false, false] rfl rfl (any_of HT_.out (by kernel_rfl)) (fun _ _ _ h => h) (Or.inl ⟨by rfl, ?_⟩) ?_ ?_
                  rotate_left
                  · intro w'
                    go_simp
                    first | (with_reducible rfl) | rfl
                  rotate_left
                  · simp only [Act.put, List.setIfInBounds_toArray, List.set_cons_zero, List.set_cons_succ, i64_w, i32_w]
                    rfl
                  refine pure_ (i := 7) (N := some 54) (v := ?_) (a' := ?_) #[true, true, true, true, true, true, true, true, true, false, false, false, false] rfl rfl (any_of HT_.out (by kernel_rfl)) (fun _ _ _ h => h) (Or.inl ⟨by rfl, ?_⟩) ?_ ?_
                  rotate_left
                  · intro w'
                    go_simp
                    first | (with_reducible rfl) | rfl
                  rotate_left
                  · simp only [Act.put, List.setIfInBounds_toArray, List.set_cons_zero, List.set_cons_succ, i64_w, i32_w]
                    rfl
                  refine take_ (i := 9) (N := some 56) (v := ?_) (a' := ?_) #[true, true, true, true, true, true, true, true, true, true, false, false, false] rfl rfl (take_ofW HT_.out HW_.out (by kernel_rfl)) (fun _ _ _ h => h) (Or.inl ⟨by rfl, ?_⟩) hHeld ?_ ?_
                  rotate_left
                  · rintro w' ⟨s0, s1, s2, s3, s4, s5, s6, s7⟩
                    go_simp
                    first | (with_reducible rfl) | rfl
                  rotate_left
                  · simp only [Act.put, List.setIfInBounds_toArray, List.set_cons_zero, List.set_cons_succ, i64_w, i32_w]
                    rfl
                  refine one_ (i := 10) (N := some 57) #[true, true, true, true, true, true, true, true, true, true, true, false, false] rfl rfl (one_of HT_.out (by kernel_rfl)) (by decide) (fun K hK => ?_)
                  refine goes_ Tryd.func54 (by kernel_rfl) rfl #[.agg #[.int .i64 a0_3, .int .i64 a0_4]] (by rfl) rfl rfl (by (try simp only [List.map_toArray, List.map_cons, List.map_nil]); first | done | rfl | (simp only [List.length_drop, List.length_take]; rfl)) ?_
                  with_reducible refine (impl_FormatPlace.calls k a0_3 a0_4 t143 _ A44.out).mono ?_
                  rintro e w51 ⟨rfl, hb⟩
                  refine ⟨_, rfl, ?_⟩
                  have n0_ := Aside0.mk (blk_below (g := gb136) (o := .cells #[.string a0_0, .int .i64 a0_1, .string a0_2, .int .i64 a0_3, .int .i64 a0_4, .int .i64 a0_5, .int .i64 a0_6, .int .i64 a0_7] 38 (0, 0)) (by (with_reducible repeat (first | refine blk_drewN ?_ _ | refine blk_drew ?_ | refine blk_alloc ?_ _)); exact BK136.out) hb)
                  have n1_ := Aside0.mk (below_step (by repeat (first | (with_reducible first | exact HB.out | apply below_alloc | apply pw_below_drewN | apply below_drew1 | refine below_set ?_ GE136.out) | exact HB.out)) hb)
                  clear BK136
                  clear HB
                  have BK136 := n0_
                  have HB := n1_
                  clear n0_ n1_
                  (try clear hb)
                  (try clear hb2)
                  (try clear hk)
                  (try clear hi)
                  refine hK.out _ _ ⟨(blk_cell BK136.out 0).trans rfl, (blk_cell BK136.out 1).trans rfl, (blk_cell BK136.out 2).trans rfl, (blk_cell BK136.out 3).trans rfl, (blk_cell BK136.out 4).trans rfl, (blk_cell BK136.out 5).trans rfl, (blk_cell BK136.out 6).trans rfl, (blk_cell BK136.out 7).trans rfl⟩ (fun hHeld => ?_)
                  clear hK K
                  refine norm_ (a' := ?_) ?_ ?_
                  rotate_left
                  · show Act.put _ (some 57) _ = _
                    simp only [Act.put, List.setIfInBounds_toArray, List.set_cons_zero, List.set_cons_succ, i64_w, i32_w]
                    rfl
                  refine pure_ (i := 11) (N := some 58) (v := ?_) (a' := ?_) #[true, true, true, true, true, true, true, true, true, true, true, true, false] rfl rfl (any_of HT_.out (by kernel_rfl)) (fun _ _ _ h => h) (Or.inl ⟨by rfl, ?_⟩) ?_ ?_
                  rotate_left
                  · intro w'
                    go_simp
                    first | (with_reducible rfl) | rfl
                  rotate_left
                  · simp only [Act.put, List.setIfInBounds_toArray, List.set_cons_zero, List.set_cons_succ, i64_w, i32_w]
                    rfl
                  refine pure_ (i := 12) (N := some 2) (v := ?_) (a' := ?_) #[true, true, true, true, true, true, true, true, true, true, true, true, true] rfl rfl (any_of HT_.out (by kernel_rfl)) (fun _ _ _ h => h) (Or.inl ⟨by rfl, ?_⟩) ?_ ?_
                  rotate_left
                  · intro w'
                    go_simp
                    first | (with_reducible rfl) | rfl
                  rotate_left
                  · simp only [Act.put, List.setIfInBounds_toArray, List.set_cons_zero, List.set_cons_succ, i64_w, i32_w]
                    rfl
                  refine done_ (done_of HT_.out (by kernel_rfl)) ?_
                  try go_wp2
                  go_ret
                  exact ⟨by first | rfl | (simp [errW_none, errW_some] <;> rfl) | (simp [*, errW_none, errW_some] <;> rfl), by repeat (first | (with_reducible first | exact HB.out | apply below_alloc | apply pw_below_drewN | apply below_drew1 | refine below_set ?_ GE136.out) | exact HB.out)⟩
                · rw [if_neg c45] at H
                  exact absurd H (by simp)
              · rw [if_neg c43] at H
                exact absurd H (by simp)
            · rw [if_neg c42] at H
              exact absurd H (by simp)
          · rw [if_neg c41] at H
            exact absurd H (by simp)
        · rw [if_neg c40] at H
          exact absurd H (by simp)
  · replace c3 := Bool.eq_false_iff.mpr c3
    subst c3
    have H1 : (some (⟨#[]⟩ : ByteArray)) = some r := by rw [if_neg (show ¬ (false = true) by decide)] at H; exact H
    clear H
    have H := H1
    clear H1
    obtain rfl := Option.some.inj H
    go_enter Tryd.func20, Tryd.ntmps20
    go_wp2_with (first | ((with_reducible refine gate_dst (N := 1) rfl ?_); refine box_event ?hg (N := 1) ?hd (cs := #[.string a0_0, .int .i64 a0_1, .string a0_2, .int .i64 a0_3, .int .i64 a0_4, .int .i64 a0_5, .int .i64 a0_6, .int .i64 a0_7]) (t := 38) ?hr ?_; (case hd => rfl); (case hg => rfl); (case hr => first | (go_simp; done) | (go_simp; rfl)); intro gb136 hg w52 hbox hb; have n0_ := Aside0.mk (below_step (by repeat (first | (with_reducible first | exact HB.out | apply below_alloc | apply pw_below_drewN | apply below_drew1) | exact HB.out)) hb); have n1_ := Aside0.mk (hbox); have n2_ := Aside0.mk ((by rw [hg]; exact (below_size (by repeat (first | (with_reducible first | exact HB.out | apply below_alloc | apply pw_below_drewN | apply below_drew1) | exact HB.out))) : w.heap.size ≤ gb136)); have n3_ := Aside0.mk ((by rw [hg]; exact (below_size (by repeat (first | (with_reducible first | exact HB.out | apply below_alloc | apply pw_below_drewN | apply below_drew1) | exact HB.out))) : w.heap.size ≤ gb136)); clear HB; have HB := n0_; have BK136 := n1_; have GW136 := n2_; have GE136 := n3_; clear n0_ n1_ n2_ n3_; clear hb hbox hg; have hcz53_0 : w52.cell? ⟨gb136, 0, none⟩ = some (.string a0_0) := (blk_cell BK136.out 0).trans rfl; have hcz53_1 : w52.cell? ⟨gb136, 1, none⟩ = some (.int .i64 a0_1) := (blk_cell BK136.out 1).trans rfl; have hcz53_2 : w52.cell? ⟨gb136, 2, none⟩ = some (.string a0_2) := (blk_cell BK136.out 2).trans rfl; have hcz53_3 : w52.cell? ⟨gb136, 3, none⟩ = some (.int .i64 a0_3) := (blk_cell BK136.out 3).trans rfl; have hcz53_4 : w52.cell? ⟨gb136, 4, none⟩ = some (.int .i64 a0_4) := (blk_cell BK136.out 4).trans rfl; have hcz53_5 : w52.cell? ⟨gb136, 5, none⟩ = some (.int .i64 a0_5) := (blk_cell BK136.out 5).trans rfl; have hcz53_6 : w52.cell? ⟨gb136, 6, none⟩ = some (.int .i64 a0_6) := (blk_cell BK136.out 6).trans rfl; have hcz53_7 : w52.cell? ⟨gb136, 7, none⟩ = some (.int .i64 a0_7) := (blk_cell BK136.out 7).trans rfl; have hfz53_0 := blk_frozen BK136.out 0; have hfz53_1 := blk_frozen BK136.out 1; have hfz53_2 := blk_frozen BK136.out 2; have hfz53_3 := blk_frozen BK136.out 3; have hfz53_4 := blk_frozen BK136.out 4; have hfz53_5 := blk_frozen BK136.out 5; have hfz53_6 := blk_frozen BK136.out 6; have hfz53_7 := blk_frozen BK136.out 7) | ((with_reducible refine gate_callee (f := 21) rfl ?_); refine goesL_ (some 4) rfl rfl Tryd.func21 (by kernel_rfl) rfl #[.agg #[.string a0_0, .int .i64 a0_1, .string a0_2, .int .i64 a0_3, .int .i64 a0_4, .int .i64 a0_5, .int .i64 a0_6, .int .i64 a0_7]] rfl (by (try simp only [List.map_toArray, List.map_cons, List.map_nil]); first | done | rfl | (simp only [List.length_drop, List.length_take]; rfl)) ?_; (with_reducible refine (impl_IsDevice.calls k a0_0 a0_1 a0_2 a0_3 a0_4 a0_5 a0_6 a0_7 false _ A2.out).mono ?_); rintro e w54 ⟨rfl, hb⟩; refine ⟨_, rfl, ?_⟩; have n0_ := Aside0.mk (blk_below (g := gb136) (o := .cells #[.string a0_0, .int .i64 a0_1, .string a0_2, .int .i64 a0_3, .int .i64 a0_4, .int .i64 a0_5, .int .i64 a0_6, .int .i64 a0_7] 38 (0, 0)) (by (with_reducible repeat (first | refine blk_drewN ?_ _ | refine blk_drew ?_ | refine blk_alloc ?_ _)); exact BK136.out) hb); have n1_ := Aside0.mk (below_step (by repeat (first | (with_reducible first | exact HB.out | apply below_alloc | apply pw_below_drewN | apply below_drew1 | refine below_set ?_ GE136.out) | exact HB.out)) hb); clear BK136; clear HB; have BK136 := n0_; have HB := n1_; clear n0_ n1_; (try clear hb); (try clear hb2); (try clear hk); (try clear hi)))
    go_ret
    exact ⟨by first | rfl | (simp [errW_none, errW_some] <;> rfl) | (simp [*, errW_none, errW_some] <;> rfl), by repeat (first | (with_reducible first | exact HB.out | apply below_alloc | apply pw_below_drewN | apply below_drew1 | refine below_set ?_ GE136.out) | exact HB.out)⟩

/-! ### laws_szDevice: function 29 -/
def laws_szDevice.f (a0_0 : ByteArray) (a0_1 : Int) (a0_2 : ByteArray) (a0_3 : Int) (a0_4 : Int) (a0_5 : Int) (a0_6 : Int) (a0_7 : Int) (a1 : Int) : Option (Int) := if (wrap64 (a1 - (a0_0.size : Int))) < 0 then (some (-1)) else (if (wrap64 ((wrap64 (a1 - (a0_0.size : Int))) - (a0_2.size : Int))) < 0 then (some (-1)) else (some (wrap64 ((wrap64 (a1 - (a0_0.size : Int))) - (a0_2.size : Int)))))
set_option maxHeartbeats 8000000 in
set_option maxRecDepth 100000 in
theorem laws_szDevice.calls (a0_0 : ByteArray) (a0_1 : Int) (a0_2 : ByteArray) (a0_3 : Int) (a0_4 : Int) (a0_5 : Int) (a0_6 : Int) (a0_7 : Int) (a1 : Int) (r : Int) (w : World) (h : laws_szDevice.f a0_0 a0_1 a0_2 a0_3 a0_4 a0_5 a0_6 a0_7 a1 = some r) :
    Calls Tryd.prog 29 #[.agg #[.string a0_0, .int .i64 a0_1, .string a0_2, .int .i64 a0_3, .int .i64 a0_4, .int .i64 a0_5, .int .i64 a0_6, .int .i64 a0_7], .int .i64 a1] w fun e w' => e = .returned (.int .i64 r) ∧ Below w.heap.size w w' := by
  have hu52 := Tryd.underlying52
  have HB := Aside0.mk (Below.refl w.heap.size w)
  have H : (if (wrap64 (a1 - (a0_0.size : Int))) < 0 then (some (-1)) else (if (wrap64 ((wrap64 (a1 - (a0_0.size : Int))) - (a0_2.size : Int))) < 0 then (some (-1)) else (some (wrap64 ((wrap64 (a1 - (a0_0.size : Int))) - (a0_2.size : Int)))))) = some r := h
  clear h
  by_cases c3 : (wrap64 (a1 - (a0_0.size : Int))) < 0
  · rw [if_pos c3] at H
    have c3b0 : decide ((wrap64 (a1 - (a0_0.size : Int))) < 0) = true := decide_eq_true c3
    clear c3
    obtain rfl := Option.some.inj H
    go_enter Tryd.func29, Tryd.ntmps29
    go_wp2_with (first | ((with_reducible refine gate_dst (N := 2) rfl ?_); refine box_event ?hg (N := 2) ?hd (cs := #[.string a0_0, .int .i64 a0_1, .string a0_2, .int .i64 a0_3, .int .i64 a0_4, .int .i64 a0_5, .int .i64 a0_6, .int .i64 a0_7]) (t := 52) ?hr ?_; (case hd => rfl); (case hg => rfl); (case hr => first | (go_simp; done) | (go_simp; rfl)); intro gb144 hg w4 hbox hb; have n0_ := Aside0.mk (below_step (by repeat (first | (with_reducible first | exact HB.out | apply below_alloc | apply pw_below_drewN | apply below_drew1) | exact HB.out)) hb); have n1_ := Aside0.mk (hbox); have n2_ := Aside0.mk ((by rw [hg]; exact (below_size (by repeat (first | (with_reducible first | exact HB.out | apply below_alloc | apply pw_below_drewN | apply below_drew1) | exact HB.out))) : w.heap.size ≤ gb144)); have n3_ := Aside0.mk ((by rw [hg]; exact (below_size (by repeat (first | (with_reducible first | exact HB.out | apply below_alloc | apply pw_below_drewN | apply below_drew1) | exact HB.out))) : w.heap.size ≤ gb144)); clear HB; have HB := n0_; have BK144 := n1_; have GW144 := n2_; have GE144 := n3_; clear n0_ n1_ n2_ n3_; clear hb hbox hg; have hcz5_0 : w4.cell? ⟨gb144, 0, none⟩ = some (.string a0_0) := (blk_cell BK144.out 0).trans rfl; have hcz5_1 : w4.cell? ⟨gb144, 1, none⟩ = some (.int .i64 a0_1) := (blk_cell BK144.out 1).trans rfl; have hcz5_2 : w4.cell? ⟨gb144, 2, none⟩ = some (.string a0_2) := (blk_cell BK144.out 2).trans rfl; have hcz5_3 : w4.cell? ⟨gb144, 3, none⟩ = some (.int .i64 a0_3) := (blk_cell BK144.out 3).trans rfl; have hcz5_4 : w4.cell? ⟨gb144, 4, none⟩ = some (.int .i64 a0_4) := (blk_cell BK144.out 4).trans rfl; have hcz5_5 : w4.cell? ⟨gb144, 5, none⟩ = some (.int .i64 a0_5) := (blk_cell BK144.out 5).trans rfl; have hcz5_6 : w4.cell? ⟨gb144, 6, none⟩ = some (.int .i64 a0_6) := (blk_cell BK144.out 6).trans rfl; have hcz5_7 : w4.cell? ⟨gb144, 7, none⟩ = some (.int .i64 a0_7) := (blk_cell BK144.out 7).trans rfl; have hfz5_0 := blk_frozen BK144.out 0; have hfz5_1 := blk_frozen BK144.out 1; have hfz5_2 := blk_frozen BK144.out 2; have hfz5_3 := blk_frozen BK144.out 3; have hfz5_4 := blk_frozen BK144.out 4; have hfz5_5 := blk_frozen BK144.out 5; have hfz5_6 := blk_frozen BK144.out 6; have hfz5_7 := blk_frozen BK144.out 7))
    go_ret
    exact ⟨by first | rfl | (simp [errW_none, errW_some] <;> rfl) | (simp [*, errW_none, errW_some] <;> rfl), by repeat (first | (with_reducible first | exact HB.out | apply below_alloc | apply pw_below_drewN | apply below_drew1 | refine below_set ?_ GE144.out) | exact HB.out)⟩
  · rw [if_neg c3] at H
    have c3b0 : decide ((wrap64 (a1 - (a0_0.size : Int))) < 0) = false := decide_eq_false c3
    clear c3
    by_cases c6 : (wrap64 ((wrap64 (a1 - (a0_0.size : Int))) - (a0_2.size : Int))) < 0
    · rw [if_pos c6] at H
      have c6b0 : decide ((wrap64 ((wrap64 (a1 - (a0_0.size : Int))) - (a0_2.size : Int))) < 0) = true := decide_eq_true c6
      clear c6
      obtain rfl := Option.some.inj H
      go_enter Tryd.func29, Tryd.ntmps29
      go_wp2_with (first | ((with_reducible refine gate_dst (N := 2) rfl ?_); refine box_event ?hg (N := 2) ?hd (cs := #[.string a0_0, .int .i64 a0_1, .string a0_2, .int .i64 a0_3, .int .i64 a0_4, .int .i64 a0_5, .int .i64 a0_6, .int .i64 a0_7]) (t := 52) ?hr ?_; (case hd => rfl); (case hg => rfl); (case hr => first | (go_simp; done) | (go_simp; rfl)); intro gb144 hg w7 hbox hb; have n0_ := Aside0.mk (below_step (by repeat (first | (with_reducible first | exact HB.out | apply below_alloc | apply pw_below_drewN | apply below_drew1) | exact HB.out)) hb); have n1_ := Aside0.mk (hbox); have n2_ := Aside0.mk ((by rw [hg]; exact (below_size (by repeat (first | (with_reducible first | exact HB.out | apply below_alloc | apply pw_below_drewN | apply below_drew1) | exact HB.out))) : w.heap.size ≤ gb144)); have n3_ := Aside0.mk ((by rw [hg]; exact (below_size (by repeat (first | (with_reducible first | exact HB.out | apply below_alloc | apply pw_below_drewN | apply below_drew1) | exact HB.out))) : w.heap.size ≤ gb144)); clear HB; have HB := n0_; have BK144 := n1_; have GW144 := n2_; have GE144 := n3_; clear n0_ n1_ n2_ n3_; clear hb hbox hg; have hcz8_0 : w7.cell? ⟨gb144, 0, none⟩ = some (.string a0_0) := (blk_cell BK144.out 0).trans rfl; have hcz8_1 : w7.cell? ⟨gb144, 1, none⟩ = some (.int .i64 a0_1) := (blk_cell BK144.out 1).trans rfl; have hcz8_2 : w7.cell? ⟨gb144, 2, none⟩ = some (.string a0_2) := (blk_cell BK144.out 2).trans rfl; have hcz8_3 : w7.cell? ⟨gb144, 3, none⟩ = some (.int .i64 a0_3) := (blk_cell BK144.out 3).trans rfl; have hcz8_4 : w7.cell? ⟨gb144, 4, none⟩ = some (.int .i64 a0_4) := (blk_cell BK144.out 4).trans rfl; have hcz8_5 : w7.cell? ⟨gb144, 5, none⟩ = some (.int .i64 a0_5) := (blk_cell BK144.out 5).trans rfl; have hcz8_6 : w7.cell? ⟨gb144, 6, none⟩ = some (.int .i64 a0_6) := (blk_cell BK144.out 6).trans rfl; have hcz8_7 : w7.cell? ⟨gb144, 7, none⟩ = some (.int .i64 a0_7) := (blk_cell BK144.out 7).trans rfl; have hfz8_0 := blk_frozen BK144.out 0; have hfz8_1 := blk_frozen BK144.out 1; have hfz8_2 := blk_frozen BK144.out 2; have hfz8_3 := blk_frozen BK144.out 3; have hfz8_4 := blk_frozen BK144.out 4; have hfz8_5 := blk_frozen BK144.out 5; have hfz8_6 := blk_frozen BK144.out 6; have hfz8_7 := blk_frozen BK144.out 7))
      go_ret
      exact ⟨by first | rfl | (simp [errW_none, errW_some] <;> rfl) | (simp [*, errW_none, errW_some] <;> rfl), by repeat (first | (with_reducible first | exact HB.out | apply below_alloc | apply pw_below_drewN | apply below_drew1 | refine below_set ?_ GE144.out) | exact HB.out)⟩
    · rw [if_neg c6] at H
      have c6b0 : decide ((wrap64 ((wrap64 (a1 - (a0_0.size : Int))) - (a0_2.size : Int))) < 0) = false := decide_eq_false c6
      clear c6
      obtain rfl := Option.some.inj H
      go_enter Tryd.func29, Tryd.ntmps29
      go_wp2_with (first | ((with_reducible refine gate_dst (N := 2) rfl ?_); refine box_event ?hg (N := 2) ?hd (cs := #[.string a0_0, .int .i64 a0_1, .string a0_2, .int .i64 a0_3, .int .i64 a0_4, .int .i64 a0_5, .int .i64 a0_6, .int .i64 a0_7]) (t := 52) ?hr ?_; (case hd => rfl); (case hg => rfl); (case hr => first | (go_simp; done) | (go_simp; rfl)); intro gb144 hg w9 hbox hb; have n0_ := Aside0.mk (below_step (by repeat (first | (with_reducible first | exact HB.out | apply below_alloc | apply pw_below_drewN | apply below_drew1) | exact HB.out)) hb); have n1_ := Aside0.mk (hbox); have n2_ := Aside0.mk ((by rw [hg]; exact (below_size (by repeat (first | (with_reducible first | exact HB.out | apply below_alloc | apply pw_below_drewN | apply below_drew1) | exact HB.out))) : w.heap.size ≤ gb144)); have n3_ := Aside0.mk ((by rw [hg]; exact (below_size (by repeat (first | (with_reducible first | exact HB.out | apply below_alloc | apply pw_below_drewN | apply below_drew1) | exact HB.out))) : w.heap.size ≤ gb144)); clear HB; have HB := n0_; have BK144 := n1_; have GW144 := n2_; have GE144 := n3_; clear n0_ n1_ n2_ n3_; clear hb hbox hg; have hcz10_0 : w9.cell? ⟨gb144, 0, none⟩ = some (.string a0_0) := (blk_cell BK144.out 0).trans rfl; have hcz10_1 : w9.cell? ⟨gb144, 1, none⟩ = some (.int .i64 a0_1) := (blk_cell BK144.out 1).trans rfl; have hcz10_2 : w9.cell? ⟨gb144, 2, none⟩ = some (.string a0_2) := (blk_cell BK144.out 2).trans rfl; have hcz10_3 : w9.cell? ⟨gb144, 3, none⟩ = some (.int .i64 a0_3) := (blk_cell BK144.out 3).trans rfl; have hcz10_4 : w9.cell? ⟨gb144, 4, none⟩ = some (.int .i64 a0_4) := (blk_cell BK144.out 4).trans rfl; have hcz10_5 : w9.cell? ⟨gb144, 5, none⟩ = some (.int .i64 a0_5) := (blk_cell BK144.out 5).trans rfl; have hcz10_6 : w9.cell? ⟨gb144, 6, none⟩ = some (.int .i64 a0_6) := (blk_cell BK144.out 6).trans rfl; have hcz10_7 : w9.cell? ⟨gb144, 7, none⟩ = some (.int .i64 a0_7) := (blk_cell BK144.out 7).trans rfl; have hfz10_0 := blk_frozen BK144.out 0; have hfz10_1 := blk_frozen BK144.out 1; have hfz10_2 := blk_frozen BK144.out 2; have hfz10_3 := blk_frozen BK144.out 3; have hfz10_4 := blk_frozen BK144.out 4; have hfz10_5 := blk_frozen BK144.out 5; have hfz10_6 := blk_frozen BK144.out 6; have hfz10_7 := blk_frozen BK144.out 7))
      go_ret
      exact ⟨by first | rfl | (simp [errW_none, errW_some] <;> rfl) | (simp [*, errW_none, errW_some] <;> rfl), by repeat (first | (with_reducible first | exact HB.out | apply below_alloc | apply pw_below_drewN | apply below_drew1 | refine below_set ?_ GE144.out) | exact HB.out)⟩

/-! ### spec_l1In: function 43 -/
def spec_l1In.f (a0 : Int) (a1 : Int) (a2 : Int) : Option (Bool) := if a0 ≥ a1 then (some (decide (a0 ≤ a2))) else (some false)
set_option maxHeartbeats 8000000 in
set_option maxRecDepth 100000 in
theorem spec_l1In.calls (a0 : Int) (a1 : Int) (a2 : Int) (r : Bool) (w : World) (h : spec_l1In.f a0 a1 a2 = some r) :
    Calls Tryd.prog 43 #[.int .i64 a0, .int .i64 a1, .int .i64 a2] w fun e w' => e = .returned (.bool r) ∧ Drawn0 w w' := by
  have H : (if a0 ≥ a1 then (some (decide (a0 ≤ a2))) else (some false)) = some r := h
  clear h
  by_cases c4 : a0 ≥ a1
  · rw [if_pos c4] at H
    have c4b0 : decide (a1 ≤ a0) = true := decide_eq_true c4
    clear c4
    obtain rfl := Option.some.inj H
    go_enter Tryd.func43, Tryd.ntmps43
    go_wp2
    go_ret
    exact ⟨by first | rfl | (simp; done) | (simp [*]; done), by repeat (first | exact Drawn0.refl _ | apply Drawn0.step)⟩
  · rw [if_neg c4] at H
    have c4b0 : decide (a1 ≤ a0) = false := decide_eq_false c4
    clear c4
    obtain rfl := Option.some.inj H
    go_enter Tryd.func43, Tryd.ntmps43
    go_wp2
    go_ret
    exact ⟨by first | rfl | (simp; done) | (simp [*]; done), by repeat (first | exact Drawn0.refl _ | apply Drawn0.step)⟩

end Go.Proofs.YthofcclbkihemaaDoor.MFnExactFormatDevice
