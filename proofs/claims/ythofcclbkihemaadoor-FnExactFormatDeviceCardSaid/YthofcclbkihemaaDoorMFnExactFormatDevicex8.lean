-- Written by a program for this claim.
import Derived.Test.YthofcclbkihemaaDoorMFnExactFormatDevicex0
import Derived.Test.YthofcclbkihemaaDoorMFnExactFormatDevicex6
import Derived.Test.YthofcclbkihemaaDoorMFnExactFormatDevicex7
namespace Go.Proofs.YthofcclbkihemaaDoor.MFnExactFormatDevice
open Go.RowKit Go.Proofs.YthofcclbkihemaaDoorW.PrintWords Go.Proofs.YthofcclbkihemaaDoorW.PrintLast Go.Proofs.YthofcclbkihemaaDoorW.PrintMore
attribute [local go_sem] max2_int min2_int max_two min_two max_three min_three max_four min_four   -- for this text's walks alone
set_option linter.unusedVariables false
set_option linter.unusedSimpArgs false

/-! ### spec_FormatDevice: function 30 -/
def spec_FormatDevice.f (k : Nat) (a0_0 : ByteArray) (a0_1 : Int) (a0_2 : ByteArray) (a0_3 : Int) (a0_4 : Int) (a0_5 : Int) (a0_6 : Int) (a0_7 : Int) : Option (ByteArray) := (spec_IsDevice.f k a0_0 a0_1 a0_2 a0_3 a0_4 a0_5 a0_6 a0_7).bind fun t186 => (if t186 = true then (if a0_1 = 1 then (if 5 + a0_0.size ≤ 9223372036854775807 then (if ((⟨#[112, 117, 109, 112, 32]⟩ : ByteArray) ++ a0_0).size + 6 ≤ 9223372036854775807 then ((spec_FormatMeasure.f k a0_7).bind fun t187 => (if (((⟨#[112, 117, 109, 112, 32]⟩ : ByteArray) ++ a0_0) ++ (⟨#[32, 109, 111, 115, 116, 32]⟩ : ByteArray)).size + t187.size ≤ 9223372036854775807 then (some ((((⟨#[112, 117, 109, 112, 32]⟩ : ByteArray) ++ a0_0) ++ (⟨#[32, 109, 111, 115, 116, 32]⟩ : ByteArray)) ++ t187)) else (none))) else (none)) else (none)) else (if a0_1 = 2 then (if 7 + a0_0.size ≤ 9223372036854775807 then (if ((⟨#[110, 111, 122, 122, 108, 101, 32]⟩ : ByteArray) ++ a0_0).size + 4 ≤ 9223372036854775807 then (if (((⟨#[110, 111, 122, 122, 108, 101, 32]⟩ : ByteArray) ++ a0_0) ++ (⟨#[32, 111, 110, 32]⟩ : ByteArray)).size + a0_2.size ≤ 9223372036854775807 then (if ((((⟨#[110, 111, 122, 122, 108, 101, 32]⟩ : ByteArray) ++ a0_0) ++ (⟨#[32, 111, 110, 32]⟩ : ByteArray)) ++ a0_2).size + 4 ≤ 9223372036854775807 then ((spec_FormatPlace.f k a0_3 a0_4).bind fun t188 => (if (((((⟨#[110, 111, 122, 122, 108, 101, 32]⟩ : ByteArray) ++ a0_0) ++ (⟨#[32, 111, 110, 32]⟩ : ByteArray)) ++ a0_2) ++ (⟨#[32, 97, 116, 32]⟩ : ByteArray)).size + t188.size ≤ 9223372036854775807 then (if ((((((⟨#[110, 111, 122, 122, 108, 101, 32]⟩ : ByteArray) ++ a0_0) ++ (⟨#[32, 111, 110, 32]⟩ : ByteArray)) ++ a0_2) ++ (⟨#[32, 97, 116, 32]⟩ : ByteArray)) ++ t188).size + 9 ≤ 9223372036854775807 then ((spec_FormatNumber.f k a0_5).bind fun t189 => (if (((((((⟨#[110, 111, 122, 122, 108, 101, 32]⟩ : ByteArray) ++ a0_0) ++ (⟨#[32, 111, 110, 32]⟩ : ByteArray)) ++ a0_2) ++ (⟨#[32, 97, 116, 32]⟩ : ByteArray)) ++ t188) ++ (⟨#[32, 104, 101, 97, 100, 105, 110, 103, 32]⟩ : ByteArray)).size + t189.size ≤ 9223372036854775807 then (if ((((((((⟨#[110, 111, 122, 122, 108, 101, 32]⟩ : ByteArray) ++ a0_0) ++ (⟨#[32, 111, 110, 32]⟩ : ByteArray)) ++ a0_2) ++ (⟨#[32, 97, 116, 32]⟩ : ByteArray)) ++ t188) ++ (⟨#[32, 104, 101, 97, 100, 105, 110, 103, 32]⟩ : ByteArray)) ++ t189).size + 6 ≤ 9223372036854775807 then ((spec_FormatMeasure.f k a0_6).bind fun t190 => (if (((((((((⟨#[110, 111, 122, 122, 108, 101, 32]⟩ : ByteArray) ++ a0_0) ++ (⟨#[32, 111, 110, 32]⟩ : ByteArray)) ++ a0_2) ++ (⟨#[32, 97, 116, 32]⟩ : ByteArray)) ++ t188) ++ (⟨#[32, 104, 101, 97, 100, 105, 110, 103, 32]⟩ : ByteArray)) ++ t189) ++ (⟨#[32, 116, 105, 108, 116, 32]⟩ : ByteArray)).size + t190.size ≤ 9223372036854775807 then (if ((((((((((⟨#[110, 111, 122, 122, 108, 101, 32]⟩ : ByteArray) ++ a0_0) ++ (⟨#[32, 111, 110, 32]⟩ : ByteArray)) ++ a0_2) ++ (⟨#[32, 97, 116, 32]⟩ : ByteArray)) ++ t188) ++ (⟨#[32, 104, 101, 97, 100, 105, 110, 103, 32]⟩ : ByteArray)) ++ t189) ++ (⟨#[32, 116, 105, 108, 116, 32]⟩ : ByteArray)) ++ t190).size + 6 ≤ 9223372036854775807 then ((spec_FormatMeasure.f k a0_7).bind fun t191 => (if (((((((((((⟨#[110, 111, 122, 122, 108, 101, 32]⟩ : ByteArray) ++ a0_0) ++ (⟨#[32, 111, 110, 32]⟩ : ByteArray)) ++ a0_2) ++ (⟨#[32, 97, 116, 32]⟩ : ByteArray)) ++ t188) ++ (⟨#[32, 104, 101, 97, 100, 105, 110, 103, 32]⟩ : ByteArray)) ++ t189) ++ (⟨#[32, 116, 105, 108, 116, 32]⟩ : ByteArray)) ++ t190) ++ (⟨#[32, 109, 111, 115, 116, 32]⟩ : ByteArray)).size + t191.size ≤ 9223372036854775807 then (some ((((((((((((⟨#[110, 111, 122, 122, 108, 101, 32]⟩ : ByteArray) ++ a0_0) ++ (⟨#[32, 111, 110, 32]⟩ : ByteArray)) ++ a0_2) ++ (⟨#[32, 97, 116, 32]⟩ : ByteArray)) ++ t188) ++ (⟨#[32, 104, 101, 97, 100, 105, 110, 103, 32]⟩ : ByteArray)) ++ t189) ++ (⟨#[32, 116, 105, 108, 116, 32]⟩ : ByteArray)) ++ t190) ++ (⟨#[32, 109, 111, 115, 116, 32]⟩ : ByteArray)) ++ t191)) else (none))) else (none)) else (none))) else (none)) else (none))) else (none)) else (none))) else (none)) else (none)) else (none)) else (none)) else (if 5 + a0_0.size ≤ 9223372036854775807 then (if ((⟨#[108, 97, 109, 112, 32]⟩ : ByteArray) ++ a0_0).size + 4 ≤ 9223372036854775807 then (if (((⟨#[108, 97, 109, 112, 32]⟩ : ByteArray) ++ a0_0) ++ (⟨#[32, 111, 110, 32]⟩ : ByteArray)).size + a0_2.size ≤ 9223372036854775807 then (if ((((⟨#[108, 97, 109, 112, 32]⟩ : ByteArray) ++ a0_0) ++ (⟨#[32, 111, 110, 32]⟩ : ByteArray)) ++ a0_2).size + 4 ≤ 9223372036854775807 then ((spec_FormatPlace.f k a0_3 a0_4).bind fun t192 => (if (((((⟨#[108, 97, 109, 112, 32]⟩ : ByteArray) ++ a0_0) ++ (⟨#[32, 111, 110, 32]⟩ : ByteArray)) ++ a0_2) ++ (⟨#[32, 97, 116, 32]⟩ : ByteArray)).size + t192.size ≤ 9223372036854775807 then (some ((((((⟨#[108, 97, 109, 112, 32]⟩ : ByteArray) ++ a0_0) ++ (⟨#[32, 111, 110, 32]⟩ : ByteArray)) ++ a0_2) ++ (⟨#[32, 97, 116, 32]⟩ : ByteArray)) ++ t192)) else (none))) else (none)) else (none)) else (none)) else (none)))) else (some (⟨#[]⟩ : ByteArray)))
theorem spec_FormatDevice.mono : ∀ a0 a1 a2 a3 a4 a5 a6 a7 k, LeO (spec_FormatDevice.f k a0 a1 a2 a3 a4 a5 a6 a7) (spec_FormatDevice.f (k + 1) a0 a1 a2 a3 a4 a5 a6 a7) := by
  intro a0 a1 a2 a3 a4 a5 a6 a7 k
  unfold spec_FormatDevice.f
  repeat' first
      | (with_reducible exact spec_FormatMeasure.mono _ _)
      | (with_reducible exact spec_FormatNumber.mono _ _)
      | (with_reducible exact spec_FormatPlace.mono _ _ _)
      | (with_reducible exact spec_IsDevice.mono _ _ _ _ _ _ _ _ _)
      | (with_reducible exact LeO.refl _)
      | (with_reducible exact LeO.none _)
      | (with_reducible refine LeO.ite ?_ ?_)
      | (with_reducible refine LeO.bind ?_ (fun _ => ?_))
      | exact spec_FormatMeasure.mono _ _
      | exact spec_FormatNumber.mono _ _
      | exact spec_FormatPlace.mono _ _ _
      | exact spec_IsDevice.mono _ _ _ _ _ _ _ _ _
      | exact LeO.none _
      | refine LeO.ite ?_ ?_
      | refine LeO.bind ?_ (fun _ => ?_)
def spec_FormatDevice.T5 : Bool × List (List Nat × List Nat) := (true, [([], []), ([0], [0]), ([1], [1]), ([2], [2]), ([], []), ([4], [4]), ([5], [5]), ([3, 6], [3, 6]), ([7, 6, 0, 1, 2, 3, 4, 5, 6, 7], [7])])
def spec_FormatDevice.B5 : List Nat := [0, 1, 3, 7, 0, 16, 48, 127, 255]
theorem spec_FormatDevice.tab5 : rtab .any (opsOf Tryd.f30 5) = spec_FormatDevice.T5 := by kernel_rfl
theorem spec_FormatDevice.bits5 : waitsOk spec_FormatDevice.T5.2 spec_FormatDevice.B5 = true := by kernel_rfl
def spec_FormatDevice.T7 : Bool × List (List Nat × List Nat) := (true, [([], []), ([0], [0]), ([1], [1]), ([2], [2]), ([], []), ([4], [4]), ([3, 5], [3, 5]), ([6], [6]), ([], []), ([8], [8]), ([9], [9]), ([7, 10], [7, 10]), ([11], [11]), ([], []), ([13], [13]), ([14, 10], [14]), ([12, 15], [12, 15]), ([16], [16]), ([], []), ([18], [18]), ([19, 15], [19]), ([17, 20], [17, 20]), ([21], [21]), ([], []), ([23], [23]), ([24, 20], [24]), ([22, 25], [22, 25]), ([26, 25, 0, 1, 2, 3, 4, 5, 6, 7, 8, 9, 10, 11, 12, 13, 14, 15, 16, 17, 18, 19, 20, 21, 22, 23, 24, 25, 26], [26])])
def spec_FormatDevice.B7 : List Nat := [0, 1, 3, 7, 0, 16, 63, 127, 0, 256, 768, 2047, 4095, 0, 8192, 26368, 65535, 131071, 0, 262144, 845568, 2097151, 4194303, 0, 8388608, 27059968, 67108863, 134217727]
theorem spec_FormatDevice.tab7 : rtab .any (opsOf Tryd.f30 7) = spec_FormatDevice.T7 := by kernel_rfl
theorem spec_FormatDevice.bits7 : waitsOk spec_FormatDevice.T7.2 spec_FormatDevice.B7 = true := by kernel_rfl
def spec_FormatDevice.T8 : Bool × List (List Nat × List Nat) := (true, [([], []), ([0], [0]), ([1], [1]), ([2], [2]), ([], []), ([4], [4]), ([3, 5], [3, 5]), ([6], [6]), ([], []), ([8], [8]), ([9], [9]), ([7, 10], [7, 10]), ([11, 10, 0, 1, 2, 3, 4, 5, 6, 7, 8, 9, 10, 11], [11])])
def spec_FormatDevice.B8 : List Nat := [0, 1, 3, 7, 0, 16, 63, 127, 0, 256, 768, 2047, 4095]
theorem spec_FormatDevice.tab8 : rtab .any (opsOf Tryd.f30 8) = spec_FormatDevice.T8 := by kernel_rfl
theorem spec_FormatDevice.bits8 : waitsOk spec_FormatDevice.T8.2 spec_FormatDevice.B8 = true := by kernel_rfl
set_option maxHeartbeats 8000000 in
set_option maxRecDepth 100000 in
theorem spec_FormatDevice.calls (k : Nat) (a0_0 : ByteArray) (a0_1 : Int) (a0_2 : ByteArray) (a0_3 : Int) (a0_4 : Int) (a0_5 : Int) (a0_6 : Int) (a0_7 : Int) (r : ByteArray) (w : World) (h : spec_FormatDevice.f k a0_0 a0_1 a0_2 a0_3 a0_4 a0_5 a0_6 a0_7 = some r) :
    Calls Tryd.prog 30 #[.agg #[.string a0_0, .int .i64 a0_1, .string a0_2, .int .i64 a0_3, .int .i64 a0_4, .int .i64 a0_5, .int .i64 a0_6, .int .i64 a0_7]] w fun e w' => e = .returned (.string r) ∧ Below w.heap.size w w' := by
  have hu38 := Tryd.underlying38
  have hu36 := Tryd.underlying36
  have HB := Aside0.mk (Below.refl w.heap.size w)
  have H : ((spec_IsDevice.f k a0_0 a0_1 a0_2 a0_3 a0_4 a0_5 a0_6 a0_7).bind fun t186 => (if t186 = true then (if a0_1 = 1 then (if 5 + a0_0.size ≤ 9223372036854775807 then (if ((⟨#[112, 117, 109, 112, 32]⟩ : ByteArray) ++ a0_0).size + 6 ≤ 9223372036854775807 then ((spec_FormatMeasure.f k a0_7).bind fun t187 => (if (((⟨#[112, 117, 109, 112, 32]⟩ : ByteArray) ++ a0_0) ++ (⟨#[32, 109, 111, 115, 116, 32]⟩ : ByteArray)).size + t187.size ≤ 9223372036854775807 then (some ((((⟨#[112, 117, 109, 112, 32]⟩ : ByteArray) ++ a0_0) ++ (⟨#[32, 109, 111, 115, 116, 32]⟩ : ByteArray)) ++ t187)) else (none))) else (none)) else (none)) else (if a0_1 = 2 then (if 7 + a0_0.size ≤ 9223372036854775807 then (if ((⟨#[110, 111, 122, 122, 108, 101, 32]⟩ : ByteArray) ++ a0_0).size + 4 ≤ 9223372036854775807 then (if (((⟨#[110, 111, 122, 122, 108, 101, 32]⟩ : ByteArray) ++ a0_0) ++ (⟨#[32, 111, 110, 32]⟩ : ByteArray)).size + a0_2.size ≤ 9223372036854775807 then (if ((((⟨#[110, 111, 122, 122, 108, 101, 32]⟩ : ByteArray) ++ a0_0) ++ (⟨#[32, 111, 110, 32]⟩ : ByteArray)) ++ a0_2).size + 4 ≤ 9223372036854775807 then ((spec_FormatPlace.f k a0_3 a0_4).bind fun t188 => (if (((((⟨#[110, 111, 122, 122, 108, 101, 32]⟩ : ByteArray) ++ a0_0) ++ (⟨#[32, 111, 110, 32]⟩ : ByteArray)) ++ a0_2) ++ (⟨#[32, 97, 116, 32]⟩ : ByteArray)).size + t188.size ≤ 9223372036854775807 then (if ((((((⟨#[110, 111, 122, 122, 108, 101, 32]⟩ : ByteArray) ++ a0_0) ++ (⟨#[32, 111, 110, 32]⟩ : ByteArray)) ++ a0_2) ++ (⟨#[32, 97, 116, 32]⟩ : ByteArray)) ++ t188).size + 9 ≤ 9223372036854775807 then ((spec_FormatNumber.f k a0_5).bind fun t189 => (if (((((((⟨#[110, 111, 122, 122, 108, 101, 32]⟩ : ByteArray) ++ a0_0) ++ (⟨#[32, 111, 110, 32]⟩ : ByteArray)) ++ a0_2) ++ (⟨#[32, 97, 116, 32]⟩ : ByteArray)) ++ t188) ++ (⟨#[32, 104, 101, 97, 100, 105, 110, 103, 32]⟩ : ByteArray)).size + t189.size ≤ 9223372036854775807 then (if ((((((((⟨#[110, 111, 122, 122, 108, 101, 32]⟩ : ByteArray) ++ a0_0) ++ (⟨#[32, 111, 110, 32]⟩ : ByteArray)) ++ a0_2) ++ (⟨#[32, 97, 116, 32]⟩ : ByteArray)) ++ t188) ++ (⟨#[32, 104, 101, 97, 100, 105, 110, 103, 32]⟩ : ByteArray)) ++ t189).size + 6 ≤ 9223372036854775807 then ((spec_FormatMeasure.f k a0_6).bind fun t190 => (if (((((((((⟨#[110, 111, 122, 122, 108, 101, 32]⟩ : ByteArray) ++ a0_0) ++ (⟨#[32, 111, 110, 32]⟩ : ByteArray)) ++ a0_2) ++ (⟨#[32, 97, 116, 32]⟩ : ByteArray)) ++ t188) ++ (⟨#[32, 104, 101, 97, 100, 105, 110, 103, 32]⟩ : ByteArray)) ++ t189) ++ (⟨#[32, 116, 105, 108, 116, 32]⟩ : ByteArray)).size + t190.size ≤ 9223372036854775807 then (if ((((((((((⟨#[110, 111, 122, 122, 108, 101, 32]⟩ : ByteArray) ++ a0_0) ++ (⟨#[32, 111, 110, 32]⟩ : ByteArray)) ++ a0_2) ++ (⟨#[32, 97, 116, 32]⟩ : ByteArray)) ++ t188) ++ (⟨#[32, 104, 101, 97, 100, 105, 110, 103, 32]⟩ : ByteArray)) ++ t189) ++ (⟨#[32, 116, 105, 108, 116, 32]⟩ : ByteArray)) ++ t190).size + 6 ≤ 9223372036854775807 then ((spec_FormatMeasure.f k a0_7).bind fun t191 => (if (((((((((((⟨#[110, 111, 122, 122, 108, 101, 32]⟩ : ByteArray) ++ a0_0) ++ (⟨#[32, 111, 110, 32]⟩ : ByteArray)) ++ a0_2) ++ (⟨#[32, 97, 116, 32]⟩ : ByteArray)) ++ t188) ++ (⟨#[32, 104, 101, 97, 100, 105, 110, 103, 32]⟩ : ByteArray)) ++ t189) ++ (⟨#[32, 116, 105, 108, 116, 32]⟩ : ByteArray)) ++ t190) ++ (⟨#[32, 109, 111, 115, 116, 32]⟩ : ByteArray)).size + t191.size ≤ 9223372036854775807 then (some ((((((((((((⟨#[110, 111, 122, 122, 108, 101, 32]⟩ : ByteArray) ++ a0_0) ++ (⟨#[32, 111, 110, 32]⟩ : ByteArray)) ++ a0_2) ++ (⟨#[32, 97, 116, 32]⟩ : ByteArray)) ++ t188) ++ (⟨#[32, 104, 101, 97, 100, 105, 110, 103, 32]⟩ : ByteArray)) ++ t189) ++ (⟨#[32, 116, 105, 108, 116, 32]⟩ : ByteArray)) ++ t190) ++ (⟨#[32, 109, 111, 115, 116, 32]⟩ : ByteArray)) ++ t191)) else (none))) else (none)) else (none))) else (none)) else (none))) else (none)) else (none))) else (none)) else (none)) else (none)) else (none)) else (if 5 + a0_0.size ≤ 9223372036854775807 then (if ((⟨#[108, 97, 109, 112, 32]⟩ : ByteArray) ++ a0_0).size + 4 ≤ 9223372036854775807 then (if (((⟨#[108, 97, 109, 112, 32]⟩ : ByteArray) ++ a0_0) ++ (⟨#[32, 111, 110, 32]⟩ : ByteArray)).size + a0_2.size ≤ 9223372036854775807 then (if ((((⟨#[108, 97, 109, 112, 32]⟩ : ByteArray) ++ a0_0) ++ (⟨#[32, 111, 110, 32]⟩ : ByteArray)) ++ a0_2).size + 4 ≤ 9223372036854775807 then ((spec_FormatPlace.f k a0_3 a0_4).bind fun t192 => (if (((((⟨#[108, 97, 109, 112, 32]⟩ : ByteArray) ++ a0_0) ++ (⟨#[32, 111, 110, 32]⟩ : ByteArray)) ++ a0_2) ++ (⟨#[32, 97, 116, 32]⟩ : ByteArray)).size + t192.size ≤ 9223372036854775807 then (some ((((((⟨#[108, 97, 109, 112, 32]⟩ : ByteArray) ++ a0_0) ++ (⟨#[32, 111, 110, 32]⟩ : ByteArray)) ++ a0_2) ++ (⟨#[32, 97, 116, 32]⟩ : ByteArray)) ++ t192)) else (none))) else (none)) else (none)) else (none)) else (none)))) else (some (⟨#[]⟩ : ByteArray)))) = some r := h
  clear h
  replace H := Option.bind_eq_some_iff.mp H
  obtain ⟨t186, A20, H⟩ := H
  replace H : (if t186 = true then (if a0_1 = 1 then (if 5 + a0_0.size ≤ 9223372036854775807 then (if ((⟨#[112, 117, 109, 112, 32]⟩ : ByteArray) ++ a0_0).size + 6 ≤ 9223372036854775807 then ((spec_FormatMeasure.f k a0_7).bind fun t187 => (if (((⟨#[112, 117, 109, 112, 32]⟩ : ByteArray) ++ a0_0) ++ (⟨#[32, 109, 111, 115, 116, 32]⟩ : ByteArray)).size + t187.size ≤ 9223372036854775807 then (some ((((⟨#[112, 117, 109, 112, 32]⟩ : ByteArray) ++ a0_0) ++ (⟨#[32, 109, 111, 115, 116, 32]⟩ : ByteArray)) ++ t187)) else (none))) else (none)) else (none)) else (if a0_1 = 2 then (if 7 + a0_0.size ≤ 9223372036854775807 then (if ((⟨#[110, 111, 122, 122, 108, 101, 32]⟩ : ByteArray) ++ a0_0).size + 4 ≤ 9223372036854775807 then (if (((⟨#[110, 111, 122, 122, 108, 101, 32]⟩ : ByteArray) ++ a0_0) ++ (⟨#[32, 111, 110, 32]⟩ : ByteArray)).size + a0_2.size ≤ 9223372036854775807 then (if ((((⟨#[110, 111, 122, 122, 108, 101, 32]⟩ : ByteArray) ++ a0_0) ++ (⟨#[32, 111, 110, 32]⟩ : ByteArray)) ++ a0_2).size + 4 ≤ 9223372036854775807 then ((spec_FormatPlace.f k a0_3 a0_4).bind fun t188 => (if (((((⟨#[110, 111, 122, 122, 108, 101, 32]⟩ : ByteArray) ++ a0_0) ++ (⟨#[32, 111, 110, 32]⟩ : ByteArray)) ++ a0_2) ++ (⟨#[32, 97, 116, 32]⟩ : ByteArray)).size + t188.size ≤ 9223372036854775807 then (if ((((((⟨#[110, 111, 122, 122, 108, 101, 32]⟩ : ByteArray) ++ a0_0) ++ (⟨#[32, 111, 110, 32]⟩ : ByteArray)) ++ a0_2) ++ (⟨#[32, 97, 116, 32]⟩ : ByteArray)) ++ t188).size + 9 ≤ 9223372036854775807 then ((spec_FormatNumber.f k a0_5).bind fun t189 => (if (((((((⟨#[110, 111, 122, 122, 108, 101, 32]⟩ : ByteArray) ++ a0_0) ++ (⟨#[32, 111, 110, 32]⟩ : ByteArray)) ++ a0_2) ++ (⟨#[32, 97, 116, 32]⟩ : ByteArray)) ++ t188) ++ (⟨#[32, 104, 101, 97, 100, 105, 110, 103, 32]⟩ : ByteArray)).size + t189.size ≤ 9223372036854775807 then (if ((((((((⟨#[110, 111, 122, 122, 108, 101, 32]⟩ : ByteArray) ++ a0_0) ++ (⟨#[32, 111, 110, 32]⟩ : ByteArray)) ++ a0_2) ++ (⟨#[32, 97, 116, 32]⟩ : ByteArray)) ++ t188) ++ (⟨#[32, 104, 101, 97, 100, 105, 110, 103, 32]⟩ : ByteArray)) ++ t189).size + 6 ≤ 9223372036854775807 then ((spec_FormatMeasure.f k a0_6).bind fun t190 => (if (((((((((⟨#[110, 111, 122, 122, 108, 101, 32]⟩ : ByteArray) ++ a0_0) ++ (⟨#[32, 111, 110, 32]⟩ : ByteArray)) ++ a0_2) ++ (⟨#[32, 97, 116, 32]⟩ : ByteArray)) ++ t188) ++ (⟨#[32, 104, 101, 97, 100, 105, 110, 103, 32]⟩ : ByteArray)) ++ t189) ++ (⟨#[32, 116, 105, 108, 116, 32]⟩ : ByteArray)).size + t190.size ≤ 9223372036854775807 then (if ((((((((((⟨#[110, 111, 122, 122, 108, 101, 32]⟩ : ByteArray) ++ a0_0) ++ (⟨#[32, 111, 110, 32]⟩ : ByteArray)) ++ a0_2) ++ (⟨#[32, 97, 116, 32]⟩ : ByteArray)) ++ t188) ++ (⟨#[32, 104, 101, 97, 100, 105, 110, 103, 32]⟩ : ByteArray)) ++ t189) ++ (⟨#[32, 116, 105, 108, 116, 32]⟩ : ByteArray)) ++ t190).size + 6 ≤ 9223372036854775807 then ((spec_FormatMeasure.f k a0_7).bind fun t191 => (if (((((((((((⟨#[110, 111, 122, 122, 108, 101, 32]⟩ : ByteArray) ++ a0_0) ++ (⟨#[32, 111, 110, 32]⟩ : ByteArray)) ++ a0_2) ++ (⟨#[32, 97, 116, 32]⟩ : ByteArray)) ++ t188) ++ (⟨#[32, 104, 101, 97, 100, 105, 110, 103, 32]⟩ : ByteArray)) ++ t189) ++ (⟨#[32, 116, 105, 108, 116, 32]⟩ : ByteArray)) ++ t190) ++ (⟨#[32, 109, 111, 115, 116, 32]⟩ : ByteArray)).size + t191.size ≤ 9223372036854775807 then (some ((((((((((((⟨#[110, 111, 122, 122, 108, 101, 32]⟩ : ByteArray) ++ a0_0) ++ (⟨#[32, 111, 110, 32]⟩ : ByteArray)) ++ a0_2) ++ (⟨#[32, 97, 116, 32]⟩ : ByteArray)) ++ t188) ++ (⟨#[32, 104, 101, 97, 100, 105, 110, 103, 32]⟩ : ByteArray)) ++ t189) ++ (⟨#[32, 116, 105, 108, 116, 32]⟩ : ByteArray)) ++ t190) ++ (⟨#[32, 109, 111, 115, 116, 32]⟩ : ByteArray)) ++ t191)) else (none))) else (none)) else (none))) else (none)) else (none))) else (none)) else (none))) else (none)) else (none)) else (none)) else (none)) else (if 5 + a0_0.size ≤ 9223372036854775807 then (if ((⟨#[108, 97, 109, 112, 32]⟩ : ByteArray) ++ a0_0).size + 4 ≤ 9223372036854775807 then (if (((⟨#[108, 97, 109, 112, 32]⟩ : ByteArray) ++ a0_0) ++ (⟨#[32, 111, 110, 32]⟩ : ByteArray)).size + a0_2.size ≤ 9223372036854775807 then (if ((((⟨#[108, 97, 109, 112, 32]⟩ : ByteArray) ++ a0_0) ++ (⟨#[32, 111, 110, 32]⟩ : ByteArray)) ++ a0_2).size + 4 ≤ 9223372036854775807 then ((spec_FormatPlace.f k a0_3 a0_4).bind fun t192 => (if (((((⟨#[108, 97, 109, 112, 32]⟩ : ByteArray) ++ a0_0) ++ (⟨#[32, 111, 110, 32]⟩ : ByteArray)) ++ a0_2) ++ (⟨#[32, 97, 116, 32]⟩ : ByteArray)).size + t192.size ≤ 9223372036854775807 then (some ((((((⟨#[108, 97, 109, 112, 32]⟩ : ByteArray) ++ a0_0) ++ (⟨#[32, 111, 110, 32]⟩ : ByteArray)) ++ a0_2) ++ (⟨#[32, 97, 116, 32]⟩ : ByteArray)) ++ t192)) else (none))) else (none)) else (none)) else (none)) else (none)))) else (some (⟨#[]⟩ : ByteArray))) = some r := H
  have A2 := Aside0.mk A20
  clear A20
  by_cases c3 : t186 = true
  · subst c3
    have H1 : (if a0_1 = 1 then (if 5 + a0_0.size ≤ 9223372036854775807 then (if ((⟨#[112, 117, 109, 112, 32]⟩ : ByteArray) ++ a0_0).size + 6 ≤ 9223372036854775807 then ((spec_FormatMeasure.f k a0_7).bind fun t187 => (if (((⟨#[112, 117, 109, 112, 32]⟩ : ByteArray) ++ a0_0) ++ (⟨#[32, 109, 111, 115, 116, 32]⟩ : ByteArray)).size + t187.size ≤ 9223372036854775807 then (some ((((⟨#[112, 117, 109, 112, 32]⟩ : ByteArray) ++ a0_0) ++ (⟨#[32, 109, 111, 115, 116, 32]⟩ : ByteArray)) ++ t187)) else (none))) else (none)) else (none)) else (if a0_1 = 2 then (if 7 + a0_0.size ≤ 9223372036854775807 then (if ((⟨#[110, 111, 122, 122, 108, 101, 32]⟩ : ByteArray) ++ a0_0).size + 4 ≤ 9223372036854775807 then (if (((⟨#[110, 111, 122, 122, 108, 101, 32]⟩ : ByteArray) ++ a0_0) ++ (⟨#[32, 111, 110, 32]⟩ : ByteArray)).size + a0_2.size ≤ 9223372036854775807 then (if ((((⟨#[110, 111, 122, 122, 108, 101, 32]⟩ : ByteArray) ++ a0_0) ++ (⟨#[32, 111, 110, 32]⟩ : ByteArray)) ++ a0_2).size + 4 ≤ 9223372036854775807 then ((spec_FormatPlace.f k a0_3 a0_4).bind fun t188 => (if (((((⟨#[110, 111, 122, 122, 108, 101, 32]⟩ : ByteArray) ++ a0_0) ++ (⟨#[32, 111, 110, 32]⟩ : ByteArray)) ++ a0_2) ++ (⟨#[32, 97, 116, 32]⟩ : ByteArray)).size + t188.size ≤ 9223372036854775807 then (if ((((((⟨#[110, 111, 122, 122, 108, 101, 32]⟩ : ByteArray) ++ a0_0) ++ (⟨#[32, 111, 110, 32]⟩ : ByteArray)) ++ a0_2) ++ (⟨#[32, 97, 116, 32]⟩ : ByteArray)) ++ t188).size + 9 ≤ 9223372036854775807 then ((spec_FormatNumber.f k a0_5).bind fun t189 => (if (((((((⟨#[110, 111, 122, 122, 108, 101, 32]⟩ : ByteArray) ++ a0_0) ++ (⟨#[32, 111, 110, 32]⟩ : ByteArray)) ++ a0_2) ++ (⟨#[32, 97, 116, 32]⟩ : ByteArray)) ++ t188) ++ (⟨#[32, 104, 101, 97, 100, 105, 110, 103, 32]⟩ : ByteArray)).size + t189.size ≤ 9223372036854775807 then (if ((((((((⟨#[110, 111, 122, 122, 108, 101, 32]⟩ : ByteArray) ++ a0_0) ++ (⟨#[32, 111, 110, 32]⟩ : ByteArray)) ++ a0_2) ++ (⟨#[32, 97, 116, 32]⟩ : ByteArray)) ++ t188) ++ (⟨#[32, 104, 101, 97, 100, 105, 110, 103, 32]⟩ : ByteArray)) ++ t189).size + 6 ≤ 9223372036854775807 then ((spec_FormatMeasure.f k a0_6).bind fun t190 => (if (((((((((⟨#[110, 111, 122, 122, 108, 101, 32]⟩ : ByteArray) ++ a0_0) ++ (⟨#[32, 111, 110, 32]⟩ : ByteArray)) ++ a0_2) ++ (⟨#[32, 97, 116, 32]⟩ : ByteArray)) ++ t188) ++ (⟨#[32, 104, 101, 97, 100, 105, 110, 103, 32]⟩ : ByteArray)) ++ t189) ++ (⟨#[32, 116, 105, 108, 116, 32]⟩ : ByteArray)).size + t190.size ≤ 9223372036854775807 then (if ((((((((((⟨#[110, 111, 122, 122, 108, 101, 32]⟩ : ByteArray) ++ a0_0) ++ (⟨#[32, 111, 110, 32]⟩ : ByteArray)) ++ a0_2) ++ (⟨#[32, 97, 116, 32]⟩ : ByteArray)) ++ t188) ++ (⟨#[32, 104, 101, 97, 100, 105, 110, 103, 32]⟩ : ByteArray)) ++ t189) ++ (⟨#[32, 116, 105, 108, 116, 32]⟩ : ByteArray)) ++ t190).size + 6 ≤ 9223372036854775807 then ((spec_FormatMeasure.f k a0_7).bind fun t191 => (if (((((((((((⟨#[110, 111, 122, 122, 108, 101, 32]⟩ : ByteArray) ++ a0_0) ++ (⟨#[32, 111, 110, 32]⟩ : ByteArray)) ++ a0_2) ++ (⟨#[32, 97, 116, 32]⟩ : ByteArray)) ++ t188) ++ (⟨#[32, 104, 101, 97, 100, 105, 110, 103, 32]⟩ : ByteArray)) ++ t189) ++ (⟨#[32, 116, 105, 108, 116, 32]⟩ : ByteArray)) ++ t190) ++ (⟨#[32, 109, 111, 115, 116, 32]⟩ : ByteArray)).size + t191.size ≤ 9223372036854775807 then (some ((((((((((((⟨#[110, 111, 122, 122, 108, 101, 32]⟩ : ByteArray) ++ a0_0) ++ (⟨#[32, 111, 110, 32]⟩ : ByteArray)) ++ a0_2) ++ (⟨#[32, 97, 116, 32]⟩ : ByteArray)) ++ t188) ++ (⟨#[32, 104, 101, 97, 100, 105, 110, 103, 32]⟩ : ByteArray)) ++ t189) ++ (⟨#[32, 116, 105, 108, 116, 32]⟩ : ByteArray)) ++ t190) ++ (⟨#[32, 109, 111, 115, 116, 32]⟩ : ByteArray)) ++ t191)) else (none))) else (none)) else (none))) else (none)) else (none))) else (none)) else (none))) else (none)) else (none)) else (none)) else (none)) else (if 5 + a0_0.size ≤ 9223372036854775807 then (if ((⟨#[108, 97, 109, 112, 32]⟩ : ByteArray) ++ a0_0).size + 4 ≤ 9223372036854775807 then (if (((⟨#[108, 97, 109, 112, 32]⟩ : ByteArray) ++ a0_0) ++ (⟨#[32, 111, 110, 32]⟩ : ByteArray)).size + a0_2.size ≤ 9223372036854775807 then (if ((((⟨#[108, 97, 109, 112, 32]⟩ : ByteArray) ++ a0_0) ++ (⟨#[32, 111, 110, 32]⟩ : ByteArray)) ++ a0_2).size + 4 ≤ 9223372036854775807 then ((spec_FormatPlace.f k a0_3 a0_4).bind fun t192 => (if (((((⟨#[108, 97, 109, 112, 32]⟩ : ByteArray) ++ a0_0) ++ (⟨#[32, 111, 110, 32]⟩ : ByteArray)) ++ a0_2) ++ (⟨#[32, 97, 116, 32]⟩ : ByteArray)).size + t192.size ≤ 9223372036854775807 then (some ((((((⟨#[108, 97, 109, 112, 32]⟩ : ByteArray) ++ a0_0) ++ (⟨#[32, 111, 110, 32]⟩ : ByteArray)) ++ a0_2) ++ (⟨#[32, 97, 116, 32]⟩ : ByteArray)) ++ t192)) else (none))) else (none)) else (none)) else (none)) else (none)))) = some r := by rw [if_pos rfl] at H; exact H
    clear H
    have H := H1
    clear H1
    by_cases c4 : a0_1 = 1
    · rw [if_pos c4] at H
      have c4b0 : (a0_1 == 1) = true := beq_iff_eq.mpr c4
      have c4b1 : (a0_1 != 1) = false := bne_eq_false_iff_eq.mpr c4
      clear c4
      by_cases c5 : 5 + a0_0.size ≤ 9223372036854775807
      · rw [if_pos c5] at H
        have c5b0 := eq_true c5
        have c5b1 : decide (5 + a0_0.size ≤ 9223372036854775807) = true := decide_eq_true c5
        try have c5b2 : (9223372036854775807 < 5 + a0_0.size) = False := eq_false (Nat.not_lt.2 c5)
        by_cases c6 : ((⟨#[112, 117, 109, 112, 32]⟩ : ByteArray) ++ a0_0).size + 6 ≤ 9223372036854775807
        · rw [if_pos c6] at H
          have c6b0 := eq_true c6
          have c6b1 : decide (((⟨#[112, 117, 109, 112, 32]⟩ : ByteArray) ++ a0_0).size + 6 ≤ 9223372036854775807) = true := decide_eq_true c6
          try have c6b2 : (9223372036854775807 < ((⟨#[112, 117, 109, 112, 32]⟩ : ByteArray) ++ a0_0).size + 6) = False := eq_false (Nat.not_lt.2 c6)
          try have c6b8 : (5 + a0_0.size + 6 ≤ 9223372036854775807) = True := by have t_ := c6b0; first | (simp only [ByteArray.size_append, Nat.zero_add, Nat.add_zero] at t_; exact t_) | (have t2_ := of_eq_true t_; simp only [ByteArray.size_append] at t2_; exact eq_true (by first | exact t2_ | (have t3_ := t2_; change 0 + _ ≤ _ at t3_; rwa [Nat.zero_add] at t3_) | (change (0 + _) + _ ≤ _ at t2_; rwa [Nat.zero_add] at t2_)))
          try have c6b9 : (9223372036854775807 < 5 + a0_0.size + 6) = False := by have t_ := c6b2; first | (simp only [ByteArray.size_append] at t_; exact t_) | (have t2_ := c6b8; exact eq_false (Nat.not_lt.2 (of_eq_true t2_)))
          replace H := Option.bind_eq_some_iff.mp H
          obtain ⟨t187, A70, H⟩ := H
          replace H : (if (((⟨#[112, 117, 109, 112, 32]⟩ : ByteArray) ++ a0_0) ++ (⟨#[32, 109, 111, 115, 116, 32]⟩ : ByteArray)).size + t187.size ≤ 9223372036854775807 then (some ((((⟨#[112, 117, 109, 112, 32]⟩ : ByteArray) ++ a0_0) ++ (⟨#[32, 109, 111, 115, 116, 32]⟩ : ByteArray)) ++ t187)) else (none)) = some r := H
          have A7 := Aside0.mk A70
          clear A70
          by_cases c8 : (((⟨#[112, 117, 109, 112, 32]⟩ : ByteArray) ++ a0_0) ++ (⟨#[32, 109, 111, 115, 116, 32]⟩ : ByteArray)).size + t187.size ≤ 9223372036854775807
          · rw [if_pos c8] at H
            have c8b0 := eq_true c8
            have c8b1 : decide ((((⟨#[112, 117, 109, 112, 32]⟩ : ByteArray) ++ a0_0) ++ (⟨#[32, 109, 111, 115, 116, 32]⟩ : ByteArray)).size + t187.size ≤ 9223372036854775807) = true := decide_eq_true c8
            try have c8b2 : (9223372036854775807 < (((⟨#[112, 117, 109, 112, 32]⟩ : ByteArray) ++ a0_0) ++ (⟨#[32, 109, 111, 115, 116, 32]⟩ : ByteArray)).size + t187.size) = False := eq_false (Nat.not_lt.2 c8)
            try have c8b8 : (5 + a0_0.size + 6 + t187.size ≤ 9223372036854775807) = True := by have t_ := c8b0; first | (simp only [ByteArray.size_append, Nat.zero_add, Nat.add_zero] at t_; exact t_) | (have t2_ := of_eq_true t_; simp only [ByteArray.size_append] at t2_; exact eq_true (by first | exact t2_ | (have t3_ := t2_; change 0 + _ ≤ _ at t3_; rwa [Nat.zero_add] at t3_) | (change (0 + _) + _ ≤ _ at t2_; rwa [Nat.zero_add] at t2_)))
            try have c8b9 : (9223372036854775807 < 5 + a0_0.size + 6 + t187.size) = False := by have t_ := c8b2; first | (simp only [ByteArray.size_append] at t_; exact t_) | (have t2_ := c8b8; exact eq_false (Nat.not_lt.2 (of_eq_true t2_)))
            obtain rfl := Option.some.inj H
            go_enter Tryd.func30, Tryd.ntmps30
            try go_wp2_with (first | ((with_reducible refine gate_dst (N := 1) rfl ?_); refine box_event ?hg (N := 1) ?hd (cs := #[.string a0_0, .int .i64 a0_1, .string a0_2, .int .i64 a0_3, .int .i64 a0_4, .int .i64 a0_5, .int .i64 a0_6, .int .i64 a0_7]) (t := 38) ?hr ?_; (case hd => rfl); (case hg => rfl); (case hr => first | (go_simp; done) | (go_simp; rfl)); intro gb185 hg w9 hbox hb; have n0_ := Aside0.mk (below_step (by repeat (first | (with_reducible first | exact HB.out | apply below_alloc | apply pw_below_drewN | apply below_drew1) | exact HB.out)) hb); have n1_ := Aside0.mk (hbox); have n2_ := Aside0.mk ((by rw [hg]; exact (below_size (by repeat (first | (with_reducible first | exact HB.out | apply below_alloc | apply pw_below_drewN | apply below_drew1) | exact HB.out))) : w.heap.size ≤ gb185)); have n3_ := Aside0.mk ((by rw [hg]; exact (below_size (by repeat (first | (with_reducible first | exact HB.out | apply below_alloc | apply pw_below_drewN | apply below_drew1) | exact HB.out))) : w.heap.size ≤ gb185)); clear HB; have HB := n0_; have BK185 := n1_; have GW185 := n2_; have GE185 := n3_; clear n0_ n1_ n2_ n3_; clear hb hbox hg; have hcz10_0 : w9.cell? ⟨gb185, 0, none⟩ = some (.string a0_0) := (blk_cell BK185.out 0).trans rfl; have hcz10_1 : w9.cell? ⟨gb185, 1, none⟩ = some (.int .i64 a0_1) := (blk_cell BK185.out 1).trans rfl; have hcz10_2 : w9.cell? ⟨gb185, 2, none⟩ = some (.string a0_2) := (blk_cell BK185.out 2).trans rfl; have hcz10_3 : w9.cell? ⟨gb185, 3, none⟩ = some (.int .i64 a0_3) := (blk_cell BK185.out 3).trans rfl; have hcz10_4 : w9.cell? ⟨gb185, 4, none⟩ = some (.int .i64 a0_4) := (blk_cell BK185.out 4).trans rfl; have hcz10_5 : w9.cell? ⟨gb185, 5, none⟩ = some (.int .i64 a0_5) := (blk_cell BK185.out 5).trans rfl; have hcz10_6 : w9.cell? ⟨gb185, 6, none⟩ = some (.int .i64 a0_6) := (blk_cell BK185.out 6).trans rfl; have hcz10_7 : w9.cell? ⟨gb185, 7, none⟩ = some (.int .i64 a0_7) := (blk_cell BK185.out 7).trans rfl; have hfz10_0 := blk_frozen BK185.out 0; have hfz10_1 := blk_frozen BK185.out 1; have hfz10_2 := blk_frozen BK185.out 2; have hfz10_3 := blk_frozen BK185.out 3; have hfz10_4 := blk_frozen BK185.out 4; have hfz10_5 := blk_frozen BK185.out 5; have hfz10_6 := blk_frozen BK185.out 6; have hfz10_7 := blk_frozen BK185.out 7) | ((with_reducible refine gate_callee (f := 22) rfl ?_); refine goesL_ (some 4) rfl rfl Tryd.func22 (by kernel_rfl) rfl #[.agg #[.string a0_0, .int .i64 a0_1, .string a0_2, .int .i64 a0_3, .int .i64 a0_4, .int .i64 a0_5, .int .i64 a0_6, .int .i64 a0_7]] rfl (by (try simp only [List.map_toArray, List.map_cons, List.map_nil]); first | done | rfl | (simp only [List.length_drop, List.length_take]; rfl)) ?_; (with_reducible refine (spec_IsDevice.calls k a0_0 a0_1 a0_2 a0_3 a0_4 a0_5 a0_6 a0_7 true _ A2.out).mono ?_); rintro e w11 ⟨rfl, hb⟩; refine ⟨_, rfl, ?_⟩; have n0_ := Aside0.mk (blk_below (g := gb185) (o := .cells #[.string a0_0, .int .i64 a0_1, .string a0_2, .int .i64 a0_3, .int .i64 a0_4, .int .i64 a0_5, .int .i64 a0_6, .int .i64 a0_7] 38 (0, 0)) (by (with_reducible repeat (first | refine blk_drewN ?_ _ | refine blk_drew ?_ | refine blk_alloc ?_ _)); exact BK185.out) hb); have n1_ := Aside0.mk (below_step (by repeat (first | (with_reducible first | exact HB.out | apply below_alloc | apply pw_below_drewN | apply below_drew1 | refine below_set ?_ GE185.out) | exact HB.out)) hb); clear BK185; clear HB; have BK185 := n0_; have HB := n1_; clear n0_ n1_; (try clear hb); (try clear hb2); (try clear hk); (try clear hi); have hcz12_0 : w11.cell? ⟨gb185, 0, none⟩ = some (.string a0_0) := (blk_cell BK185.out 0).trans rfl; have hcz12_1 : w11.cell? ⟨gb185, 1, none⟩ = some (.int .i64 a0_1) := (blk_cell BK185.out 1).trans rfl; have hcz12_2 : w11.cell? ⟨gb185, 2, none⟩ = some (.string a0_2) := (blk_cell BK185.out 2).trans rfl; have hcz12_3 : w11.cell? ⟨gb185, 3, none⟩ = some (.int .i64 a0_3) := (blk_cell BK185.out 3).trans rfl; have hcz12_4 : w11.cell? ⟨gb185, 4, none⟩ = some (.int .i64 a0_4) := (blk_cell BK185.out 4).trans rfl; have hcz12_5 : w11.cell? ⟨gb185, 5, none⟩ = some (.int .i64 a0_5) := (blk_cell BK185.out 5).trans rfl; have hcz12_6 : w11.cell? ⟨gb185, 6, none⟩ = some (.int .i64 a0_6) := (blk_cell BK185.out 6).trans rfl; have hcz12_7 : w11.cell? ⟨gb185, 7, none⟩ = some (.int .i64 a0_7) := (blk_cell BK185.out 7).trans rfl; have hfz12_0 := blk_frozen BK185.out 0; have hfz12_1 := blk_frozen BK185.out 1; have hfz12_2 := blk_frozen BK185.out 2; have hfz12_3 := blk_frozen BK185.out 3; have hfz12_4 := blk_frozen BK185.out 4; have hfz12_5 := blk_frozen BK185.out 5; have hfz12_6 := blk_frozen BK185.out 6; have hfz12_7 := blk_frozen BK185.out 7))
            have n0_ := Aside0.mk (blk_drew BK185.out)
            have n1_ := Aside0.mk (below_drew1 HB.out)
            clear BK185
            clear HB
            have BK185 := n0_
            have HB := n1_
            clear n0_ n1_
            refine start_ (n := 9) (S := fun w' => w'.cell? ⟨gb185, 0, none⟩ = some (.string a0_0) ∧ w'.cell? ⟨gb185, 1, none⟩ = some (.int .i64 a0_1) ∧ w'.cell? ⟨gb185, 2, none⟩ = some (.string a0_2) ∧ w'.cell? ⟨gb185, 3, none⟩ = some (.int .i64 a0_3) ∧ w'.cell? ⟨gb185, 4, none⟩ = some (.int .i64 a0_4) ∧ w'.cell? ⟨gb185, 5, none⟩ = some (.int .i64 a0_5) ∧ w'.cell? ⟨gb185, 6, none⟩ = some (.int .i64 a0_6) ∧ w'.cell? ⟨gb185, 7, none⟩ = some (.int .i64 a0_7)) (ds := []) #[false, false, false, false, false, false, false, false, false] (by kernel_rfl) rfl rfl ⟨(blk_cell BK185.out 0).trans rfl, (blk_cell BK185.out 1).trans rfl, (blk_cell BK185.out 2).trans rfl, (blk_cell BK185.out 3).trans rfl, (blk_cell BK185.out 4).trans rfl, (blk_cell BK185.out 5).trans rfl, (blk_cell BK185.out 6).trans rfl, (blk_cell BK185.out 7).trans rfl⟩ (fun hHeld => ?_); refine with_tabW spec_FormatDevice.tab5 spec_FormatDevice.bits5 (fun HT_ HW_ => ?_)
            generalize w11.drew = w13 at BK185 HB hHeld ⊢
            refine pure_ (i := 0) (N := some 10) (v := ?_) (a' := ?_) #[true, false, false, false, false, false, false, false, false] rfl rfl (any_of HT_.out (by kernel_rfl)) (fun _ _ _ h => h) (Or.inl ⟨by rfl, ?_⟩) ?_ ?_
            rotate_left
            · intro w'
              go_simp
              first | (with_reducible rfl) | rfl
            rotate_left
            · simp only [Act.put, List.setIfInBounds_toArray, List.set_cons_zero, List.set_cons_succ, i64_w, i32_w]
              rfl
            refine pure_ (i := 4) (N := some 14) (v := ?_) (a' := ?_) #[true, false, false, false, true, false, false, false, false] rfl rfl (any_of HT_.out (by kernel_rfl)) (fun _ _ _ h => h) (Or.inl ⟨by rfl, ?_⟩) ?_ ?_
            rotate_left
            · intro w'
              go_simp
              first | (with_reducible rfl) | rfl
            rotate_left
            · simp only [Act.put, List.setIfInBounds_toArray, List.set_cons_zero, List.set_cons_succ, i64_w, i32_w]
              rfl
            refine take_ (i := 1) (N := some 11) (v := ?_) (a' := ?_) #[true, true, false, false, true, false, false, false, false] rfl rfl (take_ofW HT_.out HW_.out (by kernel_rfl)) (fun _ _ _ h => h) (Or.inl ⟨by rfl, ?_⟩) hHeld ?_ ?_
            rotate_left
            · rintro w' ⟨s0, s1, s2, s3, s4, s5, s6, s7⟩
              go_simp
              first | (with_reducible rfl) | rfl
            rotate_left
            · simp only [Act.put, List.setIfInBounds_toArray, List.set_cons_zero, List.set_cons_succ, i64_w, i32_w]
              rfl
            refine pure_ (i := 2) (N := some 12) (v := ?_) (a' := ?_) #[true, true, true, false, true, false, false, false, false] rfl rfl (any_of HT_.out (by kernel_rfl)) (fun _ _ _ h => h) (Or.inl ⟨by rfl, ?_⟩) ?_ ?_
            rotate_left
            · intro w'
              go_simp
              first | (with_reducible rfl) | rfl
            rotate_left
            · simp only [Act.put, List.setIfInBounds_toArray, List.set_cons_zero, List.set_cons_succ, i64_w, i32_w]
              rfl
            refine pure_ (i := 3) (N := some 13) (v := ?_) (a' := ?_) #[true, true, true, true, true, false, false, false, false] rfl rfl (any_of HT_.out (by kernel_rfl)) (fun _ _ _ h => h) (Or.inl ⟨by rfl, ?_⟩) ?_ ?_
            rotate_left
            · intro w'
              go_simp
              first | (with_reducible rfl) | rfl
            rotate_left
            · simp only [Act.put, List.setIfInBounds_toArray, List.set_cons_zero, List.set_cons_succ, i64_w, i32_w]
              rfl
            refine take_ (i := 5) (N := some 15) (v := ?_) (a' := ?_) #[true, true, true, true, true, true, false, false, false] rfl rfl (take_ofW HT_.out HW_.out (by kernel_rfl)) (fun _ _ _ h => h) (Or.inl ⟨by rfl, ?_⟩) hHeld ?_ ?_
            rotate_left
            · rintro w' ⟨s0, s1, s2, s3, s4, s5, s6, s7⟩
              go_simp
              first | (with_reducible rfl) | rfl
            rotate_left
            · simp only [Act.put, List.setIfInBounds_toArray, List.set_cons_zero, List.set_cons_succ, i64_w, i32_w]
              rfl
            refine one_ (i := 6) (N := some 16) #[true, true, true, true, true, true, true, false, false] rfl rfl (one_of HT_.out (by kernel_rfl)) (by decide) (fun K hK => ?_)
            refine goes_ Tryd.func67 (by kernel_rfl) rfl #[.int .i64 a0_7] (by rfl) rfl rfl (by (try simp only [List.map_toArray, List.map_cons, List.map_nil]); first | done | rfl | (simp only [List.length_drop, List.length_take]; rfl)) ?_
            with_reducible refine (spec_FormatMeasure.calls k a0_7 t187 _ A7.out).mono ?_
            rintro e w14 ⟨rfl, hb⟩
            refine ⟨_, rfl, ?_⟩
            have n0_ := Aside0.mk (blk_below (g := gb185) (o := .cells #[.string a0_0, .int .i64 a0_1, .string a0_2, .int .i64 a0_3, .int .i64 a0_4, .int .i64 a0_5, .int .i64 a0_6, .int .i64 a0_7] 38 (0, 0)) (by (with_reducible repeat (first | refine blk_drewN ?_ _ | refine blk_drew ?_ | refine blk_alloc ?_ _)); exact BK185.out) hb)
            have n1_ := Aside0.mk (below_step (by repeat (first | (with_reducible first | exact HB.out | apply below_alloc | apply pw_below_drewN | apply below_drew1 | refine below_set ?_ GE185.out) | exact HB.out)) hb)
            clear BK185
            clear HB
            have BK185 := n0_
            have HB := n1_
            clear n0_ n1_
            (try clear hb)
            (try clear hb2)
            (try clear hk)
            (try clear hi)
            refine hK.out _ _ ⟨(blk_cell BK185.out 0).trans rfl, (blk_cell BK185.out 1).trans rfl, (blk_cell BK185.out 2).trans rfl, (blk_cell BK185.out 3).trans rfl, (blk_cell BK185.out 4).trans rfl, (blk_cell BK185.out 5).trans rfl, (blk_cell BK185.out 6).trans rfl, (blk_cell BK185.out 7).trans rfl⟩ (fun hHeld => ?_)
            clear hK K
            refine norm_ (a' := ?_) ?_ ?_
            rotate_left
            · show Act.put _ (some 16) _ = _
              simp only [Act.put, List.setIfInBounds_toArray, List.set_cons_zero, List.set_cons_succ, i64_w, i32_w]
              rfl
            refine pure_ (i := 7) (N := some 17) (v := ?_) (a' := ?_) #[true, true, true, true, true, true, true, true, false] rfl rfl (any_of HT_.out (by kernel_rfl)) (fun _ _ _ h => h) (Or.inl ⟨by rfl, ?_⟩) ?_ ?_
            rotate_left
            · intro w'
              go_simp
              first | (with_reducible rfl) | rfl
            rotate_left
            · simp only [Act.put, List.setIfInBounds_toArray, List.set_cons_zero, List.set_cons_succ, i64_w, i32_w]
              rfl
            refine pure_ (i := 8) (N := some 2) (v := ?_) (a' := ?_) #[true, true, true, true, true, true, true, true, true] rfl rfl (any_of HT_.out (by kernel_rfl)) (fun _ _ _ h => h) (Or.inl ⟨by rfl, ?_⟩) ?_ ?_
            rotate_left
            · intro w'
              go_simp
              first | (with_reducible rfl) | rfl
            rotate_left
            · simp only [Act.put, List.setIfInBounds_toArray, List.set_cons_zero, List.set_cons_succ, i64_w, i32_w]
              rfl
            refine done_ (done_of HT_.out (by kernel_rfl)) ?_
            try go_wp2
            go_ret
            exact ⟨by first | rfl | (simp [errW_none, errW_some] <;> rfl) | (simp [*, errW_none, errW_some] <;> rfl), by repeat (first | (with_reducible first | exact HB.out | apply below_alloc | apply pw_below_drewN | apply below_drew1 | refine below_set ?_ GE185.out) | exact HB.out)⟩
          · rw [if_neg c8] at H
            exact absurd H (by simp)
        · rw [if_neg c6] at H
          exact absurd H (by simp)
      · rw [if_neg c5] at H
        exact absurd H (by simp)
    · rw [if_neg c4] at H
      have c4b0 : (a0_1 == 1) = false := beq_eq_false_iff_ne.mpr c4
      have c4b1 : (a0_1 != 1) = true := bne_iff_ne.mpr c4
      by_cases c15 : a0_1 = 2
      · rw [if_pos c15] at H
        have c15b0 : (a0_1 == 2) = true := beq_iff_eq.mpr c15
        have c15b1 : (a0_1 != 2) = false := bne_eq_false_iff_eq.mpr c15
        clear c15
        by_cases c16 : 7 + a0_0.size ≤ 9223372036854775807
        · rw [if_pos c16] at H
          have c16b0 := eq_true c16
          have c16b1 : decide (7 + a0_0.size ≤ 9223372036854775807) = true := decide_eq_true c16
          try have c16b2 : (9223372036854775807 < 7 + a0_0.size) = False := eq_false (Nat.not_lt.2 c16)
          by_cases c17 : ((⟨#[110, 111, 122, 122, 108, 101, 32]⟩ : ByteArray) ++ a0_0).size + 4 ≤ 9223372036854775807
          · rw [if_pos c17] at H
            have c17b0 := eq_true c17
            have c17b1 : decide (((⟨#[110, 111, 122, 122, 108, 101, 32]⟩ : ByteArray) ++ a0_0).size + 4 ≤ 9223372036854775807) = true := decide_eq_true c17
            try have c17b2 : (9223372036854775807 < ((⟨#[110, 111, 122, 122, 108, 101, 32]⟩ : ByteArray) ++ a0_0).size + 4) = False := eq_false (Nat.not_lt.2 c17)
            try have c17b8 : (7 + a0_0.size + 4 ≤ 9223372036854775807) = True := by have t_ := c17b0; first | (simp only [ByteArray.size_append, Nat.zero_add, Nat.add_zero] at t_; exact t_) | (have t2_ := of_eq_true t_; simp only [ByteArray.size_append] at t2_; exact eq_true (by first | exact t2_ | (have t3_ := t2_; change 0 + _ ≤ _ at t3_; rwa [Nat.zero_add] at t3_) | (change (0 + _) + _ ≤ _ at t2_; rwa [Nat.zero_add] at t2_)))
            try have c17b9 : (9223372036854775807 < 7 + a0_0.size + 4) = False := by have t_ := c17b2; first | (simp only [ByteArray.size_append] at t_; exact t_) | (have t2_ := c17b8; exact eq_false (Nat.not_lt.2 (of_eq_true t2_)))
            by_cases c18 : (((⟨#[110, 111, 122, 122, 108, 101, 32]⟩ : ByteArray) ++ a0_0) ++ (⟨#[32, 111, 110, 32]⟩ : ByteArray)).size + a0_2.size ≤ 9223372036854775807
            · rw [if_pos c18] at H
              have c18b0 := eq_true c18
              have c18b1 : decide ((((⟨#[110, 111, 122, 122, 108, 101, 32]⟩ : ByteArray) ++ a0_0) ++ (⟨#[32, 111, 110, 32]⟩ : ByteArray)).size + a0_2.size ≤ 9223372036854775807) = true := decide_eq_true c18
              try have c18b2 : (9223372036854775807 < (((⟨#[110, 111, 122, 122, 108, 101, 32]⟩ : ByteArray) ++ a0_0) ++ (⟨#[32, 111, 110, 32]⟩ : ByteArray)).size + a0_2.size) = False := eq_false (Nat.not_lt.2 c18)
              try have c18b8 : (7 + a0_0.size + 4 + a0_2.size ≤ 9223372036854775807) = True := by have t_ := c18b0; first | (simp only [ByteArray.size_append, Nat.zero_add, Nat.add_zero] at t_; exact t_) | (have t2_ := of_eq_true t_; simp only [ByteArray.size_append] at t2_; exact eq_true (by first | exact t2_ | (have t3_ := t2_; change 0 + _ ≤ _ at t3_; rwa [Nat.zero_add] at t3_) | (change (0 + _) + _ ≤ _ at t2_; rwa [Nat.zero_add] at t2_)))
              try have c18b9 : (9223372036854775807 < 7 + a0_0.size + 4 + a0_2.size) = False := by have t_ := c18b2; first | (simp only [ByteArray.size_append] at t_; exact t_) | (have t2_ := c18b8; exact eq_false (Nat.not_lt.2 (of_eq_true t2_)))
              by_cases c19 : ((((⟨#[110, 111, 122, 122, 108, 101, 32]⟩ : ByteArray) ++ a0_0) ++ (⟨#[32, 111, 110, 32]⟩ : ByteArray)) ++ a0_2).size + 4 ≤ 9223372036854775807
              · rw [if_pos c19] at H
                have c19b0 := eq_true c19
                have c19b1 : decide (((((⟨#[110, 111, 122, 122, 108, 101, 32]⟩ : ByteArray) ++ a0_0) ++ (⟨#[32, 111, 110, 32]⟩ : ByteArray)) ++ a0_2).size + 4 ≤ 9223372036854775807) = true := decide_eq_true c19
                try have c19b2 : (9223372036854775807 < ((((⟨#[110, 111, 122, 122, 108, 101, 32]⟩ : ByteArray) ++ a0_0) ++ (⟨#[32, 111, 110, 32]⟩ : ByteArray)) ++ a0_2).size + 4) = False := eq_false (Nat.not_lt.2 c19)
                try have c19b8 : (7 + a0_0.size + 4 + a0_2.size + 4 ≤ 9223372036854775807) = True := by have t_ := c19b0; first | (simp only [ByteArray.size_append, Nat.zero_add, Nat.add_zero] at t_; exact t_) | (have t2_ := of_eq_true t_; simp only [ByteArray.size_append] at t2_; exact eq_true (by first | exact t2_ | (have t3_ := t2_; change 0 + _ ≤ _ at t3_; rwa [Nat.zero_add] at t3_) | (change (0 + _) + _ ≤ _ at t2_; rwa [Nat.zero_add] at t2_)))
                try have c19b9 : (9223372036854775807 < 7 + a0_0.size + 4 + a0_2.size + 4) = False := by have t_ := c19b2; first | (simp only [ByteArray.size_append] at t_; exact t_) | (have t2_ := c19b8; exact eq_false (Nat.not_lt.2 (of_eq_true t2_)))
                replace H := Option.bind_eq_some_iff.mp H
                obtain ⟨t188, A200, H⟩ := H
                replace H : (if (((((⟨#[110, 111, 122, 122, 108, 101, 32]⟩ : ByteArray) ++ a0_0) ++ (⟨#[32, 111, 110, 32]⟩ : ByteArray)) ++ a0_2) ++ (⟨#[32, 97, 116, 32]⟩ : ByteArray)).size + t188.size ≤ 9223372036854775807 then (if ((((((⟨#[110, 111, 122, 122, 108, 101, 32]⟩ : ByteArray) ++ a0_0) ++ (⟨#[32, 111, 110, 32]⟩ : ByteArray)) ++ a0_2) ++ (⟨#[32, 97, 116, 32]⟩ : ByteArray)) ++ t188).size + 9 ≤ 9223372036854775807 then ((spec_FormatNumber.f k a0_5).bind fun t189 => (if (((((((⟨#[110, 111, 122, 122, 108, 101, 32]⟩ : ByteArray) ++ a0_0) ++ (⟨#[32, 111, 110, 32]⟩ : ByteArray)) ++ a0_2) ++ (⟨#[32, 97, 116, 32]⟩ : ByteArray)) ++ t188) ++ (⟨#[32, 104, 101, 97, 100, 105, 110, 103, 32]⟩ : ByteArray)).size + t189.size ≤ 9223372036854775807 then (if ((((((((⟨#[110, 111, 122, 122, 108, 101, 32]⟩ : ByteArray) ++ a0_0) ++ (⟨#[32, 111, 110, 32]⟩ : ByteArray)) ++ a0_2) ++ (⟨#[32, 97, 116, 32]⟩ : ByteArray)) ++ t188) ++ (⟨#[32, 104, 101, 97, 100, 105, 110, 103, 32]⟩ : ByteArray)) ++ t189).size + 6 ≤ 9223372036854775807 then ((spec_FormatMeasure.f k a0_6).bind fun t190 => (if (((((((((⟨#[110, 111, 122, 122, 108, 101, 32]⟩ : ByteArray) ++ a0_0) ++ (⟨#[32, 111, 110, 32]⟩ : ByteArray)) ++ a0_2) ++ (⟨#[32, 97, 116, 32]⟩ : ByteArray)) ++ t188) ++ (⟨#[32, 104, 101, 97, 100, 105, 110, 103, 32]⟩ : ByteArray)) ++ t189) ++ (⟨#[32, 116, 105, 108, 116, 32]⟩ : ByteArray)).size + t190.size ≤ 9223372036854775807 then (if ((((((((((⟨#[110, 111, 122, 122, 108, 101, 32]⟩ : ByteArray) ++ a0_0) ++ (⟨#[32, 111, 110, 32]⟩ : ByteArray)) ++ a0_2) ++ (⟨#[32, 97, 116, 32]⟩ : ByteArray)) ++ t188) ++ (⟨#[32, 104, 101, 97, 100, 105, 110, 103, 32]⟩ : ByteArray)) ++ t189) ++ (⟨#[32, 116, 105, 108, 116, 32]⟩ : ByteArray)) ++ t190).size + 6 ≤ 9223372036854775807 then ((spec_FormatMeasure.f k a0_7).bind fun t191 => (if (((((((((((⟨#[110, 111, 122, 122, 108, 101, 32]⟩ : ByteArray) ++ a0_0) ++ (⟨#[32, 111, 110, 32]⟩ : ByteArray)) ++ a0_2) ++ (⟨#[32, 97, 116, 32]⟩ : ByteArray)) ++ t188) ++ (⟨#[32, 104, 101, 97, 100, 105, 110, 103, 32]⟩ : ByteArray)) ++ t189) ++ (⟨#[32, 116, 105, 108, 116, 32]⟩ : ByteArray)) ++ t190) ++ (⟨#[32, 109, 111, 115, 116, 32]⟩ : ByteArray)).size + t191.size ≤ 9223372036854775807 then (some ((((((((((((⟨#[110, 111, 122, 122, 108, 101, 32]⟩ : ByteArray) ++ a0_0) ++ (⟨#[32, 111, 110, 32]⟩ : ByteArray)) ++ a0_2) ++ (⟨#[32, 97, 116, 32]⟩ : ByteArray)) ++ t188) ++ (⟨#[32, 104, 101, 97, 100, 105, 110, 103, 32]⟩ : ByteArray)) ++ t189) ++ (⟨#[32, 116, 105, 108, 116, 32]⟩ : ByteArray)) ++ t190) ++ (⟨#[32, 109, 111, 115, 116, 32]⟩ : ByteArray)) ++ t191)) else (none))) else (none)) else (none))) else (none)) else (none))) else (none)) else (none)) = some r := H
                have A20 := Aside0.mk A200
                clear A200
                by_cases c21 : (((((⟨#[110, 111, 122, 122, 108, 101, 32]⟩ : ByteArray) ++ a0_0) ++ (⟨#[32, 111, 110, 32]⟩ : ByteArray)) ++ a0_2) ++ (⟨#[32, 97, 116, 32]⟩ : ByteArray)).size + t188.size ≤ 9223372036854775807
                · rw [if_pos c21] at H
                  have c21b0 := eq_true c21
                  have c21b1 : decide ((((((⟨#[110, 111, 122, 122, 108, 101, 32]⟩ : ByteArray) ++ a0_0) ++ (⟨#[32, 111, 110, 32]⟩ : ByteArray)) ++ a0_2) ++ (⟨#[32, 97, 116, 32]⟩ : ByteArray)).size + t188.size ≤ 9223372036854775807) = true := decide_eq_true c21
                  try have c21b2 : (9223372036854775807 < (((((⟨#[110, 111, 122, 122, 108, 101, 32]⟩ : ByteArray) ++ a0_0) ++ (⟨#[32, 111, 110, 32]⟩ : ByteArray)) ++ a0_2) ++ (⟨#[32, 97, 116, 32]⟩ : ByteArray)).size + t188.size) = False := eq_false (Nat.not_lt.2 c21)
                  try have c21b8 : (7 + a0_0.size + 4 + a0_2.size + 4 + t188.size ≤ 9223372036854775807) = True := by have t_ := c21b0; first | (simp only [ByteArray.size_append, Nat.zero_add, Nat.add_zero] at t_; exact t_) | (have t2_ := of_eq_true t_; simp only [ByteArray.size_append] at t2_; exact eq_true (by first | exact t2_ | (have t3_ := t2_; change 0 + _ ≤ _ at t3_; rwa [Nat.zero_add] at t3_) | (change (0 + _) + _ ≤ _ at t2_; rwa [Nat.zero_add] at t2_)))
                  try have c21b9 : (9223372036854775807 < 7 + a0_0.size + 4 + a0_2.size + 4 + t188.size) = False := by have t_ := c21b2; first | (simp only [ByteArray.size_append] at t_; exact t_) | (have t2_ := c21b8; exact eq_false (Nat.not_lt.2 (of_eq_true t2_)))
                  by_cases c22 : ((((((⟨#[110, 111, 122, 122, 108, 101, 32]⟩ : ByteArray) ++ a0_0) ++ (⟨#[32, 111, 110, 32]⟩ : ByteArray)) ++ a0_2) ++ (⟨#[32, 97, 116, 32]⟩ : ByteArray)) ++ t188).size + 9 ≤ 9223372036854775807
                  · rw [if_pos c22] at H
                    have c22b0 := eq_true c22
                    have c22b1 : decide (((((((⟨#[110, 111, 122, 122, 108, 101, 32]⟩ : ByteArray) ++ a0_0) ++ (⟨#[32, 111, 110, 32]⟩ : ByteArray)) ++ a0_2) ++ (⟨#[32, 97, 116, 32]⟩ : ByteArray)) ++ t188).size + 9 ≤ 9223372036854775807) = true := decide_eq_true c22
                    try have c22b2 : (9223372036854775807 < ((((((⟨#[110, 111, 122, 122, 108, 101, 32]⟩ : ByteArray) ++ a0_0) ++ (⟨#[32, 111, 110, 32]⟩ : ByteArray)) ++ a0_2) ++ (⟨#[32, 97, 116, 32]⟩ : ByteArray)) ++ t188).size + 9) = False := eq_false (Nat.not_lt.2 c22)
                    try have c22b8 : (7 + a0_0.size + 4 + a0_2.size + 4 + t188.size + 9 ≤ 9223372036854775807) = True := by have t_ := c22b0; first | (simp only [ByteArray.size_append, Nat.zero_add, Nat.add_zero] at t_; exact t_) | (have t2_ := of_eq_true t_; simp only [ByteArray.size_append] at t2_; exact eq_true (by first | exact t2_ | (have t3_ := t2_; change 0 + _ ≤ _ at t3_; rwa [Nat.zero_add] at t3_) | (change (0 + _) + _ ≤ _ at t2_; rwa [Nat.zero_add] at t2_)))
                    try have c22b9 : (9223372036854775807 < 7 + a0_0.size + 4 + a0_2.size + 4 + t188.size + 9) = False := by have t_ := c22b2; first | (simp only [ByteArray.size_append] at t_; exact t_) | (have t2_ := c22b8; exact eq_false (Nat.not_lt.2 (of_eq_true t2_)))
                    replace H := Option.bind_eq_some_iff.mp H
                    obtain ⟨t189, A230, H⟩ := H
                    replace H : (if (((((((⟨#[110, 111, 122, 122, 108, 101, 32]⟩ : ByteArray) ++ a0_0) ++ (⟨#[32, 111, 110, 32]⟩ : ByteArray)) ++ a0_2) ++ (⟨#[32, 97, 116, 32]⟩ : ByteArray)) ++ t188) ++ (⟨#[32, 104, 101, 97, 100, 105, 110, 103, 32]⟩ : ByteArray)).size + t189.size ≤ 9223372036854775807 then (if ((((((((⟨#[110, 111, 122, 122, 108, 101, 32]⟩ : ByteArray) ++ a0_0) ++ (⟨#[32, 111, 110, 32]⟩ : ByteArray)) ++ a0_2) ++ (⟨#[32, 97, 116, 32]⟩ : ByteArray)) ++ t188) ++ (⟨#[32, 104, 101, 97, 100, 105, 110, 103, 32]⟩ : ByteArray)) ++ t189).size + 6 ≤ 9223372036854775807 then ((spec_FormatMeasure.f k a0_6).bind fun t190 => (if (((((((((⟨#[110, 111, 122, 122, 108, 101, 32]⟩ : ByteArray) ++ a0_0) ++ (⟨#[32, 111, 110, 32]⟩ : ByteArray)) ++ a0_2) ++ (⟨#[32, 97, 116, 32]⟩ : ByteArray)) ++ t188) ++ (⟨#[32, 104, 101, 97, 100, 105, 110, 103, 32]⟩ : ByteArray)) ++ t189) ++ (⟨#[32, 116, 105, 108, 116, 32]⟩ : ByteArray)).size + t190.size ≤ 9223372036854775807 then (if ((((((((((⟨#[110, 111, 122, 122, 108, 101, 32]⟩ : ByteArray) ++ a0_0) ++ (⟨#[32, 111, 110, 32]⟩ : ByteArray)) ++ a0_2) ++ (⟨#[32, 97, 116, 32]⟩ : ByteArray)) ++ t188) ++ (⟨#[32, 104, 101, 97, 100, 105, 110, 103, 32]⟩ : ByteArray)) ++ t189) ++ (⟨#[32, 116, 105, 108, 116, 32]⟩ : ByteArray)) ++ t190).size + 6 ≤ 9223372036854775807 then ((spec_FormatMeasure.f k a0_7).bind fun t191 => (if (((((((((((⟨#[110, 111, 122, 122, 108, 101, 32]⟩ : ByteArray) ++ a0_0) ++ (⟨#[32, 111, 110, 32]⟩ : ByteArray)) ++ a0_2) ++ (⟨#[32, 97, 116, 32]⟩ : ByteArray)) ++ t188) ++ (⟨#[32, 104, 101, 97, 100, 105, 110, 103, 32]⟩ : ByteArray)) ++ t189) ++ (⟨#[32, 116, 105, 108, 116, 32]⟩ : ByteArray)) ++ t190) ++ (⟨#[32, 109, 111, 115, 116, 32]⟩ : ByteArray)).size + t191.size ≤ 9223372036854775807 then (some ((((((((((((⟨#[110, 111, 122, 122, 108, 101, 32]⟩ : ByteArray) ++ a0_0) ++ (⟨#[32, 111, 110, 32]⟩ : ByteArray)) ++ a0_2) ++ (⟨#[32, 97, 116, 32]⟩ : ByteArray)) ++ t188) ++ (⟨#[32, 104, 101, 97, 100, 105, 110, 103, 32]⟩ : ByteArray)) ++ t189) ++ (⟨#[32, 116, 105, 108, 116, 32]⟩ : ByteArray)) ++ t190) ++ (⟨#[32, 109, 111, 115, 116, 32]⟩ : ByteArray)) ++ t191)) else (none))) else (none)) else (none))) else (none)) else (none)) = some r := H
                    have A23 := Aside0.mk A230
                    clear A230
                    by_cases c24 : (((((((⟨#[110, 111, 122, 122, 108, 101, 32]⟩ : ByteArray) ++ a0_0) ++ (⟨#[32, 111, 110, 32]⟩ : ByteArray)) ++ a0_2) ++ (⟨#[32, 97, 116, 32]⟩ : ByteArray)) ++ t188) ++ (⟨#[32, 104, 101, 97, 100, 105, 110, 103, 32]⟩ : ByteArray)).size + t189.size ≤ 9223372036854775807
                    · rw [if_pos c24] at H
                      have c24b0 := eq_true c24
                      have c24b1 : decide ((((((((⟨#[110, 111, 122, 122, 108, 101, 32]⟩ : ByteArray) ++ a0_0) ++ (⟨#[32, 111, 110, 32]⟩ : ByteArray)) ++ a0_2) ++ (⟨#[32, 97, 116, 32]⟩ : ByteArray)) ++ t188) ++ (⟨#[32, 104, 101, 97, 100, 105, 110, 103, 32]⟩ : ByteArray)).size + t189.size ≤ 9223372036854775807) = true := decide_eq_true c24
                      try have c24b2 : (9223372036854775807 < (((((((⟨#[110, 111, 122, 122, 108, 101, 32]⟩ : ByteArray) ++ a0_0) ++ (⟨#[32, 111, 110, 32]⟩ : ByteArray)) ++ a0_2) ++ (⟨#[32, 97, 116, 32]⟩ : ByteArray)) ++ t188) ++ (⟨#[32, 104, 101, 97, 100, 105, 110, 103, 32]⟩ : ByteArray)).size + t189.size) = False := eq_false (Nat.not_lt.2 c24)
                      try have c24b8 : (7 + a0_0.size + 4 + a0_2.size + 4 + t188.size + 9 + t189.size ≤ 9223372036854775807) = True := by have t_ := c24b0; first | (simp only [ByteArray.size_append, Nat.zero_add, Nat.add_zero] at t_; exact t_) | (have t2_ := of_eq_true t_; simp only [ByteArray.size_append] at t2_; exact eq_true (by first | exact t2_ | (have t3_ := t2_; change 0 + _ ≤ _ at t3_; rwa [Nat.zero_add] at t3_) | (change (0 + _) + _ ≤ _ at t2_; rwa [Nat.zero_add] at t2_)))
                      try have c24b9 : (9223372036854775807 < 7 + a0_0.size + 4 + a0_2.size + 4 + t188.size + 9 + t189.size) = False := by have t_ := c24b2; first | (simp only [ByteArray.size_append] at t_; exact t_) | (have t2_ := c24b8; exact eq_false (Nat.not_lt.2 (of_eq_true t2_)))
                      by_cases c25 : ((((((((⟨#[110, 111, 122, 122, 108, 101, 32]⟩ : ByteArray) ++ a0_0) ++ (⟨#[32, 111, 110, 32]⟩ : ByteArray)) ++ a0_2) ++ (⟨#[32, 97, 116, 32]⟩ : ByteArray)) ++ t188) ++ (⟨#[32, 104, 101, 97, 100, 105, 110, 103, 32]⟩ : ByteArray)) ++ t189).size + 6 ≤ 9223372036854775807
                      · rw [if_pos c25] at H
                        have c25b0 := eq_true c25
                        have c25b1 : decide (((((((((⟨#[110, 111, 122, 122, 108, 101, 32]⟩ : ByteArray) ++ a0_0) ++ (⟨#[32, 111, 110, 32]⟩ : ByteArray)) ++ a0_2) ++ (⟨#[32, 97, 116, 32]⟩ : ByteArray)) ++ t188) ++ (⟨#[32, 104, 101, 97, 100, 105, 110, 103, 32]⟩ : ByteArray)) ++ t189).size + 6 ≤ 9223372036854775807) = true := decide_eq_true c25
                        try have c25b2 : (9223372036854775807 < ((((((((⟨#[110, 111, 122, 122, 108, 101, 32]⟩ : ByteArray) ++ a0_0) ++ (⟨#[32, 111, 110, 32]⟩ : ByteArray)) ++ a0_2) ++ (⟨#[32, 97, 116, 32]⟩ : ByteArray)) ++ t188) ++ (⟨#[32, 104, 101, 97, 100, 105, 110, 103, 32]⟩ : ByteArray)) ++ t189).size + 6) = False := eq_false (Nat.not_lt.2 c25)
                        try have c25b8 : (7 + a0_0.size + 4 + a0_2.size + 4 + t188.size + 9 + t189.size + 6 ≤ 9223372036854775807) = True := by have t_ := c25b0; first | (simp only [ByteArray.size_append, Nat.zero_add, Nat.add_zero] at t_; exact t_) | (have t2_ := of_eq_true t_; simp only [ByteArray.size_append] at t2_; exact eq_true (by first | exact t2_ | (have t3_ := t2_; change 0 + _ ≤ _ at t3_; rwa [Nat.zero_add] at t3_) | (change (0 + _) + _ ≤ _ at t2_; rwa [Nat.zero_add] at t2_)))
                        try have c25b9 : (9223372036854775807 < 7 + a0_0.size + 4 + a0_2.size + 4 + t188.size + 9 + t189.size + 6) = False := by have t_ := c25b2; first | (simp only [ByteArray.size_append] at t_; exact t_) | (have t2_ := c25b8; exact eq_false (Nat.not_lt.2 (of_eq_true t2_)))
                        replace H := Option.bind_eq_some_iff.mp H
                        obtain ⟨t190, A260, H⟩ := H
                        replace H : (if (((((((((⟨#[110, 111, 122, 122, 108, 101, 32]⟩ : ByteArray) ++ a0_0) ++ (⟨#[32, 111, 110, 32]⟩ : ByteArray)) ++ a0_2) ++ (⟨#[32, 97, 116, 32]⟩ : ByteArray)) ++ t188) ++ (⟨#[32, 104, 101, 97, 100, 105, 110, 103, 32]⟩ : ByteArray)) ++ t189) ++ (⟨#[32, 116, 105, 108, 116, 32]⟩ : ByteArray)).size + t190.size ≤ 9223372036854775807 then (if ((((((((((⟨#[110, 111, 122, 122, 108, 101, 32]⟩ : ByteArray) ++ a0_0) ++ (⟨#[32, 111, 110, 32]⟩ : ByteArray)) ++ a0_2) ++ (⟨#[32, 97, 116, 32]⟩ : ByteArray)) ++ t188) ++ (⟨#[32, 104, 101, 97, 100, 105, 110, 103, 32]⟩ : ByteArray)) ++ t189) ++ (⟨#[32, 116, 105, 108, 116, 32]⟩ : ByteArray)) ++ t190).size + 6 ≤ 9223372036854775807 then ((spec_FormatMeasure.f k a0_7).bind fun t191 => (if (((((((((((⟨#[110, 111, 122, 122, 108, 101, 32]⟩ : ByteArray) ++ a0_0) ++ (⟨#[32, 111, 110, 32]⟩ : ByteArray)) ++ a0_2) ++ (⟨#[32, 97, 116, 32]⟩ : ByteArray)) ++ t188) ++ (⟨#[32, 104, 101, 97, 100, 105, 110, 103, 32]⟩ : ByteArray)) ++ t189) ++ (⟨#[32, 116, 105, 108, 116, 32]⟩ : ByteArray)) ++ t190) ++ (⟨#[32, 109, 111, 115, 116, 32]⟩ : ByteArray)).size + t191.size ≤ 9223372036854775807 then (some ((((((((((((⟨#[110, 111, 122, 122, 108, 101, 32]⟩ : ByteArray) ++ a0_0) ++ (⟨#[32, 111, 110, 32]⟩ : ByteArray)) ++ a0_2) ++ (⟨#[32, 97, 116, 32]⟩ : ByteArray)) ++ t188) ++ (⟨#[32, 104, 101, 97, 100, 105, 110, 103, 32]⟩ : ByteArray)) ++ t189) ++ (⟨#[32, 116, 105, 108, 116, 32]⟩ : ByteArray)) ++ t190) ++ (⟨#[32, 109, 111, 115, 116, 32]⟩ : ByteArray)) ++ t191)) else (none))) else (none)) else (none)) = some r := H
                        have A26 := Aside0.mk A260
                        clear A260
                        by_cases c27 : (((((((((⟨#[110, 111, 122, 122, 108, 101, 32]⟩ : ByteArray) ++ a0_0) ++ (⟨#[32, 111, 110, 32]⟩ : ByteArray)) ++ a0_2) ++ (⟨#[32, 97, 116, 32]⟩ : ByteArray)) ++ t188) ++ (⟨#[32, 104, 101, 97, 100, 105, 110, 103, 32]⟩ : ByteArray)) ++ t189) ++ (⟨#[32, 116, 105, 108, 116, 32]⟩ : ByteArray)).size + t190.size ≤ 9223372036854775807
                        · rw [if_pos c27] at H
                          have c27b0 := eq_true c27
                          have c27b1 : decide ((((((((((⟨#[110, 111, 122, 122, 108, 101, 32]⟩ : ByteArray) ++ a0_0) ++ (⟨#[32, 111, 110, 32]⟩ : ByteArray)) ++ a0_2) ++ (⟨#[32, 97, 116, 32]⟩ : ByteArray)) ++ t188) ++ (⟨#[32, 104, 101, 97, 100, 105, 110, 103, 32]⟩ : ByteArray)) ++ t189) ++ (⟨#[32, 116, 105, 108, 116, 32]⟩ : ByteArray)).size + t190.size ≤ 9223372036854775807) = true := decide_eq_true c27
                          try have c27b2 : (9223372036854775807 < (((((((((⟨#[110, 111, 122, 122, 108, 101, 32]⟩ : ByteArray) ++ a0_0) ++ (⟨#[32, 111, 110, 32]⟩ : ByteArray)) ++ a0_2) ++ (⟨#[32, 97, 116, 32]⟩ : ByteArray)) ++ t188) ++ (⟨#[32, 104, 101, 97, 100, 105, 110, 103, 32]⟩ : ByteArray)) ++ t189) ++ (⟨#[32, 116, 105, 108, 116, 32]⟩ : ByteArray)).size + t190.size) = False := eq_false (Nat.not_lt.2 c27)
                          try have c27b8 : (7 + a0_0.size + 4 + a0_2.size + 4 + t188.size + 9 + t189.size + 6 + t190.size ≤ 9223372036854775807) = True := by have t_ := c27b0; first | (simp only [ByteArray.size_append, Nat.zero_add, Nat.add_zero] at t_; exact t_) | (have t2_ := of_eq_true t_; simp only [ByteArray.size_append] at t2_; exact eq_true (by first | exact t2_ | (have t3_ := t2_; change 0 + _ ≤ _ at t3_; rwa [Nat.zero_add] at t3_) | (change (0 + _) + _ ≤ _ at t2_; rwa [Nat.zero_add] at t2_)))
                          try have c27b9 : (9223372036854775807 < 7 + a0_0.size + 4 + a0_2.size + 4 + t188.size + 9 + t189.size + 6 + t190.size) = False := by have t_ := c27b2; first | (simp only [ByteArray.size_append] at t_; exact t_) | (have t2_ := c27b8; exact eq_false (Nat.not_lt.2 (of_eq_true t2_)))
                          by_cases c28 : ((((((((((⟨#[110, 111, 122, 122, 108, 101, 32]⟩ : ByteArray) ++ a0_0) ++ (⟨#[32, 111, 110, 32]⟩ : ByteArray)) ++ a0_2) ++ (⟨#[32, 97, 116, 32]⟩ : ByteArray)) ++ t188) ++ (⟨#[32, 104, 101, 97, 100, 105, 110, 103, 32]⟩ : ByteArray)) ++ t189) ++ (⟨#[32, 116, 105, 108, 116, 32]⟩ : ByteArray)) ++ t190).size + 6 ≤ 9223372036854775807
                          · rw [if_pos c28] at H
                            have c28b0 := eq_true c28
                            have c28b1 : decide (((((((((((⟨#[110, 111, 122, 122, 108, 101, 32]⟩ : ByteArray) ++ a0_0) ++ (⟨#[32, 111, 110, 32]⟩ : ByteArray)) ++ a0_2) ++ (⟨#[32, 97, 116, 32]⟩ : ByteArray)) ++ t188) ++ (⟨#[32, 104, 101, 97, 100, 105, 110, 103, 32]⟩ : ByteArray)) ++ t189) ++ (⟨#[32, 116, 105, 108, 116, 32]⟩ : ByteArray)) ++ t190).size + 6 ≤ 9223372036854775807) = true := decide_eq_true c28
                            try have c28b2 : (9223372036854775807 < ((((((((((⟨#[110, 111, 122, 122, 108, 101, 32]⟩ : ByteArray) ++ a0_0) ++ (⟨#[32, 111, 110, 32]⟩ : ByteArray)) ++ a0_2) ++ (⟨#[32, 97, 116, 32]⟩ : ByteArray)) ++ t188) ++ (⟨#[32, 104, 101, 97, 100, 105, 110, 103, 32]⟩ : ByteArray)) ++ t189) ++ (⟨#[32, 116, 105, 108, 116, 32]⟩ : ByteArray)) ++ t190).size + 6) = False := eq_false (Nat.not_lt.2 c28)
                            try have c28b8 : (7 + a0_0.size + 4 + a0_2.size + 4 + t188.size + 9 + t189.size + 6 + t190.size + 6 ≤ 9223372036854775807) = True := by have t_ := c28b0; first | (simp only [ByteArray.size_append, Nat.zero_add, Nat.add_zero] at t_; exact t_) | (have t2_ := of_eq_true t_; simp only [ByteArray.size_append] at t2_; exact eq_true (by first | exact t2_ | (have t3_ := t2_; change 0 + _ ≤ _ at t3_; rwa [Nat.zero_add] at t3_) | (change (0 + _) + _ ≤ _ at t2_; rwa [Nat.zero_add] at t2_)))
                            try have c28b9 : (9223372036854775807 < 7 + a0_0.size + 4 + a0_2.size + 4 + t188.size + 9 + t189.size + 6 + t190.size + 6) = False := by have t_ := c28b2; first | (simp only [ByteArray.size_append] at t_; exact t_) | (have t2_ := c28b8; exact eq_false (Nat.not_lt.2 (of_eq_true t2_)))
                            replace H := Option.bind_eq_some_iff.mp H
                            obtain ⟨t191, A290, H⟩ := H
                            replace H : (if (((((((((((⟨#[110, 111, 122, 122, 108, 101, 32]⟩ : ByteArray) ++ a0_0) ++ (⟨#[32, 111, 110, 32]⟩ : ByteArray)) ++ a0_2) ++ (⟨#[32, 97, 116, 32]⟩ : ByteArray)) ++ t188) ++ (⟨#[32, 104, 101, 97, 100, 105, 110, 103, 32]⟩ : ByteArray)) ++ t189) ++ (⟨#[32, 116, 105, 108, 116, 32]⟩ : ByteArray)) ++ t190) ++ (⟨#[32, 109, 111, 115, 116, 32]⟩ : ByteArray)).size + t191.size ≤ 9223372036854775807 then (some ((((((((((((⟨#[110, 111, 122, 122, 108, 101, 32]⟩ : ByteArray) ++ a0_0) ++ (⟨#[32, 111, 110, 32]⟩ : ByteArray)) ++ a0_2) ++ (⟨#[32, 97, 116, 32]⟩ : ByteArray)) ++ t188) ++ (⟨#[32, 104, 101, 97, 100, 105, 110, 103, 32]⟩ : ByteArray)) ++ t189) ++ (⟨#[32, 116, 105, 108, 116, 32]⟩ : ByteArray)) ++ t190) ++ (⟨#[32, 109, 111, 115, 116, 32]⟩ : ByteArray)) ++ t191)) else (none)) = some r := H
                            have A29 := Aside0.mk A290
                            clear A290
                            by_cases c30 : (((((((((((⟨#[110, 111, 122, 122, 108, 101, 32]⟩ : ByteArray) ++ a0_0) ++ (⟨#[32, 111, 110, 32]⟩ : ByteArray)) ++ a0_2) ++ (⟨#[32, 97, 116, 32]⟩ : ByteArray)) ++ t188) ++ (⟨#[32, 104, 101, 97, 100, 105, 110, 103, 32]⟩ : ByteArray)) ++ t189) ++ (⟨#[32, 116, 105, 108, 116, 32]⟩ : ByteArray)) ++ t190) ++ (⟨#[32, 109, 111, 115, 116, 32]⟩ : ByteArray)).size + t191.size ≤ 9223372036854775807
                            · rw [if_pos c30] at H
                              have c30b0 := eq_true c30
                              have c30b1 : decide ((((((((((((⟨#[110, 111, 122, 122, 108, 101, 32]⟩ : ByteArray) ++ a0_0) ++ (⟨#[32, 111, 110, 32]⟩ : ByteArray)) ++ a0_2) ++ (⟨#[32, 97, 116, 32]⟩ : ByteArray)) ++ t188) ++ (⟨#[32, 104, 101, 97, 100, 105, 110, 103, 32]⟩ : ByteArray)) ++ t189) ++ (⟨#[32, 116, 105, 108, 116, 32]⟩ : ByteArray)) ++ t190) ++ (⟨#[32, 109, 111, 115, 116, 32]⟩ : ByteArray)).size + t191.size ≤ 9223372036854775807) = true := decide_eq_true c30
                              try have c30b2 : (9223372036854775807 < (((((((((((⟨#[110, 111, 122, 122, 108, 101, 32]⟩ : ByteArray) ++ a0_0) ++ (⟨#[32, 111, 110, 32]⟩ : ByteArray)) ++ a0_2) ++ (⟨#[32, 97, 116, 32]⟩ : ByteArray)) ++ t188) ++ (⟨#[32, 104, 101, 97, 100, 105, 110, 103, 32]⟩ : ByteArray)) ++ t189) ++ (⟨#[32, 116, 105, 108, 116, 32]⟩ : ByteArray)) ++ t190) ++ (⟨#[32, 109, 111, 115, 116, 32]⟩ : ByteArray)).size + t191.size) = False := eq_false (Nat.not_lt.2 c30)
                              try have c30b8 : (7 + a0_0.size + 4 + a0_2.size + 4 + t188.size + 9 + t189.size + 6 + t190.size + 6 + t191.size ≤ 9223372036854775807) = True := by have t_ := c30b0; first | (simp only [ByteArray.size_append, Nat.zero_add, Nat.add_zero] at t_; exact t_) | (have t2_ := of_eq_true t_; simp only [ByteArray.size_append] at t2_; exact eq_true (by first | exact t2_ | (have t3_ := t2_; change 0 + _ ≤ _ at t3_; rwa [Nat.zero_add] at t3_) | (change (0 + _) + _ ≤ _ at t2_; rwa [Nat.zero_add] at t2_)))
                              try have c30b9 : (9223372036854775807 < 7 + a0_0.size + 4 + a0_2.size + 4 + t188.size + 9 + t189.size + 6 + t190.size + 6 + t191.size) = False := by have t_ := c30b2; first | (simp only [ByteArray.size_append] at t_; exact t_) | (have t2_ := c30b8; exact eq_false (Nat.not_lt.2 (of_eq_true t2_)))
                              obtain rfl := Option.some.inj H
                              go_enter Tryd.func30, Tryd.ntmps30
                              try go_wp2_with (first | ((with_reducible refine gate_dst (N := 1) rfl ?_); refine box_event ?hg (N := 1) ?hd (cs := #[.string a0_0, .int .i64 a0_1, .string a0_2, .int .i64 a0_3, .int .i64 a0_4, .int .i64 a0_5, .int .i64 a0_6, .int .i64 a0_7]) (t := 38) ?hr ?_; (case hd => rfl); (case hg => rfl); (case hr => first | (go_simp; done) | (go_simp; rfl)); intro gb185 hg w31 hbox hb; have n0_ := Aside0.mk (below_step (by repeat (first | (with_reducible first | exact HB.out | apply below_alloc | apply pw_below_drewN | apply below_drew1) | exact HB.out)) hb); have n1_ := Aside0.mk (hbox); have n2_ := Aside0.mk ((by rw [hg]; exact (below_size (by repeat (first | (with_reducible first | exact HB.out | apply below_alloc | apply pw_below_drewN | apply below_drew1) | exact HB.out))) : w.heap.size ≤ gb185)); have n3_ := Aside0.mk ((by rw [hg]; exact (below_size (by repeat (first | (with_reducible first | exact HB.out | apply below_alloc | apply pw_below_drewN | apply below_drew1) | exact HB.out))) : w.heap.size ≤ gb185)); clear HB; have HB := n0_; have BK185 := n1_; have GW185 := n2_; have GE185 := n3_; clear n0_ n1_ n2_ n3_; clear hb hbox hg; have hcz32_0 : w31.cell? ⟨gb185, 0, none⟩ = some (.string a0_0) := (blk_cell BK185.out 0).trans rfl; have hcz32_1 : w31.cell? ⟨gb185, 1, none⟩ = some (.int .i64 a0_1) := (blk_cell BK185.out 1).trans rfl; have hcz32_2 : w31.cell? ⟨gb185, 2, none⟩ = some (.string a0_2) := (blk_cell BK185.out 2).trans rfl; have hcz32_3 : w31.cell? ⟨gb185, 3, none⟩ = some (.int .i64 a0_3) := (blk_cell BK185.out 3).trans rfl; have hcz32_4 : w31.cell? ⟨gb185, 4, none⟩ = some (.int .i64 a0_4) := (blk_cell BK185.out 4).trans rfl; have hcz32_5 : w31.cell? ⟨gb185, 5, none⟩ = some (.int .i64 a0_5) := (blk_cell BK185.out 5).trans rfl; have hcz32_6 : w31.cell? ⟨gb185, 6, none⟩ = some (.int .i64 a0_6) := (blk_cell BK185.out 6).trans rfl; have hcz32_7 : w31.cell? ⟨gb185, 7, none⟩ = some (.int .i64 a0_7) := (blk_cell BK185.out 7).trans rfl; have hfz32_0 := blk_frozen BK185.out 0; have hfz32_1 := blk_frozen BK185.out 1; have hfz32_2 := blk_frozen BK185.out 2; have hfz32_3 := blk_frozen BK185.out 3; have hfz32_4 := blk_frozen BK185.out 4; have hfz32_5 := blk_frozen BK185.out 5; have hfz32_6 := blk_frozen BK185.out 6; have hfz32_7 := blk_frozen BK185.out 7) | ((with_reducible refine gate_callee (f := 22) rfl ?_); refine goesL_ (some 4) rfl rfl Tryd.func22 (by kernel_rfl) rfl #[.agg #[.string a0_0, .int .i64 a0_1, .string a0_2, .int .i64 a0_3, .int .i64 a0_4, .int .i64 a0_5, .int .i64 a0_6, .int .i64 a0_7]] rfl (by (try simp only [List.map_toArray, List.map_cons, List.map_nil]); first | done | rfl | (simp only [List.length_drop, List.length_take]; rfl)) ?_; (with_reducible refine (spec_IsDevice.calls k a0_0 a0_1 a0_2 a0_3 a0_4 a0_5 a0_6 a0_7 true _ A2.out).mono ?_); rintro e w33 ⟨rfl, hb⟩; refine ⟨_, rfl, ?_⟩; have n0_ := Aside0.mk (blk_below (g := gb185) (o := .cells #[.string a0_0, .int .i64 a0_1, .string a0_2, .int .i64 a0_3, .int .i64 a0_4, .int .i64 a0_5, .int .i64 a0_6, .int .i64 a0_7] 38 (0, 0)) (by (with_reducible repeat (first | refine blk_drewN ?_ _ | refine blk_drew ?_ | refine blk_alloc ?_ _)); exact BK185.out) hb); have n1_ := Aside0.mk (below_step (by repeat (first | (with_reducible first | exact HB.out | apply below_alloc | apply pw_below_drewN | apply below_drew1 | refine below_set ?_ GE185.out) | exact HB.out)) hb); clear BK185; clear HB; have BK185 := n0_; have HB := n1_; clear n0_ n1_; (try clear hb); (try clear hb2); (try clear hk); (try clear hi); have hcz34_0 : w33.cell? ⟨gb185, 0, none⟩ = some (.string a0_0) := (blk_cell BK185.out 0).trans rfl; have hcz34_1 : w33.cell? ⟨gb185, 1, none⟩ = some (.int .i64 a0_1) := (blk_cell BK185.out 1).trans rfl; have hcz34_2 : w33.cell? ⟨gb185, 2, none⟩ = some (.string a0_2) := (blk_cell BK185.out 2).trans rfl; have hcz34_3 : w33.cell? ⟨gb185, 3, none⟩ = some (.int .i64 a0_3) := (blk_cell BK185.out 3).trans rfl; have hcz34_4 : w33.cell? ⟨gb185, 4, none⟩ = some (.int .i64 a0_4) := (blk_cell BK185.out 4).trans rfl; have hcz34_5 : w33.cell? ⟨gb185, 5, none⟩ = some (.int .i64 a0_5) := (blk_cell BK185.out 5).trans rfl; have hcz34_6 : w33.cell? ⟨gb185, 6, none⟩ = some (.int .i64 a0_6) := (blk_cell BK185.out 6).trans rfl; have hcz34_7 : w33.cell? ⟨gb185, 7, none⟩ = some (.int .i64 a0_7) := (blk_cell BK185.out 7).trans rfl; have hfz34_0 := blk_frozen BK185.out 0; have hfz34_1 := blk_frozen BK185.out 1; have hfz34_2 := blk_frozen BK185.out 2; have hfz34_3 := blk_frozen BK185.out 3; have hfz34_4 := blk_frozen BK185.out 4; have hfz34_5 := blk_frozen BK185.out 5; have hfz34_6 := blk_frozen BK185.out 6; have hfz34_7 := blk_frozen BK185.out 7))
                              have n0_ := Aside0.mk (blk_drew BK185.out)
                              have n1_ := Aside0.mk (below_drew1 HB.out)
                              clear BK185
                              clear HB
                              have BK185 := n0_
                              have HB := n1_
                              clear n0_ n1_
                              refine start_ (n := 28) (S := fun w' => w'.cell? ⟨gb185, 0, none⟩ = some (.string a0_0) ∧ w'.cell? ⟨gb185, 1, none⟩ = some (.int .i64 a0_1) ∧ w'.cell? ⟨gb185, 2, none⟩ = some (.string a0_2) ∧ w'.cell? ⟨gb185, 3, none⟩ = some (.int .i64 a0_3) ∧ w'.cell? ⟨gb185, 4, none⟩ = some (.int .i64 a0_4) ∧ w'.cell? ⟨gb185, 5, none⟩ = some (.int .i64 a0_5) ∧ w'.cell? ⟨gb185, 6, none⟩ = some (.int .i64 a0_6) ∧ w'.cell? ⟨gb185, 7, none⟩ = some (.int .i64 a0_7)) (ds := []) #[false, false, false, false, false, false, false, false, false, false, false, false, false, false, false, false, false, false, false, false, false, false, false, false, false, false, false, false] (by kernel_rfl) rfl rfl ⟨(blk_cell BK185.out 0).trans rfl, (blk_cell BK185.out 1).trans rfl, (blk_cell BK185.out 2).trans rfl, (blk_cell BK185.out 3).trans rfl, (blk_cell BK185.out 4).trans rfl, (blk_cell BK185.out 5).trans rfl, (blk_cell BK185.out 6).trans rfl, (blk_cell BK185.out 7).trans rfl⟩ (fun hHeld => ?_); refine with_tabW spec_FormatDevice.tab7 spec_FormatDevice.bits7 (fun HT_ HW_ => ?_)
                              generalize w33.drew = w35 at BK185 HB hHeld ⊢
                              refine pure_ (i := 0) (N := some 20) (v := ?_) (a' := ?_) #[true, false, false, false, false, false, false, false, false, false, false, false, false, false, false, false, false, false, false, false, false, false, false, false, false, false, false, false] rfl rfl (any_of HT_.out (by kernel_rfl)) (fun _ _ _ h => h) (Or.inl ⟨by rfl, ?_⟩) ?_ ?_
                              rotate_left
                              · intro w'
                                go_simp
                                first | (with_reducible rfl) | rfl
                              rotate_left
                              · simp only [Act.put, List.setIfInBounds_toArray, List.set_cons_zero, List.set_cons_succ, i64_w, i32_w]
                                rfl
                              refine pure_ (i := 4) (N := some 24) (v := ?_) (a' := ?_) #[true, false, false, false, true, false, false, false, false, false, false, false, false, false, false, false, false, false, false, false, false, false, false, false, false, false, false, false] rfl rfl (any_of HT_.out (by kernel_rfl)) (fun _ _ _ h => h) (Or.inl ⟨by rfl, ?_⟩) ?_ ?_
                              rotate_left
                              · intro w'
                                go_simp
                                first | (with_reducible rfl) | rfl
                              rotate_left
                              · simp only [Act.put, List.setIfInBounds_toArray, List.set_cons_zero, List.set_cons_succ, i64_w, i32_w]
                                rfl
                              refine pure_ (i := 8) (N := some 28) (v := ?_) (a' := ?_) #[true, false, false, false, true, false, false, false, true, false, false, false, false, false, false, false, false, false, false, false, false, false, false, false, false, false, false, false] rfl rfl (any_of HT_.out (by kernel_rfl)) (fun _ _ _ h => h) (Or.inl ⟨by rfl, ?_⟩) ?_ ?_
                              rotate_left
                              · intro w'
                                go_simp
                                first | (with_reducible rfl) | rfl
                              rotate_left
                              · simp only [Act.put, List.setIfInBounds_toArray, List.set_cons_zero, List.set_cons_succ, i64_w, i32_w]
                                rfl
                              refine pure_ (i := 13) (N := some 33) (v := ?_) (a' := ?_) #[true, false, false, false, true, false, false, false, true, false, false, false, false, true, false, false, false, false, false, false, false, false, false, false, false, false, false, false] rfl rfl (any_of HT_.out (by kernel_rfl)) (fun _ _ _ h => h) (Or.inl ⟨by rfl, ?_⟩) ?_ ?_
                              rotate_left
                              · intro w'
                                go_simp
                                first | (with_reducible rfl) | rfl
                              rotate_left
                              · simp only [Act.put, List.setIfInBounds_toArray, List.set_cons_zero, List.set_cons_succ, i64_w, i32_w]
                                rfl
                              refine pure_ (i := 18) (N := some 38) (v := ?_) (a' := ?_) #[true, false, false, false, true, false, false, false, true, false, false, false, false, true, false, false, false, false, true, false, false, false, false, false, false, false, false, false] rfl rfl (any_of HT_.out (by kernel_rfl)) (fun _ _ _ h => h) (Or.inl ⟨by rfl, ?_⟩) ?_ ?_
                              rotate_left
                              · intro w'
                                go_simp
                                first | (with_reducible rfl) | rfl
                              rotate_left
                              · simp only [Act.put, List.setIfInBounds_toArray, List.set_cons_zero, List.set_cons_succ, i64_w, i32_w]
                                rfl
                              refine pure_ (i := 23) (N := some 43) (v := ?_) (a' := ?_) #[true, false, false, false, true, false, false, false, true, false, false, false, false, true, false, false, false, false, true, false, false, false, false, true, false, false, false, false] rfl rfl (any_of HT_.out (by kernel_rfl)) (fun _ _ _ h => h) (Or.inl ⟨by rfl, ?_⟩) ?_ ?_
                              rotate_left
                              · intro w'
                                go_simp
                                first | (with_reducible rfl) | rfl
                              rotate_left
                              · simp only [Act.put, List.setIfInBounds_toArray, List.set_cons_zero, List.set_cons_succ, i64_w, i32_w]
                                rfl
                              refine take_ (i := 1) (N := some 21) (v := ?_) (a' := ?_) #[true, true, false, false, true, false, false, false, true, false, false, false, false, true, false, false, false, false, true, false, false, false, false, true, false, false, false, false] rfl rfl (take_ofW HT_.out HW_.out (by kernel_rfl)) (fun _ _ _ h => h) (Or.inl ⟨by rfl, ?_⟩) hHeld ?_ ?_
                              rotate_left
                              · rintro w' ⟨s0, s1, s2, s3, s4, s5, s6, s7⟩
                                go_simp
                                first | (with_reducible rfl) | rfl
                              rotate_left
                              · simp only [Act.put, List.setIfInBounds_toArray, List.set_cons_zero, List.set_cons_succ, i64_w, i32_w]
                                rfl
                              refine pure_ (i := 2) (N := some 22) (v := ?_) (a' := ?_) #[true, true, true, false, true, false, false, false, true, false, false, false, false, true, false, false, false, false, true, false, false, false, false, true, false, false, false, false] rfl rfl (any_of HT_.out (by kernel_rfl)) (fun _ _ _ h => h) (Or.inl ⟨by rfl, ?_⟩) ?_ ?_
                              rotate_left
                              · intro w'
                                go_simp
                                first | (with_reducible rfl) | rfl
                              rotate_left
                              · simp only [Act.put, List.setIfInBounds_toArray, List.set_cons_zero, List.set_cons_succ, i64_w, i32_w]
                                rfl
                              refine pure_ (i := 3) (N := some 23) (v := ?_) (a' := ?_) #[true, true, true, true, true, false, false, false, true, false, false, false, false, true, false, false, false, false, true, false, false, false, false, true, false, false, false, false] rfl rfl (any_of HT_.out (by kernel_rfl)) (fun _ _ _ h => h) (Or.inl ⟨by rfl, ?_⟩) ?_ ?_
                              rotate_left
                              · intro w'
                                go_simp
                                first | (with_reducible rfl) | rfl
                              rotate_left
                              · simp only [Act.put, List.setIfInBounds_toArray, List.set_cons_zero, List.set_cons_succ, i64_w, i32_w]
                                rfl
                              refine take_ (i := 5) (N := some 25) (v := ?_) (a' := ?_) #[true, true, true, true, true, true, false, false, true, false, false, false, false, true, false, false, false, false, true, false, false, false, false, true, false, false, false, false] rfl rfl (take_ofW HT_.out HW_.out (by kernel_rfl)) (fun _ _ _ h => h) (Or.inl ⟨by rfl, ?_⟩) hHeld ?_ ?_
                              rotate_left
                              · rintro w' ⟨s0, s1, s2, s3, s4, s5, s6, s7⟩
                                go_simp
                                first | (with_reducible rfl) | rfl
                              rotate_left
                              · simp only [Act.put, List.setIfInBounds_toArray, List.set_cons_zero, List.set_cons_succ, i64_w, i32_w]
                                rfl
                              refine pure_ (i := 6) (N := some 26) (v := ?_) (a' := ?_) #[true, true, true, true, true, true, true, false, true, false, false, false, false, true, false, false, false, false, true, false, false, false, false, true, false, false, false, false] rfl rfl (any_of HT_.out (by kernel_rfl)) (fun _ _ _ h => h) (Or.inl ⟨by rfl, ?_⟩) ?_ ?_
                              rotate_left
                              · intro w'
                                go_simp
                                first | (with_reducible rfl) | rfl
                              rotate_left
                              · simp only [Act.put, List.setIfInBounds_toArray, List.set_cons_zero, List.set_cons_succ, i64_w, i32_w]
                                rfl
                              refine pure_ (i := 7) (N := some 27) (v := ?_) (a' := ?_) #[true, true, true, true, true, true, true, true, true, false, false, false, false, true, false, false, false, false, true, false, false, false, false, true, false, false, false, false] rfl rfl (any_of HT_.out (by kernel_rfl)) (fun _ _ _ h => h) (Or.inl ⟨by rfl, ?_⟩) ?_ ?_
                              rotate_left
                              · intro w'
                                go_simp
                                first | (with_reducible rfl) | rfl
                              rotate_left
                              · simp only [Act.put, List.setIfInBounds_toArray, List.set_cons_zero, List.set_cons_succ, i64_w, i32_w]
                                rfl
                              refine take_ (i := 9) (N := some 29) (v := ?_) (a' := ?_) #[true, true, true, true, true, true, true, true, true, true, false, false, false, true, false, false, false, false, true, false, false, false, false, true, false, false, false, false] rfl rfl (take_ofW HT_.out HW_.out (by kernel_rfl)) (fun _ _ _ h => h) (Or.inl ⟨by rfl, ?_⟩) hHeld ?_ ?_
                              rotate_left
                              · rintro w' ⟨s0, s1, s2, s3, s4, s5, s6, s7⟩
                                go_simp
                                first | (with_reducible rfl) | rfl
                              rotate_left
                              · simp only [Act.put, List.setIfInBounds_toArray, List.set_cons_zero, List.set_cons_succ, i64_w, i32_w]
                                rfl
                              refine take_ (i := 14) (N := some 34) (v := ?_) (a' := ?_) #[true, true, true, true, true, true, true, true, true, true, false, false, false, true, true, false, false, false, true, false, false, false, false, true, false, false, false, false] rfl rfl (take_ofW HT_.out HW_.out (by kernel_rfl)) (fun _ _ _ h => h) (Or.inl ⟨by rfl, ?_⟩) hHeld ?_ ?_
                              rotate_left
                              · rintro w' ⟨s0, s1, s2, s3, s4, s5, s6, s7⟩
                                go_simp
                                first | (with_reducible rfl) | rfl
                              rotate_left
                              · simp only [Act.put, List.setIfInBounds_toArray, List.set_cons_zero, List.set_cons_succ, i64_w, i32_w]
                                rfl
                              refine take_ (i := 19) (N := some 39) (v := ?_) (a' := ?_) #[true, true, true, true, true, true, true, true, true, true, false, false, false, true, true, false, false, false, true, true, false, false, false, true, false, false, false, false] rfl rfl (take_ofW HT_.out HW_.out (by kernel_rfl)) (fun _ _ _ h => h) (Or.inl ⟨by rfl, ?_⟩) hHeld ?_ ?_
                              rotate_left
                              · rintro w' ⟨s0, s1, s2, s3, s4, s5, s6, s7⟩
                                go_simp
                                first | (with_reducible rfl) | rfl
                              rotate_left
                              · simp only [Act.put, List.setIfInBounds_toArray, List.set_cons_zero, List.set_cons_succ, i64_w, i32_w]
                                rfl
                              refine take_ (i := 24) (N := some 44) (v := ?_) (a' := ?_) #[true, true, true, true, true, true, true, true, true, true, false, false, false, true, true, false, false, false, true, true, false, false, false, true, true, false, false, false] rfl rfl (take_ofW HT_.out HW_.out (by kernel_rfl)) (fun _ _ _ h => h) (Or.inl ⟨by rfl, ?_⟩) hHeld ?_ ?_
                              rotate_left
                              · rintro w' ⟨s0, s1, s2, s3, s4, s5, s6, s7⟩
                                go_simp
                                first | (with_reducible rfl) | rfl
                              rotate_left
                              · simp only [Act.put, List.setIfInBounds_toArray, List.set_cons_zero, List.set_cons_succ, i64_w, i32_w]
                                rfl
                              refine one_ (i := 10) (N := some 30) #[true, true, true, true, true, true, true, true, true, true, true, false, false, true, true, false, false, false, true, true, false, false, false, true, true, false, false, false] rfl rfl (one_of HT_.out (by kernel_rfl)) (by decide) (fun K hK => ?_)
                              refine goes_ Tryd.func68 (by kernel_rfl) rfl #[.agg #[.int .i64 a0_3, .int .i64 a0_4]] (by rfl) rfl rfl (by (try simp only [List.map_toArray, List.map_cons, List.map_nil]); first | done | rfl | (simp only [List.length_drop, List.length_take]; rfl)) ?_
                              with_reducible refine (spec_FormatPlace.calls k a0_3 a0_4 t188 _ A20.out).mono ?_
                              rintro e w36 ⟨rfl, hb⟩
                              refine ⟨_, rfl, ?_⟩
                              have n0_ := Aside0.mk (blk_below (g := gb185) (o := .cells #[.string a0_0, .int .i64 a0_1, .string a0_2, .int .i64 a0_3, .int .i64 a0_4, .int .i64 a0_5, .int .i64 a0_6, .int .i64 a0_7] 38 (0, 0)) (by (with_reducible repeat (first | refine blk_drewN ?_ _ | refine blk_drew ?_ | refine blk_alloc ?_ _)); exact BK185.out) hb)
                              have n1_ := Aside0.mk (below_step (by repeat (first | (with_reducible first | exact HB.out | apply below_alloc | apply pw_below_drewN | apply below_drew1 | refine below_set ?_ GE185.out) | exact HB.out)) hb)
                              clear BK185
                              clear HB
                              have BK185 := n0_
                              have HB := n1_
                              clear n0_ n1_
                              (try clear hb)
                              (try clear hb2)
                              (try clear hk)
                              (try clear hi)
                              refine hK.out _ _ ⟨(blk_cell BK185.out 0).trans rfl, (blk_cell BK185.out 1).trans rfl, (blk_cell BK185.out 2).trans rfl, (blk_cell BK185.out 3).trans rfl, (blk_cell BK185.out 4).trans rfl, (blk_cell BK185.out 5).trans rfl, (blk_cell BK185.out 6).trans rfl, (blk_cell BK185.out 7).trans rfl⟩ (fun hHeld => ?_)
                              clear hK K
                              refine norm_ (a' := ?_) ?_ ?_
                              rotate_left
                              · show Act.put _ (some 30) _ = _
                                simp only [Act.put, List.setIfInBounds_toArray, List.set_cons_zero, List.set_cons_succ, i64_w, i32_w]
                                rfl
                              refine pure_ (i := 11) (N := some 31) (v := ?_) (a' := ?_) #[true, true, true, true, true, true, true, true, true, true, true, true, false, true, true, false, false, false, true, true, false, false, false, true, true, false, false, false] rfl rfl (any_of HT_.out (by kernel_rfl)) (fun _ _ _ h => h) (Or.inl ⟨by rfl, ?_⟩) ?_ ?_
                              rotate_left
                              · intro w'
                                go_simp
                                first | (with_reducible rfl) | rfl
                              rotate_left
                              · simp only [Act.put, List.setIfInBounds_toArray, List.set_cons_zero, List.set_cons_succ, i64_w, i32_w]
                                rfl
                              refine pure_ (i := 12) (N := some 32) (v := ?_) (a' := ?_) #[true, true, true, true, true, true, true, true, true, true, true, true, true, true, true, false, false, false, true, true, false, false, false, true, true, false, false, false] rfl rfl (any_of HT_.out (by kernel_rfl)) (fun _ _ _ h => h) (Or.inl ⟨by rfl, ?_⟩) ?_ ?_
                              rotate_left
                              · intro w'
                                go_simp
                                first | (with_reducible rfl) | rfl
                              rotate_left
                              · simp only [Act.put, List.setIfInBounds_toArray, List.set_cons_zero, List.set_cons_succ, i64_w, i32_w]
                                rfl
                              refine one_ (i := 15) (N := some 35) #[true, true, true, true, true, true, true, true, true, true, true, true, true, true, true, true, false, false, true, true, false, false, false, true, true, false, false, false] rfl rfl (one_of HT_.out (by kernel_rfl)) (by decide) (fun K hK => ?_)
                              refine goes_ Tryd.func66 (by kernel_rfl) rfl #[.int .i64 a0_5] (by rfl) rfl rfl (by (try simp only [List.map_toArray, List.map_cons, List.map_nil]); first | done | rfl | (simp only [List.length_drop, List.length_take]; rfl)) ?_
                              with_reducible refine (spec_FormatNumber.calls k a0_5 t189 _ A23.out).mono ?_
                              rintro e w37 ⟨rfl, hb⟩
                              refine ⟨_, rfl, ?_⟩
                              have n0_ := Aside0.mk (blk_below (g := gb185) (o := .cells #[.string a0_0, .int .i64 a0_1, .string a0_2, .int .i64 a0_3, .int .i64 a0_4, .int .i64 a0_5, .int .i64 a0_6, .int .i64 a0_7] 38 (0, 0)) (by (with_reducible repeat (first | refine blk_drewN ?_ _ | refine blk_drew ?_ | refine blk_alloc ?_ _)); exact BK185.out) hb)
                              have n1_ := Aside0.mk (below_step (by repeat (first | (with_reducible first | exact HB.out | apply below_alloc | apply pw_below_drewN | apply below_drew1 | refine below_set ?_ GE185.out) | exact HB.out)) hb)
                              clear BK185
                              clear HB
                              have BK185 := n0_
                              have HB := n1_
                              clear n0_ n1_
                              (try clear hb)
                              (try clear hb2)
                              (try clear hk)
                              (try clear hi)
                              refine hK.out _ _ ⟨(blk_cell BK185.out 0).trans rfl, (blk_cell BK185.out 1).trans rfl, (blk_cell BK185.out 2).trans rfl, (blk_cell BK185.out 3).trans rfl, (blk_cell BK185.out 4).trans rfl, (blk_cell BK185.out 5).trans rfl, (blk_cell BK185.out 6).trans rfl, (blk_cell BK185.out 7).trans rfl⟩ (fun hHeld => ?_)
                              clear hK K
                              refine norm_ (a' := ?_) ?_ ?_
                              rotate_left
                              · show Act.put _ (some 35) _ = _
                                simp only [Act.put, List.setIfInBounds_toArray, List.set_cons_zero, List.set_cons_succ, i64_w, i32_w]
                                rfl
                              refine pure_ (i := 16) (N := some 36) (v := ?_) (a' := ?_) #[true, true, true, true, true, true, true, true, true, true, true, true, true, true, true, true, true, false, true, true, false, false, false, true, true, false, false, false] rfl rfl (any_of HT_.out (by kernel_rfl)) (fun _ _ _ h => h) (Or.inl ⟨by rfl, ?_⟩) ?_ ?_
                              rotate_left
                              · intro w'
                                go_simp
                                first | (with_reducible rfl) | rfl
                              rotate_left
                              · simp only [Act.put, List.setIfInBounds_toArray, List.set_cons_zero, List.set_cons_succ, i64_w, i32_w]
                                rfl
                              refine pure_ (i := 17) (N := some 37) (v := ?_) (a' := ?_) #[true, true, true, true, true, true, true, true, true, true, true, true, true, true, true, true, true, true, true, true, false, false, false, true, true, false, false, false] rfl rfl (any_of HT_.out (by kernel_rfl)) (fun _ _ _ h => h) (Or.inl ⟨by rfl, ?_⟩) ?_ ?_
                              rotate_left
                              · intro w'
                                go_simp
                                first | (with_reducible rfl) | rfl
                              rotate_left
                              · simp only [Act.put, List.setIfInBounds_toArray, List.set_cons_zero, List.set_cons_succ, i64_w, i32_w]
                                rfl
                              refine one_ (i := 20) (N := some 40) #[true, true, true, true, true, true, true, true, true, true, true, true, true, true, true, true, true, true, true, true, true, false, false, true, true, false, false, false] rfl rfl (one_of HT_.out (by kernel_rfl)) (by decide) (fun K hK => ?_)
                              refine goes_ Tryd.func67 (by kernel_rfl) rfl #[.int .i64 a0_6] (by rfl) rfl rfl (by (try simp only [List.map_toArray, List.map_cons, List.map_nil]); first | done | rfl | (simp only [List.length_drop, List.length_take]; rfl)) ?_
                              with_reducible refine (spec_FormatMeasure.calls k a0_6 t190 _ A26.out).mono ?_
                              rintro e w38 ⟨rfl, hb⟩
                              refine ⟨_, rfl, ?_⟩
                              have n0_ := Aside0.mk (blk_below (g := gb185) (o := .cells #[.string a0_0, .int .i64 a0_1, .string a0_2, .int .i64 a0_3, .int .i64 a0_4, .int .i64 a0_5, .int .i64 a0_6, .int .i64 a0_7] 38 (0, 0)) (by (with_reducible repeat (first | refine blk_drewN ?_ _ | refine blk_drew ?_ | refine blk_alloc ?_ _)); exact BK185.out) hb)
                              have n1_ := Aside0.mk (below_step (by repeat (first | (with_reducible first | exact HB.out | apply below_alloc | apply pw_below_drewN | apply below_drew1 | refine below_set ?_ GE185.out) | exact HB.out)) hb)
                              clear BK185
                              clear HB
                              have BK185 := n0_
                              have HB := n1_
                              clear n0_ n1_
                              (try clear hb)
                              (try clear hb2)
                              (try clear hk)
                              (try clear hi)
                              refine hK.out _ _ ⟨(blk_cell BK185.out 0).trans rfl, (blk_cell BK185.out 1).trans rfl, (blk_cell BK185.out 2).trans rfl, (blk_cell BK185.out 3).trans rfl, (blk_cell BK185.out 4).trans rfl, (blk_cell BK185.out 5).trans rfl, (blk_cell BK185.out 6).trans rfl, (blk_cell BK185.out 7).trans rfl⟩ (fun hHeld => ?_)
                              clear hK K
                              refine norm_ (a' := ?_) ?_ ?_
                              rotate_left
                              · show Act.put _ (some 40) _ = _
                                simp only [Act.put, List.setIfInBounds_toArray, List.set_cons_zero, List.set_cons_succ, i64_w, i32_w]
                                rfl
                              refine pure_ (i := 21) (N := some 41) (v := ?_) (a' := ?_) #[true, true, true, true, true, true, true, true, true, true, true, true, true, true, true, true, true, true, true, true, true, true, false, true, true, false, false, false] rfl rfl (any_of HT_.out (by kernel_rfl)) (fun _ _ _ h => h) (Or.inl ⟨by rfl, ?_⟩) ?_ ?_
                              rotate_left
                              · intro w'
                                go_simp
                                first | (with_reducible rfl) | rfl
                              rotate_left
                              · simp only [Act.put, List.setIfInBounds_toArray, List.set_cons_zero, List.set_cons_succ, i64_w, i32_w]
                                rfl
                              refine pure_ (i := 22) (N := some 42) (v := ?_) (a' := ?_) #[true, true, true, true, true, true, true, true, true, true, true, true, true, true, true, true, true, true, true, true, true, true, true, true, true, false, false, false] rfl rfl (any_of HT_.out (by kernel_rfl)) (fun _ _ _ h => h) (Or.inl ⟨by rfl, ?_⟩) ?_ ?_
                              rotate_left
                              · intro w'
                                go_simp
                                first | (with_reducible rfl) | rfl
                              rotate_left
                              · simp only [Act.put, List.setIfInBounds_toArray, List.set_cons_zero, List.set_cons_succ, i64_w, i32_w]
                                rfl
                              refine one_ (i := 25) (N := some 45) #[true, true, true, true, true, true, true, true, true, true, true, true, true, true, true, true, true, true, true, true, true, true, true, true, true, true, false, false] rfl rfl (one_of HT_.out (by kernel_rfl)) (by decide) (fun K hK => ?_)
                              refine goes_ Tryd.func67 (by kernel_rfl) rfl #[.int .i64 a0_7] (by rfl) rfl rfl (by (try simp only [List.map_toArray, List.map_cons, List.map_nil]); first | done | rfl | (simp only [List.length_drop, List.length_take]; rfl)) ?_
                              with_reducible refine (spec_FormatMeasure.calls k a0_7 t191 _ A29.out).mono ?_
                              rintro e w39 ⟨rfl, hb⟩
                              refine ⟨_, rfl, ?_⟩
                              have n0_ := Aside0.mk (blk_below (g := gb185) (o := .cells #[.string a0_0, .int .i64 a0_1, .string a0_2, .int .i64 a0_3, .int .i64 a0_4, .int .i64 a0_5, .int .i64 a0_6, .int .i64 a0_7] 38 (0, 0)) (by (with_reducible repeat (first | refine blk_drewN ?_ _ | refine blk_drew ?_ | refine blk_alloc ?_ _)); exact BK185.out) hb)
                              have n1_ := Aside0.mk (below_step (by repeat (first | (with_reducible first | exact HB.out | apply below_alloc | apply pw_below_drewN | apply below_drew1 | refine below_set ?_ GE185.out) | exact HB.out)) hb)
                              clear BK185
                              clear HB
                              have BK185 := n0_
                              have HB := n1_
                              clear n0_ n1_
                              (try clear hb)
                              (try clear hb2)
                              (try clear hk)
                              (try clear hi)
                              refine hK.out _ _ ⟨(blk_cell BK185.out 0).trans rfl, (blk_cell BK185.out 1).trans rfl, (blk_cell BK185.out 2).trans rfl, (blk_cell BK185.out 3).trans rfl, (blk_cell BK185.out 4).trans rfl, (blk_cell BK185.out 5).trans rfl, (blk_cell BK185.out 6).trans rfl, (blk_cell BK185.out 7).trans rfl⟩ (fun hHeld => ?_)
                              clear hK K
                              refine norm_ (a' := ?_) ?_ ?_
                              rotate_left
                              · show Act.put _ (some 45) _ = _
                                simp only [Act.put, List.setIfInBounds_toArray, List.set_cons_zero, List.set_cons_succ, i64_w, i32_w]
                                rfl
                              refine pure_ (i := 26) (N := some 46) (v := ?_) (a' := ?_) #[true, true, true, true, true, true, true, true, true, true, true, true, true, true, true, true, true, true, true, true, true, true, true, true, true, true, true, false] rfl rfl (any_of HT_.out (by kernel_rfl)) (fun _ _ _ h => h) (Or.inl ⟨by rfl, ?_⟩) ?_ ?_
                              rotate_left
                              · intro w'
                                go_simp
                                first | (with_reducible rfl) | rfl
                              rotate_left
                              · simp only [Act.put, List.setIfInBounds_toArray, List.set_cons_zero, List.set_cons_succ, i64_w, i32_w]
                                rfl
                              refine pure_ (i := 27) (N := some 2) (v := ?_) (a' := ?_) #[true, true, true, true, true, true, true, true, true, true, true, true, true, true, true, true, true, true, true, true, true, true, true, true, true, true, true, true] rfl rfl (any_of HT_.out (by kernel_rfl)) (fun _ _ _ h => h) (Or.inl ⟨by rfl, ?_⟩) ?_ ?_
                              rotate_left
                              · intro w'
                                go_simp
                                first | (with_reducible rfl) | rfl
                              rotate_left
                              · simp only [Act.put, List.setIfInBounds_toArray, List.set_cons_zero, List.set_cons_succ, i64_w, i32_w]
                                rfl
                              refine done_ (done_of HT_.out (by kernel_rfl)) ?_
                              try go_wp2
                              go_ret
                              exact ⟨by first | rfl | (simp [errW_none, errW_some] <;> rfl) | (simp [*, errW_none, errW_some] <;> rfl), by repeat (first | (with_reducible first | exact HB.out | apply below_alloc | apply pw_below_drewN | apply below_drew1 | refine below_set ?_ GE185.out) | exact HB.out)⟩
                            · rw [if_neg c30] at H
                              exact absurd H (by simp)
                          · rw [if_neg c28] at H
                            exact absurd H (by simp)
                        · rw [if_neg c27] at H
                          exact absurd H (by simp)
                      · rw [if_neg c25] at H
                        exact absurd H (by simp)
                    · rw [if_neg c24] at H
                      exact absurd H (by simp)
                  · rw [if_neg c22] at H
                    exact absurd H (by simp)
                · rw [if_neg c21] at H
                  exact absurd H (by simp)
              · rw [if_neg c19] at H
                exact absurd H (by simp)
            · rw [if_neg c18] at H
              exact absurd H (by simp)
          · rw [if_neg c17] at H
            exact absurd H (by simp)
        · rw [if_neg c16] at H
          exact absurd H (by simp)
      · rw [if_neg c15] at H
        have c15b0 : (a0_1 == 2) = false := beq_eq_false_iff_ne.mpr c15
        have c15b1 : (a0_1 != 2) = true := bne_iff_ne.mpr c15
        by_cases c40 : 5 + a0_0.size ≤ 9223372036854775807
        · rw [if_pos c40] at H
          have c40b0 := eq_true c40
          have c40b1 : decide (5 + a0_0.size ≤ 9223372036854775807) = true := decide_eq_true c40
          try have c40b2 : (9223372036854775807 < 5 + a0_0.size) = False := eq_false (Nat.not_lt.2 c40)
          by_cases c41 : ((⟨#[108, 97, 109, 112, 32]⟩ : ByteArray) ++ a0_0).size + 4 ≤ 9223372036854775807
          · rw [if_pos c41] at H
            have c41b0 := eq_true c41
            have c41b1 : decide (((⟨#[108, 97, 109, 112, 32]⟩ : ByteArray) ++ a0_0).size + 4 ≤ 9223372036854775807) = true := decide_eq_true c41
            try have c41b2 : (9223372036854775807 < ((⟨#[108, 97, 109, 112, 32]⟩ : ByteArray) ++ a0_0).size + 4) = False := eq_false (Nat.not_lt.2 c41)
            try have c41b8 : (5 + a0_0.size + 4 ≤ 9223372036854775807) = True := by have t_ := c41b0; first | (simp only [ByteArray.size_append, Nat.zero_add, Nat.add_zero] at t_; exact t_) | (have t2_ := of_eq_true t_; simp only [ByteArray.size_append] at t2_; exact eq_true (by first | exact t2_ | (have t3_ := t2_; change 0 + _ ≤ _ at t3_; rwa [Nat.zero_add] at t3_) | (change (0 + _) + _ ≤ _ at t2_; rwa [Nat.zero_add] at t2_)))
            try have c41b9 : (9223372036854775807 < 5 + a0_0.size + 4) = False := by have t_ := c41b2; first | (simp only [ByteArray.size_append] at t_; exact t_) | (have t2_ := c41b8; exact eq_false (Nat.not_lt.2 (of_eq_true t2_)))
            by_cases c42 : (((⟨#[108, 97, 109, 112, 32]⟩ : ByteArray) ++ a0_0) ++ (⟨#[32, 111, 110, 32]⟩ : ByteArray)).size + a0_2.size ≤ 9223372036854775807
            · rw [if_pos c42] at H
              have c42b0 := eq_true c42
              have c42b1 : decide ((((⟨#[108, 97, 109, 112, 32]⟩ : ByteArray) ++ a0_0) ++ (⟨#[32, 111, 110, 32]⟩ : ByteArray)).size + a0_2.size ≤ 9223372036854775807) = true := decide_eq_true c42
              try have c42b2 : (9223372036854775807 < (((⟨#[108, 97, 109, 112, 32]⟩ : ByteArray) ++ a0_0) ++ (⟨#[32, 111, 110, 32]⟩ : ByteArray)).size + a0_2.size) = False := eq_false (Nat.not_lt.2 c42)
              try have c42b8 : (5 + a0_0.size + 4 + a0_2.size ≤ 9223372036854775807) = True := by have t_ := c42b0; first | (simp only [ByteArray.size_append, Nat.zero_add, Nat.add_zero] at t_; exact t_) | (have t2_ := of_eq_true t_; simp only [ByteArray.size_append] at t2_; exact eq_true (by first | exact t2_ | (have t3_ := t2_; change 0 + _ ≤ _ at t3_; rwa [Nat.zero_add] at t3_) | (change (0 + _) + _ ≤ _ at t2_; rwa [Nat.zero_add] at t2_)))
              try have c42b9 : (9223372036854775807 < 5 + a0_0.size + 4 + a0_2.size) = False := by have t_ := c42b2; first | (simp only [ByteArray.size_append] at t_; exact t_) | (have t2_ := c42b8; exact eq_false (Nat.not_lt.2 (of_eq_true t2_)))
              by_cases c43 : ((((⟨#[108, 97, 109, 112, 32]⟩ : ByteArray) ++ a0_0) ++ (⟨#[32, 111, 110, 32]⟩ : ByteArray)) ++ a0_2).size + 4 ≤ 9223372036854775807
              · rw [if_pos c43] at H
                have c43b0 := eq_true c43
                have c43b1 : decide (((((⟨#[108, 97, 109, 112, 32]⟩ : ByteArray) ++ a0_0) ++ (⟨#[32, 111, 110, 32]⟩ : ByteArray)) ++ a0_2).size + 4 ≤ 9223372036854775807) = true := decide_eq_true c43
                try have c43b2 : (9223372036854775807 < ((((⟨#[108, 97, 109, 112, 32]⟩ : ByteArray) ++ a0_0) ++ (⟨#[32, 111, 110, 32]⟩ : ByteArray)) ++ a0_2).size + 4) = False := eq_false (Nat.not_lt.2 c43)
                try have c43b8 : (5 + a0_0.size + 4 + a0_2.size + 4 ≤ 9223372036854775807) = True := by have t_ := c43b0; first | (simp only [ByteArray.size_append, Nat.zero_add, Nat.add_zero] at t_; exact t_) | (have t2_ := of_eq_true t_; simp only [ByteArray.size_append] at t2_; exact eq_true (by first | exact t2_ | (have t3_ := t2_; change 0 + _ ≤ _ at t3_; rwa [Nat.zero_add] at t3_) | (change (0 + _) + _ ≤ _ at t2_; rwa [Nat.zero_add] at t2_)))
                try have c43b9 : (9223372036854775807 < 5 + a0_0.size + 4 + a0_2.size + 4) = False := by have t_ := c43b2; first | (simp only [ByteArray.size_append] at t_; exact t_) | (have t2_ := c43b8; exact eq_false (Nat.not_lt.2 (of_eq_true t2_)))
                replace H := Option.bind_eq_some_iff.mp H
                obtain ⟨t192, A440, H⟩ := H
                replace H : (if (((((⟨#[108, 97, 109, 112, 32]⟩ : ByteArray) ++ a0_0) ++ (⟨#[32, 111, 110, 32]⟩ : ByteArray)) ++ a0_2) ++ (⟨#[32, 97, 116, 32]⟩ : ByteArray)).size + t192.size ≤ 9223372036854775807 then (some ((((((⟨#[108, 97, 109, 112, 32]⟩ : ByteArray) ++ a0_0) ++ (⟨#[32, 111, 110, 32]⟩ : ByteArray)) ++ a0_2) ++ (⟨#[32, 97, 116, 32]⟩ : ByteArray)) ++ t192)) else (none)) = some r := H
                have A44 := Aside0.mk A440
                clear A440
                by_cases c45 : (((((⟨#[108, 97, 109, 112, 32]⟩ : ByteArray) ++ a0_0) ++ (⟨#[32, 111, 110, 32]⟩ : ByteArray)) ++ a0_2) ++ (⟨#[32, 97, 116, 32]⟩ : ByteArray)).size + t192.size ≤ 9223372036854775807
                · rw [if_pos c45] at H
                  have c45b0 := eq_true c45
                  have c45b1 : decide ((((((⟨#[108, 97, 109, 112, 32]⟩ : ByteArray) ++ a0_0) ++ (⟨#[32, 111, 110, 32]⟩ : ByteArray)) ++ a0_2) ++ (⟨#[32, 97, 116, 32]⟩ : ByteArray)).size + t192.size ≤ 9223372036854775807) = true := decide_eq_true c45
                  try have c45b2 : (9223372036854775807 < (((((⟨#[108, 97, 109, 112, 32]⟩ : ByteArray) ++ a0_0) ++ (⟨#[32, 111, 110, 32]⟩ : ByteArray)) ++ a0_2) ++ (⟨#[32, 97, 116, 32]⟩ : ByteArray)).size + t192.size) = False := eq_false (Nat.not_lt.2 c45)
                  try have c45b8 : (5 + a0_0.size + 4 + a0_2.size + 4 + t192.size ≤ 9223372036854775807) = True := by have t_ := c45b0; first | (simp only [ByteArray.size_append, Nat.zero_add, Nat.add_zero] at t_; exact t_) | (have t2_ := of_eq_true t_; simp only [ByteArray.size_append] at t2_; exact eq_true (by first | exact t2_ | (have t3_ := t2_; change 0 + _ ≤ _ at t3_; rwa [Nat.zero_add] at t3_) | (change (0 + _) + _ ≤ _ at t2_; rwa [Nat.zero_add] at t2_)))
                  try have c45b9 : (9223372036854775807 < 5 + a0_0.size + 4 + a0_2.size + 4 + t192.size) = False := by have t_ := c45b2; first | (simp only [ByteArray.size_append] at t_; exact t_) | (have t2_ := c45b8; exact eq_false (Nat.not_lt.2 (of_eq_true t2_)))
                  obtain rfl := Option.some.inj H
                  go_enter Tryd.func30, Tryd.ntmps30
                  try go_wp2_with (first | ((with_reducible refine gate_dst (N := 1) rfl ?_); refine box_event ?hg (N := 1) ?hd (cs := #[.string a0_0, .int .i64 a0_1, .string a0_2, .int .i64 a0_3, .int .i64 a0_4, .int .i64 a0_5, .int .i64 a0_6, .int .i64 a0_7]) (t := 38) ?hr ?_; (case hd => rfl); (case hg => rfl); (case hr => first | (go_simp; done) | (go_simp; rfl)); intro gb185 hg w46 hbox hb; have n0_ := Aside0.mk (below_step (by repeat (first | (with_reducible first | exact HB.out | apply below_alloc | apply pw_below_drewN | apply below_drew1) | exact HB.out)) hb); have n1_ := Aside0.mk (hbox); have n2_ := Aside0.mk ((by rw [hg]; exact (below_size (by repeat (first | (with_reducible first | exact HB.out | apply below_alloc | apply pw_below_drewN | apply below_drew1) | exact HB.out))) : w.heap.size ≤ gb185)); have n3_ := Aside0.mk ((by rw [hg]; exact (below_size (by repeat (first | (with_reducible first | exact HB.out | apply below_alloc | apply pw_below_drewN | apply below_drew1) | exact HB.out))) : w.heap.size ≤ gb185)); clear HB; have HB := n0_; have BK185 := n1_; have GW185 := n2_; have GE185 := n3_; clear n0_ n1_ n2_ n3_; clear hb hbox hg; have hcz47_0 : w46.cell? ⟨gb185, 0, none⟩ = some (.string a0_0) := (blk_cell BK185.out 0).trans rfl; have hcz47_1 : w46.cell? ⟨gb185, 1, none⟩ = some (.int .i64 a0_1) := (blk_cell BK185.out 1).trans rfl; have hcz47_2 : w46.cell? ⟨gb185, 2, none⟩ = some (.string a0_2) := (blk_cell BK185.out 2).trans rfl; have hcz47_3 : w46.cell? ⟨gb185, 3, none⟩ = some (.int .i64 a0_3) := (blk_cell BK185.out 3).trans rfl; have hcz47_4 : w46.cell? ⟨gb185, 4, none⟩ = some (.int .i64 a0_4) := (blk_cell BK185.out 4).trans rfl; have hcz47_5 : w46.cell? ⟨gb185, 5, none⟩ = some (.int .i64 a0_5) := (blk_cell BK185.out 5).trans rfl; have hcz47_6 : w46.cell? ⟨gb185, 6, none⟩ = some (.int .i64 a0_6) := (blk_cell BK185.out 6).trans rfl; have hcz47_7 : w46.cell? ⟨gb185, 7, none⟩ = some (.int .i64 a0_7) := (blk_cell BK185.out 7).trans rfl; have hfz47_0 := blk_frozen BK185.out 0; have hfz47_1 := blk_frozen BK185.out 1; have hfz47_2 := blk_frozen BK185.out 2; have hfz47_3 := blk_frozen BK185.out 3; have hfz47_4 := blk_frozen BK185.out 4; have hfz47_5 := blk_frozen BK185.out 5; have hfz47_6 := blk_frozen BK185.out 6; have hfz47_7 := blk_frozen BK185.out 7) | ((with_reducible refine gate_callee (f := 22) rfl ?_); refine goesL_ (some 4) rfl rfl Tryd.func22 (by kernel_rfl) rfl #[.agg #[.string a0_0, .int .i64 a0_1, .string a0_2, .int .i64 a0_3, .int .i64 a0_4, .int .i64 a0_5, .int .i64 a0_6, .int .i64 a0_7]] rfl (by (try simp only [List.map_toArray, List.map_cons, List.map_nil]); first | done | rfl | (simp only [List.length_drop, List.length_take]; rfl)) ?_; (with_reducible refine (spec_IsDevice.calls k a0_0 a0_1 a0_2 a0_3 a0_4 a0_5 a0_6 a0_7 true _ A2.out).mono ?_); rintro e w48 ⟨rfl, hb⟩; refine ⟨_, rfl, ?_⟩; have n0_ := Aside0.mk (blk_below (g := gb185) (o := .cells #[.string a0_0, .int .i64 a0_1, .string a0_2, .int .i64 a0_3, .int .i64 a0_4, .int .i64 a0_5, .int .i64 a0_6, .int .i64 a0_7] 38 (0, 0)) (by (with_reducible repeat (first | refine blk_drewN ?_ _ | refine blk_drew ?_ | refine blk_alloc ?_ _)); exact BK185.out) hb); have n1_ := Aside0.mk (below_step (by repeat (first | (with_reducible first | exact HB.out | apply below_alloc | apply pw_below_drewN | apply below_drew1 | refine below_set ?_ GE185.out) | exact HB.out)) hb); clear BK185; clear HB; have BK185 := n0_; have HB := n1_; clear n0_ n1_; (try clear hb); (try clear hb2); (try clear hk); (try clear hi); have hcz49_0 : w48.cell? ⟨gb185, 0, none⟩ = some (.string a0_0) := (blk_cell BK185.out 0).trans rfl; have hcz49_1 : w48.cell? ⟨gb185, 1, none⟩ = some (.int .i64 a0_1) := (blk_cell BK185.out 1).trans rfl; have hcz49_2 : w48.cell? ⟨gb185, 2, none⟩ = some (.string a0_2) := (blk_cell BK185.out 2).trans rfl; have hcz49_3 : w48.cell? ⟨gb185, 3, none⟩ = some (.int .i64 a0_3) := (blk_cell BK185.out 3).trans rfl; have hcz49_4 : w48.cell? ⟨gb185, 4, none⟩ = some (.int .i64 a0_4) := (blk_cell BK185.out 4).trans rfl; have hcz49_5 : w48.cell? ⟨gb185, 5, none⟩ = some (.int .i64 a0_5) := (blk_cell BK185.out 5).trans rfl; have hcz49_6 : w48.cell? ⟨gb185, 6, none⟩ = some (.int .i64 a0_6) := (blk_cell BK185.out 6).trans rfl; have hcz49_7 : w48.cell? ⟨gb185, 7, none⟩ = some (.int .i64 a0_7) := (blk_cell BK185.out 7).trans rfl; have hfz49_0 := blk_frozen BK185.out 0; have hfz49_1 := blk_frozen BK185.out 1; have hfz49_2 := blk_frozen BK185.out 2; have hfz49_3 := blk_frozen BK185.out 3; have hfz49_4 := blk_frozen BK185.out 4; have hfz49_5 := blk_frozen BK185.out 5; have hfz49_6 := blk_frozen BK185.out 6; have hfz49_7 := blk_frozen BK185.out 7))
                  have n0_ := Aside0.mk (blk_drew BK185.out)
                  have n1_ := Aside0.mk (below_drew1 HB.out)
                  clear BK185
                  clear HB
                  have BK185 := n0_
                  have HB := n1_
                  clear n0_ n1_
                  refine start_ (n := 13) (S := fun w' => w'.cell? ⟨gb185, 0, none⟩ = some (.string a0_0) ∧ w'.cell? ⟨gb185, 1, none⟩ = some (.int .i64 a0_1) ∧ w'.cell? ⟨gb185, 2, none⟩ = some (.string a0_2) ∧ w'.cell? ⟨gb185, 3, none⟩ = some (.int .i64 a0_3) ∧ w'.cell? ⟨gb185, 4, none⟩ = some (.int .i64 a0_4) ∧ w'.cell? ⟨gb185, 5, none⟩ = some (.int .i64 a0_5) ∧ w'.cell? ⟨gb185, 6, none⟩ = some (.int .i64 a0_6) ∧ w'.cell? ⟨gb185, 7, none⟩ = some (.int .i64 a0_7)) (ds := []) #[false, false, false, false, false, false, false, false, false, false, false, false, false] (by kernel_rfl) rfl rfl ⟨(blk_cell BK185.out 0).trans rfl, (blk_cell BK185.out 1).trans rfl, (blk_cell BK185.out 2).trans rfl, (blk_cell BK185.out 3).trans rfl, (blk_cell BK185.out 4).trans rfl, (blk_cell BK185.out 5).trans rfl, (blk_cell BK185.out 6).trans rfl, (blk_cell BK185.out 7).trans rfl⟩ (fun hHeld => ?_); refine with_tabW spec_FormatDevice.tab8 spec_FormatDevice.bits8 (fun HT_ HW_ => ?_)
                  generalize w48.drew = w50 at BK185 HB hHeld ⊢
                  refine pure_ (i := 0) (N := some 47) (v := ?_) (a' := ?_) #[true, false, false, false, false, false, false, false, false, false, false, false, false] rfl rfl (any_of HT_.out (by kernel_rfl)) (fun _ _ _ h => h) (Or.inl ⟨by rfl, ?_⟩) ?_ ?_
                  rotate_left
                  · intro w'
                    go_simp
                    first | (with_reducible rfl) | rfl
                  rotate_left
                  · simp only [Act.put, List.setIfInBounds_toArray, List.set_cons_zero, List.set_cons_succ, i64_w, i32_w]
                    rfl
                  refine pure_ (i := 4) (N := some 51) (v := ?_) (a' := ?_) #[true, false, false, false, true, false, false, false, false, false, false, false, false] rfl rfl (any_of HT_.out (by kernel_rfl)) (fun _ _ _ h => h) (Or.inl ⟨by rfl, ?_⟩) ?_ ?_
                  rotate_left
                  · intro w'
                    go_simp
                    first | (with_reducible rfl) | rfl
                  rotate_left
                  · simp only [Act.put, List.setIfInBounds_toArray, List.set_cons_zero, List.set_cons_succ, i64_w, i32_w]
                    rfl
                  refine pure_ (i := 8) (N := some 55) (v := ?_) (a' := ?_) #[true, false, false, false, true, false, false, false, true, false, false, false, false] rfl rfl (any_of HT_.out (by kernel_rfl)) (fun _ _ _ h => h) (Or.inl ⟨by rfl, ?_⟩) ?_ ?_
                  rotate_left
                  · intro w'
                    go_simp
                    first | (with_reducible rfl) | rfl
                  rotate_left
                  · simp only [Act.put, List.setIfInBounds_toArray, List.set_cons_zero, List.set_cons_succ, i64_w, i32_w]
                    rfl
                  refine take_ (i := 1) (N := some 48) (v := ?_) (a' := ?_) #[true, true, false, false, true, false, false, false, true, false, false, false, false] rfl rfl (take_ofW HT_.out HW_.out (by kernel_rfl)) (fun _ _ _ h => h) (Or.inl ⟨by rfl, ?_⟩) hHeld ?_ ?_
                  rotate_left
                  · rintro w' ⟨s0, s1, s2, s3, s4, s5, s6, s7⟩
                    go_simp
                    first | (with_reducible rfl) | rfl
                  rotate_left
                  · simp only [Act.put, List.setIfInBounds_toArray, List.set_cons_zero, List.set_cons_succ, i64_w, i32_w]
                    rfl
                  refine pure_ (i := 2) (N := some 49) (v := ?_) (a' := ?_) #[true, true, true, false, true, false, false, false, true, false, false, false, false] rfl rfl (any_of HT_.out (by kernel_rfl)) (fun _ _ _ h => h) (Or.inl ⟨by rfl, ?_⟩) ?_ ?_
                  rotate_left
                  · intro w'
                    go_simp
                    first | (with_reducible rfl) | rfl
                  rotate_left
                  · simp only [Act.put, List.setIfInBounds_toArray, List.set_cons_zero, List.set_cons_succ, i64_w, i32_w]
                    rfl
                  refine pure_ (i := 3) (N := some 50) (v := ?_) (a' := ?_) #[true, true, true, true, true, false, false, false, true, false, false, false, false] rfl rfl (any_of HT_.out (by kernel_rfl)) (fun _ _ _ h => h) (Or.inl ⟨by rfl, ?_⟩) ?_ ?_
                  rotate_left
                  · intro w'
                    go_simp
                    first | (with_reducible rfl) | rfl
                  rotate_left
                  · simp only [Act.put, List.setIfInBounds_toArray, List.set_cons_zero, List.set_cons_succ, i64_w, i32_w]
                    rfl
                  refine take_ (i := 5) (N := some 52) (v := ?_) (a' := ?_) #[true, true, true, true, true, true, false, false, true, false, false, false, false] rfl rfl (take_ofW HT_.out HW_.out (by kernel_rfl)) (fun _ _ _ h => h) (Or.inl ⟨by rfl, ?_⟩) hHeld ?_ ?_
                  rotate_left
                  · rintro w' ⟨s0, s1, s2, s3, s4, s5, s6, s7⟩
                    go_simp
                    first | (with_reducible rfl) | rfl
                  rotate_left
                  · simp only [Act.put, List.setIfInBounds_toArray, List.set_cons_zero, List.set_cons_succ, i64_w, i32_w]
                    rfl
                  refine pure_ (i := 6) (N := some 53) (v := ?_) (a' := ?_) #[true, true, true, true, true, true, true, false, true, false, false, false, false] rfl rfl (any_of HT_.out (by kernel_rfl)) (fun _ _ _ h => h) (Or.inl ⟨by rfl, ?_⟩) ?_ ?_
                  rotate_left
                  · intro w'
                    go_simp
                    first | (with_reducible rfl) | rfl
                  rotate_left
                  · simp only [Act.put, List.setIfInBounds_toArray, List.set_cons_zero, List.set_cons_succ, i64_w, i32_w]
                    rfl
                  refine pure_ (i := 7) (N := some 54) (v := ?_) (a' := ?_) #[true, true, true, true, true, true, true, true, true, false, false, false, false] rfl rfl (any_of HT_.out (by kernel_rfl)) (fun _ _ _ h => h) (Or.inl ⟨by rfl, ?_⟩) ?_ ?_
                  rotate_left
                  · intro w'
                    go_simp
                    first | (with_reducible rfl) | rfl
                  rotate_left
                  · simp only [Act.put, List.setIfInBounds_toArray, List.set_cons_zero, List.set_cons_succ, i64_w, i32_w]
                    rfl
                  refine take_ (i := 9) (N := some 56) (v := ?_) (a' := ?_) #[true, true, true, true, true, true, true, true, true, true, false, false, false] rfl rfl (take_ofW HT_.out HW_.out (by kernel_rfl)) (fun _ _ _ h => h) (Or.inl ⟨by rfl, ?_⟩) hHeld ?_ ?_
                  rotate_left
                  · rintro w' ⟨s0, s1, s2, s3, s4, s5, s6, s7⟩
                    go_simp
                    first | (with_reducible rfl) | rfl
                  rotate_left
                  · simp only [Act.put, List.setIfInBounds_toArray, List.set_cons_zero, List.set_cons_succ, i64_w, i32_w]
                    rfl
                  refine one_ (i := 10) (N := some 57) #[true, true, true, true, true, true, true, true, true, true, true, false, false] rfl rfl (one_of HT_.out (by kernel_rfl)) (by decide) (fun K hK => ?_)
                  refine goes_ Tryd.func68 (by kernel_rfl) rfl #[.agg #[.int .i64 a0_3, .int .i64 a0_4]] (by rfl) rfl rfl (by (try simp only [List.map_toArray, List.map_cons, List.map_nil]); first | done | rfl | (simp only [List.length_drop, List.length_take]; rfl)) ?_
                  with_reducible refine (spec_FormatPlace.calls k a0_3 a0_4 t192 _ A44.out).mono ?_
                  rintro e w51 ⟨rfl, hb⟩
                  refine ⟨_, rfl, ?_⟩
                  have n0_ := Aside0.mk (blk_below (g := gb185) (o := .cells #[.string a0_0, .int .i64 a0_1, .string a0_2, .int .i64 a0_3, .int .i64 a0_4, .int .i64 a0_5, .int .i64 a0_6, .int .i64 a0_7] 38 (0, 0)) (by (with_reducible repeat (first | refine blk_drewN ?_ _ | refine blk_drew ?_ | refine blk_alloc ?_ _)); exact BK185.out) hb)
                  have n1_ := Aside0.mk (below_step (by repeat (first | (with_reducible first | exact HB.out | apply below_alloc | apply pw_below_drewN | apply below_drew1 | refine below_set ?_ GE185.out) | exact HB.out)) hb)
                  clear BK185
                  clear HB
                  have BK185 := n0_
                  have HB := n1_
                  clear n0_ n1_
                  (try clear hb)
                  (try clear hb2)
                  (try clear hk)
                  (try clear hi)
                  refine hK.out _ _ ⟨(blk_cell BK185.out 0).trans rfl, (blk_cell BK185.out 1).trans rfl, (blk_cell BK185.out 2).trans rfl, (blk_cell BK185.out 3).trans rfl, (blk_cell BK185.out 4).trans rfl, (blk_cell BK185.out 5).trans rfl, (blk_cell BK185.out 6).trans rfl, (blk_cell BK185.out 7).trans rfl⟩ (fun hHeld => ?_)
                  clear hK K
                  refine norm_ (a' := ?_) ?_ ?_
                  rotate_left
                  · show Act.put _ (some 57) _ = _
                    simp only [Act.put, List.setIfInBounds_toArray, List.set_cons_zero, List.set_cons_succ, i64_w, i32_w]
                    rfl
                  refine pure_ (i := 11) (N := some 58) (v := ?_) (a' := ?_) #[true, true, true, true, true, true, true, true, true, true, true, true, false] rfl rfl (any_of HT_.out (by kernel_rfl)) (fun _ _ _ h => h) (Or.inl ⟨by rfl, ?_⟩) ?_ ?_
                  rotate_left
                  · intro w'
                    go_simp
                    first | (with_reducible rfl) | rfl
                  rotate_left
                  · simp only [Act.put, List.setIfInBounds_toArray, List.set_cons_zero, List.set_cons_succ, i64_w, i32_w]
                    rfl
                  refine pure_ (i := 12) (N := some 2) (v := ?_) (a' := ?_) #[true, true, true, true, true, true, true, true, true, true, true, true, true] rfl rfl (any_of HT_.out (by kernel_rfl)) (fun _ _ _ h => h) (Or.inl ⟨by rfl, ?_⟩) ?_ ?_
                  rotate_left
                  · intro w'
                    go_simp
                    first | (with_reducible rfl) | rfl
                  rotate_left
                  · simp only [Act.put, List.setIfInBounds_toArray, List.set_cons_zero, List.set_cons_succ, i64_w, i32_w]
                    rfl
                  refine done_ (done_of HT_.out (by kernel_rfl)) ?_
                  try go_wp2
                  go_ret
                  exact ⟨by first | rfl | (simp [errW_none, errW_some] <;> rfl) | (simp [*, errW_none, errW_some] <;> rfl), by repeat (first | (with_reducible first | exact HB.out | apply below_alloc | apply pw_below_drewN | apply below_drew1 | refine below_set ?_ GE185.out) | exact HB.out)⟩
                · rw [if_neg c45] at H
                  exact absurd H (by simp)
              · rw [if_neg c43] at H
                exact absurd H (by simp)
            · rw [if_neg c42] at H
              exact absurd H (by simp)
          · rw [if_neg c41] at H
            exact absurd H (by simp)
        · rw [if_neg c40] at H
          exact absurd H (by simp)
  · replace c3 := Bool.eq_false_iff.mpr c3
    subst c3
    have H1 : (some (⟨#[]⟩ : ByteArray)) = some r := by rw [if_neg (show ¬ (false = true) by decide)] at H; exact H
    clear H
    have H := H1
    clear H1
    obtain rfl := Option.some.inj H
    go_enter Tryd.func30, Tryd.ntmps30
    go_wp2_with (first | ((with_reducible refine gate_dst (N := 1) rfl ?_); refine box_event ?hg (N := 1) ?hd (cs := #[.string a0_0, .int .i64 a0_1, .string a0_2, .int .i64 a0_3, .int .i64 a0_4, .int .i64 a0_5, .int .i64 a0_6, .int .i64 a0_7]) (t := 38) ?hr ?_; (case hd => rfl); (case hg => rfl); (case hr => first | (go_simp; done) | (go_simp; rfl)); intro gb185 hg w52 hbox hb; have n0_ := Aside0.mk (below_step (by repeat (first | (with_reducible first | exact HB.out | apply below_alloc | apply pw_below_drewN | apply below_drew1) | exact HB.out)) hb); have n1_ := Aside0.mk (hbox); have n2_ := Aside0.mk ((by rw [hg]; exact (below_size (by repeat (first | (with_reducible first | exact HB.out | apply below_alloc | apply pw_below_drewN | apply below_drew1) | exact HB.out))) : w.heap.size ≤ gb185)); have n3_ := Aside0.mk ((by rw [hg]; exact (below_size (by repeat (first | (with_reducible first | exact HB.out | apply below_alloc | apply pw_below_drewN | apply below_drew1) | exact HB.out))) : w.heap.size ≤ gb185)); clear HB; have HB := n0_; have BK185 := n1_; have GW185 := n2_; have GE185 := n3_; clear n0_ n1_ n2_ n3_; clear hb hbox hg; have hcz53_0 : w52.cell? ⟨gb185, 0, none⟩ = some (.string a0_0) := (blk_cell BK185.out 0).trans rfl; have hcz53_1 : w52.cell? ⟨gb185, 1, none⟩ = some (.int .i64 a0_1) := (blk_cell BK185.out 1).trans rfl; have hcz53_2 : w52.cell? ⟨gb185, 2, none⟩ = some (.string a0_2) := (blk_cell BK185.out 2).trans rfl; have hcz53_3 : w52.cell? ⟨gb185, 3, none⟩ = some (.int .i64 a0_3) := (blk_cell BK185.out 3).trans rfl; have hcz53_4 : w52.cell? ⟨gb185, 4, none⟩ = some (.int .i64 a0_4) := (blk_cell BK185.out 4).trans rfl; have hcz53_5 : w52.cell? ⟨gb185, 5, none⟩ = some (.int .i64 a0_5) := (blk_cell BK185.out 5).trans rfl; have hcz53_6 : w52.cell? ⟨gb185, 6, none⟩ = some (.int .i64 a0_6) := (blk_cell BK185.out 6).trans rfl; have hcz53_7 : w52.cell? ⟨gb185, 7, none⟩ = some (.int .i64 a0_7) := (blk_cell BK185.out 7).trans rfl; have hfz53_0 := blk_frozen BK185.out 0; have hfz53_1 := blk_frozen BK185.out 1; have hfz53_2 := blk_frozen BK185.out 2; have hfz53_3 := blk_frozen BK185.out 3; have hfz53_4 := blk_frozen BK185.out 4; have hfz53_5 := blk_frozen BK185.out 5; have hfz53_6 := blk_frozen BK185.out 6; have hfz53_7 := blk_frozen BK185.out 7) | ((with_reducible refine gate_callee (f := 22) rfl ?_); refine goesL_ (some 4) rfl rfl Tryd.func22 (by kernel_rfl) rfl #[.agg #[.string a0_0, .int .i64 a0_1, .string a0_2, .int .i64 a0_3, .int .i64 a0_4, .int .i64 a0_5, .int .i64 a0_6, .int .i64 a0_7]] rfl (by (try simp only [List.map_toArray, List.map_cons, List.map_nil]); first | done | rfl | (simp only [List.length_drop, List.length_take]; rfl)) ?_; (with_reducible refine (spec_IsDevice.calls k a0_0 a0_1 a0_2 a0_3 a0_4 a0_5 a0_6 a0_7 false _ A2.out).mono ?_); rintro e w54 ⟨rfl, hb⟩; refine ⟨_, rfl, ?_⟩; have n0_ := Aside0.mk (blk_below (g := gb185) (o := .cells #[.string a0_0, .int .i64 a0_1, .string a0_2, .int .i64 a0_3, .int .i64 a0_4, .int .i64 a0_5, .int .i64 a0_6, .int .i64 a0_7] 38 (0, 0)) (by (with_reducible repeat (first | refine blk_drewN ?_ _ | refine blk_drew ?_ | refine blk_alloc ?_ _)); exact BK185.out) hb); have n1_ := Aside0.mk (below_step (by repeat (first | (with_reducible first | exact HB.out | apply below_alloc | apply pw_below_drewN | apply below_drew1 | refine below_set ?_ GE185.out) | exact HB.out)) hb); clear BK185; clear HB; have BK185 := n0_; have HB := n1_; clear n0_ n1_; (try clear hb); (try clear hb2); (try clear hk); (try clear hi)))
    go_ret
    exact ⟨by first | rfl | (simp [errW_none, errW_some] <;> rfl) | (simp [*, errW_none, errW_some] <;> rfl), by repeat (first | (with_reducible first | exact HB.out | apply below_alloc | apply pw_below_drewN | apply below_drew1 | refine below_set ?_ GE185.out) | exact HB.out)⟩

/-! ### laws_toPlace: function 69 -/
def laws_toPlace.f (a0_0 : Int) (a0_1 : Int) : Option (Int × Int) := some (a0_0, a0_1)
set_option maxHeartbeats 8000000 in
set_option maxRecDepth 100000 in
theorem laws_toPlace.calls (a0_0 : Int) (a0_1 : Int) (r1 : Int) (r2 : Int) (w : World) (h : laws_toPlace.f a0_0 a0_1 = some (r1, r2)) :
    Calls Tryd.prog 69 #[.agg #[.int .i64 a0_0, .int .i64 a0_1]] w fun e w' => e = .returned (.agg #[.int .i64 r1, .int .i64 r2]) ∧ Below w.heap.size w w' := by
  have hu50 := Tryd.underlying50
  have hu36 := Tryd.underlying36
  have HB := Aside0.mk (Below.refl w.heap.size w)
  have H : (some (a0_0, a0_1)) = some (r1, r2) := h
  clear h
  simp only [Option.some.injEq, Prod.mk.injEq] at H
  obtain ⟨rfl, rfl⟩ := H
  go_enter Tryd.func69, Tryd.ntmps69
  go_wp2_with (first | ((with_reducible refine gate_dst (N := 1) rfl ?_); refine box_event ?hg (N := 1) ?hd (cs := #[.int .i64 a0_0, .int .i64 a0_1]) (t := 50) ?hr ?_; (case hd => rfl); (case hg => rfl); (case hr => first | (go_simp; done) | (go_simp; rfl)); intro gb193 hg w2 hbox hb; have n0_ := Aside0.mk (below_step (by repeat (first | (with_reducible first | exact HB.out | apply below_alloc | apply pw_below_drewN | apply below_drew1) | exact HB.out)) hb); have n1_ := Aside0.mk (hbox); have n2_ := Aside0.mk ((by rw [hg]; exact (below_size (by repeat (first | (with_reducible first | exact HB.out | apply below_alloc | apply pw_below_drewN | apply below_drew1) | exact HB.out))) : w.heap.size ≤ gb193)); have n3_ := Aside0.mk ((by rw [hg]; exact (below_size (by repeat (first | (with_reducible first | exact HB.out | apply below_alloc | apply pw_below_drewN | apply below_drew1) | exact HB.out))) : w.heap.size ≤ gb193)); clear HB; have HB := n0_; have BK193 := n1_; have GW193 := n2_; have GE193 := n3_; clear n0_ n1_ n2_ n3_; clear hb hbox hg) | ((with_reducible refine gate_dst (N := 2) rfl ?_); refine box_event ?hg (N := 2) ?hd (cs := #[.int .i64 0, .int .i64 0]) (t := 36) ?hr ?_; (case hd => rfl); (case hg => rfl); (case hr => first | (go_simp; done) | (go_simp; rfl)); intro gb194 hg w3 hbox hb; have n0_ := Aside0.mk (blk_below (g := gb193) (o := .cells #[.int .i64 a0_0, .int .i64 a0_1] 50 (0, 0)) (by (with_reducible repeat (first | refine blk_drewN ?_ _ | refine blk_drew ?_ | refine blk_alloc ?_ _)); exact BK193.out) hb); have n1_ := Aside0.mk (below_step (by repeat (first | (with_reducible first | exact HB.out | apply below_alloc | apply pw_below_drewN | apply below_drew1 | refine below_set ?_ GE193.out) | exact HB.out)) hb); have n2_ := Aside0.mk (hbox); have n3_ := Aside0.mk ((by rw [hg]; exact (below_size (by repeat (first | (with_reducible first | exact HB.out | apply below_alloc | apply pw_below_drewN | apply below_drew1 | refine below_set ?_ GE193.out) | exact HB.out))) : w.heap.size ≤ gb194)); have n4_ := Aside0.mk ((by rw [hg]; exact (below_size (by repeat (first | (with_reducible first | exact HB.out | apply below_alloc | apply pw_below_drewN | apply below_drew1 | refine below_set ?_ GE193.out) | exact HB.out))) : w.heap.size ≤ gb194)); have n5_ := Aside0.mk ((by rw [hg]; exact Nat.ne_of_lt (blk_lt (g := gb193) (o := .cells #[.int .i64 a0_0, .int .i64 a0_1] 50 (0, 0)) (by (with_reducible repeat (first | refine blk_drewN ?_ _ | refine blk_drew ?_ | refine blk_alloc ?_ _)); exact BK193.out)) : gb193 ≠ gb194)); have n6_ := Aside0.mk ((by rw [hg]; exact Nat.ne_of_gt (blk_lt (g := gb193) (o := .cells #[.int .i64 a0_0, .int .i64 a0_1] 50 (0, 0)) (by (with_reducible repeat (first | refine blk_drewN ?_ _ | refine blk_drew ?_ | refine blk_alloc ?_ _)); exact BK193.out)) : gb194 ≠ gb193)); clear BK193; clear HB; have BK193 := n0_; have HB := n1_; have BK194 := n2_; have GW194 := n3_; have GE194 := n4_; have NB193_194 := n5_; have NB194_193 := n6_; clear n0_ n1_ n2_ n3_ n4_ n5_ n6_; clear hb hbox hg) | ((with_reducible refine gate_dst (N := 3) rfl ?_); refine box_event ?hg (N := 3) ?hd (cs := #[.int .i64 0, .int .i64 0]) (t := 36) ?hr ?_; (case hd => rfl); (case hg => rfl); (case hr => first | (go_simp; done) | (go_simp; rfl)); intro gb195 hg w4 hbox hb; have n0_ := Aside0.mk (blk_below (g := gb193) (o := .cells #[.int .i64 a0_0, .int .i64 a0_1] 50 (0, 0)) (by (with_reducible repeat (first | refine blk_drewN ?_ _ | refine blk_drew ?_ | refine blk_alloc ?_ _)); exact BK193.out) hb); have n1_ := Aside0.mk (blk_below (g := gb194) (o := .cells #[.int .i64 0, .int .i64 0] 36 (0, 0)) (by (with_reducible repeat (first | refine blk_drewN ?_ _ | refine blk_drew ?_ | refine blk_alloc ?_ _)); exact BK194.out) hb); have n2_ := Aside0.mk (below_step (by repeat (first | (with_reducible first | exact HB.out | apply below_alloc | apply pw_below_drewN | apply below_drew1 | refine below_set ?_ GE193.out | refine below_set ?_ GE194.out) | exact HB.out)) hb); have n3_ := Aside0.mk (hbox); have n4_ := Aside0.mk ((by rw [hg]; exact (below_size (by repeat (first | (with_reducible first | exact HB.out | apply below_alloc | apply pw_below_drewN | apply below_drew1 | refine below_set ?_ GE193.out | refine below_set ?_ GE194.out) | exact HB.out))) : w.heap.size ≤ gb195)); have n5_ := Aside0.mk ((by rw [hg]; exact (below_size (by repeat (first | (with_reducible first | exact HB.out | apply below_alloc | apply pw_below_drewN | apply below_drew1 | refine below_set ?_ GE193.out | refine below_set ?_ GE194.out) | exact HB.out))) : w.heap.size ≤ gb195)); have n6_ := Aside0.mk ((by rw [hg]; exact Nat.ne_of_lt (blk_lt (g := gb193) (o := .cells #[.int .i64 a0_0, .int .i64 a0_1] 50 (0, 0)) (by (with_reducible repeat (first | refine blk_drewN ?_ _ | refine blk_drew ?_ | refine blk_alloc ?_ _)); exact BK193.out)) : gb193 ≠ gb195)); have n7_ := Aside0.mk ((by rw [hg]; exact Nat.ne_of_gt (blk_lt (g := gb193) (o := .cells #[.int .i64 a0_0, .int .i64 a0_1] 50 (0, 0)) (by (with_reducible repeat (first | refine blk_drewN ?_ _ | refine blk_drew ?_ | refine blk_alloc ?_ _)); exact BK193.out)) : gb195 ≠ gb193)); have n8_ := Aside0.mk ((by rw [hg]; exact Nat.ne_of_lt (blk_lt (g := gb194) (o := .cells #[.int .i64 0, .int .i64 0] 36 (0, 0)) (by (with_reducible repeat (first | refine blk_drewN ?_ _ | refine blk_drew ?_ | refine blk_alloc ?_ _)); exact BK194.out)) : gb194 ≠ gb195)); have n9_ := Aside0.mk ((by rw [hg]; exact Nat.ne_of_gt (blk_lt (g := gb194) (o := .cells #[.int .i64 0, .int .i64 0] 36 (0, 0)) (by (with_reducible repeat (first | refine blk_drewN ?_ _ | refine blk_drew ?_ | refine blk_alloc ?_ _)); exact BK194.out)) : gb195 ≠ gb194)); clear BK193; clear BK194; clear HB; have BK193 := n0_; have BK194 := n1_; have HB := n2_; have BK195 := n3_; have GW195 := n4_; have GE195 := n5_; have NB193_195 := n6_; have NB195_193 := n7_; have NB194_195 := n8_; have NB195_194 := n9_; clear n0_ n1_ n2_ n3_ n4_ n5_ n6_ n7_ n8_ n9_; clear hb hbox hg; have hnb5 := NB193_194.out; have hnc5 := NB194_193.out; have hnb6 := NB193_195.out; have hnc6 := NB195_193.out; have hcz7_0 : w4.cell? ⟨gb193, 0, none⟩ = some (.int .i64 a0_0) := (blk_cell BK193.out 0).trans rfl; have hcz7_1 : w4.cell? ⟨gb193, 1, none⟩ = some (.int .i64 a0_1) := (blk_cell BK193.out 1).trans rfl; have hfz7_0 := blk_frozen BK193.out 0; have hfz7_1 := blk_frozen BK193.out 1; have hnb8 := NB195_194.out; have hnc8 := NB194_195.out; have hcz9_0 : w4.cell? ⟨gb195, 0, none⟩ = some (.int .i64 0) := (blk_cell BK195.out 0).trans rfl; have hcz9_1 : w4.cell? ⟨gb195, 1, none⟩ = some (.int .i64 0) := (blk_cell BK195.out 1).trans rfl; have hfz9_0 := blk_frozen BK195.out 0; have hfz9_1 := blk_frozen BK195.out 1; have hcz10_0 : w4.cell? ⟨gb194, 0, none⟩ = some (.int .i64 0) := (blk_cell BK194.out 0).trans rfl; have hcz10_1 : w4.cell? ⟨gb194, 1, none⟩ = some (.int .i64 0) := (blk_cell BK194.out 1).trans rfl; have hfz10_0 := blk_frozen BK194.out 0; have hfz10_1 := blk_frozen BK194.out 1))
  refine bodyPost_ret (results_cell_row rfl _ _ gb194 36 #[.int .i64 a0_0, .int .i64 a0_1] (0, 0) _ rfl (by (with_reducible repeat (first | refine blk_drewN ?_ _ | refine blk_drew ?_ | refine blk_alloc ?_ _)); refine blk_put (cs := #[.int .i64 a0_0, .int .i64 0]) ?_ 1 _ rfl; (with_reducible repeat (first | refine blk_drewN ?_ _ | refine blk_drew ?_ | refine blk_alloc ?_ _)); refine blk_put (cs := #[.int .i64 0, .int .i64 0]) ?_ 0 _ rfl; (with_reducible repeat (first | refine blk_drewN ?_ _ | refine blk_drew ?_ | refine blk_alloc ?_ _)); refine blk_far ?_ NB194_195.out _; (with_reducible repeat (first | refine blk_drewN ?_ _ | refine blk_drew ?_ | refine blk_alloc ?_ _)); refine blk_far ?_ NB194_195.out _; (with_reducible repeat (first | refine blk_drewN ?_ _ | refine blk_drew ?_ | refine blk_alloc ?_ _)); exact BK194.out) Tryd.underlying36 rfl (by kernel_rfl)) rfl ?_
  exact ⟨by first | rfl | (simp [errW_none, errW_some] <;> rfl) | (simp [*, errW_none, errW_some] <;> rfl), by repeat (first | (with_reducible first | exact HB.out | apply below_alloc | apply pw_below_drewN | apply below_drew1 | refine below_set ?_ GE193.out | refine below_set ?_ GE194.out | refine below_set ?_ GE195.out) | exact HB.out)⟩

/-! ### laws_toDevice: function 31 -/
def laws_toDevice.f (a0_0 : ByteArray) (a0_1 : Int) (a0_2 : ByteArray) (a0_3 : Int) (a0_4 : Int) (a0_5 : Int) (a0_6 : Int) (a0_7 : Int) : Option (ByteArray × Int × ByteArray × Int × Int × Int × Int × Int) := (laws_toPlace.f a0_3 a0_4).bind fun bt199 => (some (a0_0, a0_1, a0_2, bt199.1, bt199.2, a0_5, a0_6, a0_7))
set_option maxHeartbeats 8000000 in
set_option maxRecDepth 100000 in
theorem laws_toDevice.calls (a0_0 : ByteArray) (a0_1 : Int) (a0_2 : ByteArray) (a0_3 : Int) (a0_4 : Int) (a0_5 : Int) (a0_6 : Int) (a0_7 : Int) (r1 : ByteArray) (r2 : Int) (r3 : ByteArray) (r4 : Int) (r5 : Int) (r6 : Int) (r7 : Int) (r8 : Int) (w : World) (h : laws_toDevice.f a0_0 a0_1 a0_2 a0_3 a0_4 a0_5 a0_6 a0_7 = some (r1, r2, r3, r4, r5, r6, r7, r8)) :
    Calls Tryd.prog 31 #[.agg #[.string a0_0, .int .i64 a0_1, .string a0_2, .int .i64 a0_3, .int .i64 a0_4, .int .i64 a0_5, .int .i64 a0_6, .int .i64 a0_7]] w fun e w' => e = .returned (.agg #[.string r1, .int .i64 r2, .string r3, .int .i64 r4, .int .i64 r5, .int .i64 r6, .int .i64 r7, .int .i64 r8]) ∧ Below w.heap.size w w' := by
  have hu52 := Tryd.underlying52
  have hu38 := Tryd.underlying38
  have hu50 := Tryd.underlying50
  have hu36 := Tryd.underlying36
  have HB := Aside0.mk (Below.refl w.heap.size w)
  have H : ((laws_toPlace.f a0_3 a0_4).bind fun bt199 => (some (a0_0, a0_1, a0_2, bt199.1, bt199.2, a0_5, a0_6, a0_7))) = some (r1, r2, r3, r4, r5, r6, r7, r8) := h
  clear h
  replace H := Option.bind_eq_some_iff.mp H
  obtain ⟨⟨t199, t200⟩, A20, H⟩ := H
  replace H : (some (a0_0, a0_1, a0_2, t199, t200, a0_5, a0_6, a0_7)) = some (r1, r2, r3, r4, r5, r6, r7, r8) := H
  have A2 := Aside0.mk A20
  clear A20
  simp only [Option.some.injEq, Prod.mk.injEq] at H
  obtain ⟨rfl, rfl, rfl, rfl, rfl, rfl, rfl, rfl⟩ := H
  go_enter Tryd.func31, Tryd.ntmps31
  go_wp2_with (first | ((with_reducible refine gate_dst (N := 1) rfl ?_); refine box_event ?hg (N := 1) ?hd (cs := #[.string a0_0, .int .i64 a0_1, .string a0_2, .int .i64 a0_3, .int .i64 a0_4, .int .i64 a0_5, .int .i64 a0_6, .int .i64 a0_7]) (t := 52) ?hr ?_; (case hd => rfl); (case hg => rfl); (case hr => first | (go_simp; done) | (go_simp; rfl)); intro gb196 hg w3 hbox hb; have n0_ := Aside0.mk (below_step (by repeat (first | (with_reducible first | exact HB.out | apply below_alloc | apply pw_below_drewN | apply below_drew1) | exact HB.out)) hb); have n1_ := Aside0.mk (hbox); have n2_ := Aside0.mk ((by rw [hg]; exact (below_size (by repeat (first | (with_reducible first | exact HB.out | apply below_alloc | apply pw_below_drewN | apply below_drew1) | exact HB.out))) : w.heap.size ≤ gb196)); have n3_ := Aside0.mk ((by rw [hg]; exact (below_size (by repeat (first | (with_reducible first | exact HB.out | apply below_alloc | apply pw_below_drewN | apply below_drew1) | exact HB.out))) : w.heap.size ≤ gb196)); clear HB; have HB := n0_; have BK196 := n1_; have GW196 := n2_; have GE196 := n3_; clear n0_ n1_ n2_ n3_; clear hb hbox hg) | ((with_reducible refine gate_dst (N := 2) rfl ?_); refine box_event ?hg (N := 2) ?hd (cs := #[.string (⟨#[]⟩ : ByteArray), .int .i64 0, .string (⟨#[]⟩ : ByteArray), .int .i64 0, .int .i64 0, .int .i64 0, .int .i64 0, .int .i64 0]) (t := 38) ?hr ?_; (case hd => rfl); (case hg => rfl); (case hr => first | (go_simp; done) | (go_simp; rfl)); intro gb197 hg w4 hbox hb; have n0_ := Aside0.mk (blk_below (g := gb196) (o := .cells #[.string a0_0, .int .i64 a0_1, .string a0_2, .int .i64 a0_3, .int .i64 a0_4, .int .i64 a0_5, .int .i64 a0_6, .int .i64 a0_7] 52 (0, 0)) (by (with_reducible repeat (first | refine blk_drewN ?_ _ | refine blk_drew ?_ | refine blk_alloc ?_ _)); exact BK196.out) hb); have n1_ := Aside0.mk (below_step (by repeat (first | (with_reducible first | exact HB.out | apply below_alloc | apply pw_below_drewN | apply below_drew1 | refine below_set ?_ GE196.out) | exact HB.out)) hb); have n2_ := Aside0.mk (hbox); have n3_ := Aside0.mk ((by rw [hg]; exact (below_size (by repeat (first | (with_reducible first | exact HB.out | apply below_alloc | apply pw_below_drewN | apply below_drew1 | refine below_set ?_ GE196.out) | exact HB.out))) : w.heap.size ≤ gb197)); have n4_ := Aside0.mk ((by rw [hg]; exact (below_size (by repeat (first | (with_reducible first | exact HB.out | apply below_alloc | apply pw_below_drewN | apply below_drew1 | refine below_set ?_ GE196.out) | exact HB.out))) : w.heap.size ≤ gb197)); have n5_ := Aside0.mk ((by rw [hg]; exact Nat.ne_of_lt (blk_lt (g := gb196) (o := .cells #[.string a0_0, .int .i64 a0_1, .string a0_2, .int .i64 a0_3, .int .i64 a0_4, .int .i64 a0_5, .int .i64 a0_6, .int .i64 a0_7] 52 (0, 0)) (by (with_reducible repeat (first | refine blk_drewN ?_ _ | refine blk_drew ?_ | refine blk_alloc ?_ _)); exact BK196.out)) : gb196 ≠ gb197)); have n6_ := Aside0.mk ((by rw [hg]; exact Nat.ne_of_gt (blk_lt (g := gb196) (o := .cells #[.string a0_0, .int .i64 a0_1, .string a0_2, .int .i64 a0_3, .int .i64 a0_4, .int .i64 a0_5, .int .i64 a0_6, .int .i64 a0_7] 52 (0, 0)) (by (with_reducible repeat (first | refine blk_drewN ?_ _ | refine blk_drew ?_ | refine blk_alloc ?_ _)); exact BK196.out)) : gb197 ≠ gb196)); clear BK196; clear HB; have BK196 := n0_; have HB := n1_; have BK197 := n2_; have GW197 := n3_; have GE197 := n4_; have NB196_197 := n5_; have NB197_196 := n6_; clear n0_ n1_ n2_ n3_ n4_ n5_ n6_; clear hb hbox hg) | ((with_reducible refine gate_dst (N := 3) rfl ?_); refine box_event ?hg (N := 3) ?hd (cs := #[.string (⟨#[]⟩ : ByteArray), .int .i64 0, .string (⟨#[]⟩ : ByteArray), .int .i64 0, .int .i64 0, .int .i64 0, .int .i64 0, .int .i64 0]) (t := 38) ?hr ?_; (case hd => rfl); (case hg => rfl); (case hr => first | (go_simp; done) | (go_simp; rfl)); intro gb198 hg w5 hbox hb; have n0_ := Aside0.mk (blk_below (g := gb196) (o := .cells #[.string a0_0, .int .i64 a0_1, .string a0_2, .int .i64 a0_3, .int .i64 a0_4, .int .i64 a0_5, .int .i64 a0_6, .int .i64 a0_7] 52 (0, 0)) (by (with_reducible repeat (first | refine blk_drewN ?_ _ | refine blk_drew ?_ | refine blk_alloc ?_ _)); exact BK196.out) hb); have n1_ := Aside0.mk (blk_below (g := gb197) (o := .cells #[.string (⟨#[]⟩ : ByteArray), .int .i64 0, .string (⟨#[]⟩ : ByteArray), .int .i64 0, .int .i64 0, .int .i64 0, .int .i64 0, .int .i64 0] 38 (0, 0)) (by (with_reducible repeat (first | refine blk_drewN ?_ _ | refine blk_drew ?_ | refine blk_alloc ?_ _)); exact BK197.out) hb); have n2_ := Aside0.mk (below_step (by repeat (first | (with_reducible first | exact HB.out | apply below_alloc | apply pw_below_drewN | apply below_drew1 | refine below_set ?_ GE196.out | refine below_set ?_ GE197.out) | exact HB.out)) hb); have n3_ := Aside0.mk (hbox); have n4_ := Aside0.mk ((by rw [hg]; exact (below_size (by repeat (first | (with_reducible first | exact HB.out | apply below_alloc | apply pw_below_drewN | apply below_drew1 | refine below_set ?_ GE196.out | refine below_set ?_ GE197.out) | exact HB.out))) : w.heap.size ≤ gb198)); have n5_ := Aside0.mk ((by rw [hg]; exact (below_size (by repeat (first | (with_reducible first | exact HB.out | apply below_alloc | apply pw_below_drewN | apply below_drew1 | refine below_set ?_ GE196.out | refine below_set ?_ GE197.out) | exact HB.out))) : w.heap.size ≤ gb198)); have n6_ := Aside0.mk ((by rw [hg]; exact Nat.ne_of_lt (blk_lt (g := gb196) (o := .cells #[.string a0_0, .int .i64 a0_1, .string a0_2, .int .i64 a0_3, .int .i64 a0_4, .int .i64 a0_5, .int .i64 a0_6, .int .i64 a0_7] 52 (0, 0)) (by (with_reducible repeat (first | refine blk_drewN ?_ _ | refine blk_drew ?_ | refine blk_alloc ?_ _)); exact BK196.out)) : gb196 ≠ gb198)); have n7_ := Aside0.mk ((by rw [hg]; exact Nat.ne_of_gt (blk_lt (g := gb196) (o := .cells #[.string a0_0, .int .i64 a0_1, .string a0_2, .int .i64 a0_3, .int .i64 a0_4, .int .i64 a0_5, .int .i64 a0_6, .int .i64 a0_7] 52 (0, 0)) (by (with_reducible repeat (first | refine blk_drewN ?_ _ | refine blk_drew ?_ | refine blk_alloc ?_ _)); exact BK196.out)) : gb198 ≠ gb196)); have n8_ := Aside0.mk ((by rw [hg]; exact Nat.ne_of_lt (blk_lt (g := gb197) (o := .cells #[.string (⟨#[]⟩ : ByteArray), .int .i64 0, .string (⟨#[]⟩ : ByteArray), .int .i64 0, .int .i64 0, .int .i64 0, .int .i64 0, .int .i64 0] 38 (0, 0)) (by (with_reducible repeat (first | refine blk_drewN ?_ _ | refine blk_drew ?_ | refine blk_alloc ?_ _)); exact BK197.out)) : gb197 ≠ gb198)); have n9_ := Aside0.mk ((by rw [hg]; exact Nat.ne_of_gt (blk_lt (g := gb197) (o := .cells #[.string (⟨#[]⟩ : ByteArray), .int .i64 0, .string (⟨#[]⟩ : ByteArray), .int .i64 0, .int .i64 0, .int .i64 0, .int .i64 0, .int .i64 0] 38 (0, 0)) (by (with_reducible repeat (first | refine blk_drewN ?_ _ | refine blk_drew ?_ | refine blk_alloc ?_ _)); exact BK197.out)) : gb198 ≠ gb197)); clear BK196; clear BK197; clear HB; have BK196 := n0_; have BK197 := n1_; have HB := n2_; have BK198 := n3_; have GW198 := n4_; have GE198 := n5_; have NB196_198 := n6_; have NB198_196 := n7_; have NB197_198 := n8_; have NB198_197 := n9_; clear n0_ n1_ n2_ n3_ n4_ n5_ n6_ n7_ n8_ n9_; clear hb hbox hg; have hnb6 := NB196_197.out; have hnc6 := NB197_196.out; have hnb7 := NB196_198.out; have hnc7 := NB198_196.out; have hcz8_0 : w5.cell? ⟨gb196, 0, none⟩ = some (.string a0_0) := (blk_cell BK196.out 0).trans rfl; have hcz8_1 : w5.cell? ⟨gb196, 1, none⟩ = some (.int .i64 a0_1) := (blk_cell BK196.out 1).trans rfl; have hcz8_2 : w5.cell? ⟨gb196, 2, none⟩ = some (.string a0_2) := (blk_cell BK196.out 2).trans rfl; have hcz8_3 : w5.cell? ⟨gb196, 3, none⟩ = some (.int .i64 a0_3) := (blk_cell BK196.out 3).trans rfl; have hcz8_4 : w5.cell? ⟨gb196, 4, none⟩ = some (.int .i64 a0_4) := (blk_cell BK196.out 4).trans rfl; have hcz8_5 : w5.cell? ⟨gb196, 5, none⟩ = some (.int .i64 a0_5) := (blk_cell BK196.out 5).trans rfl; have hcz8_6 : w5.cell? ⟨gb196, 6, none⟩ = some (.int .i64 a0_6) := (blk_cell BK196.out 6).trans rfl; have hcz8_7 : w5.cell? ⟨gb196, 7, none⟩ = some (.int .i64 a0_7) := (blk_cell BK196.out 7).trans rfl; have hfz8_0 := blk_frozen BK196.out 0; have hfz8_1 := blk_frozen BK196.out 1; have hfz8_2 := blk_frozen BK196.out 2; have hfz8_3 := blk_frozen BK196.out 3; have hfz8_4 := blk_frozen BK196.out 4; have hfz8_5 := blk_frozen BK196.out 5; have hfz8_6 := blk_frozen BK196.out 6; have hfz8_7 := blk_frozen BK196.out 7; have hnb9 := NB198_197.out; have hnc9 := NB197_198.out; have hcz10_0 : w5.cell? ⟨gb198, 0, none⟩ = some (.string (⟨#[]⟩ : ByteArray)) := (blk_cell BK198.out 0).trans rfl; have hcz10_1 : w5.cell? ⟨gb198, 1, none⟩ = some (.int .i64 0) := (blk_cell BK198.out 1).trans rfl; have hcz10_2 : w5.cell? ⟨gb198, 2, none⟩ = some (.string (⟨#[]⟩ : ByteArray)) := (blk_cell BK198.out 2).trans rfl; have hcz10_3 : w5.cell? ⟨gb198, 3, none⟩ = some (.int .i64 0) := (blk_cell BK198.out 3).trans rfl; have hcz10_4 : w5.cell? ⟨gb198, 4, none⟩ = some (.int .i64 0) := (blk_cell BK198.out 4).trans rfl; have hcz10_5 : w5.cell? ⟨gb198, 5, none⟩ = some (.int .i64 0) := (blk_cell BK198.out 5).trans rfl; have hcz10_6 : w5.cell? ⟨gb198, 6, none⟩ = some (.int .i64 0) := (blk_cell BK198.out 6).trans rfl; have hcz10_7 : w5.cell? ⟨gb198, 7, none⟩ = some (.int .i64 0) := (blk_cell BK198.out 7).trans rfl; have hfz10_0 := blk_frozen BK198.out 0; have hfz10_1 := blk_frozen BK198.out 1; have hfz10_2 := blk_frozen BK198.out 2; have hfz10_3 := blk_frozen BK198.out 3; have hfz10_4 := blk_frozen BK198.out 4; have hfz10_5 := blk_frozen BK198.out 5; have hfz10_6 := blk_frozen BK198.out 6; have hfz10_7 := blk_frozen BK198.out 7) | ((with_reducible refine gate_callee (f := 69) rfl ?_); refine goesL_ (some 15) rfl rfl Tryd.func69 (by kernel_rfl) rfl #[.agg #[.int .i64 a0_3, .int .i64 a0_4]] rfl (by (try simp only [List.map_toArray, List.map_cons, List.map_nil]); first | done | rfl | (simp only [List.length_drop, List.length_take]; rfl)) ?_; (with_reducible refine (laws_toPlace.calls a0_3 a0_4 t199 t200 _ A2.out).mono ?_); rintro e w11 ⟨rfl, hb⟩; refine ⟨_, rfl, ?_⟩; have n0_ := Aside0.mk (blk_below (g := gb196) (o := .cells #[.string a0_0, .int .i64 a0_1, .string a0_2, .int .i64 a0_3, .int .i64 a0_4, .int .i64 a0_5, .int .i64 a0_6, .int .i64 a0_7] 52 (0, 0)) (by (with_reducible repeat (first | refine blk_drewN ?_ _ | refine blk_drew ?_ | refine blk_alloc ?_ _)); refine blk_far ?_ NB196_198.out _; (with_reducible repeat (first | refine blk_drewN ?_ _ | refine blk_drew ?_ | refine blk_alloc ?_ _)); refine blk_far ?_ NB196_198.out _; (with_reducible repeat (first | refine blk_drewN ?_ _ | refine blk_drew ?_ | refine blk_alloc ?_ _)); refine blk_far ?_ NB196_198.out _; (with_reducible repeat (first | refine blk_drewN ?_ _ | refine blk_drew ?_ | refine blk_alloc ?_ _)); exact BK196.out) hb); have n1_ := Aside0.mk (blk_below (g := gb197) (o := .cells #[.string (⟨#[]⟩ : ByteArray), .int .i64 0, .string (⟨#[]⟩ : ByteArray), .int .i64 0, .int .i64 0, .int .i64 0, .int .i64 0, .int .i64 0] 38 (0, 0)) (by (with_reducible repeat (first | refine blk_drewN ?_ _ | refine blk_drew ?_ | refine blk_alloc ?_ _)); refine blk_far ?_ NB197_198.out _; (with_reducible repeat (first | refine blk_drewN ?_ _ | refine blk_drew ?_ | refine blk_alloc ?_ _)); refine blk_far ?_ NB197_198.out _; (with_reducible repeat (first | refine blk_drewN ?_ _ | refine blk_drew ?_ | refine blk_alloc ?_ _)); refine blk_far ?_ NB197_198.out _; (with_reducible repeat (first | refine blk_drewN ?_ _ | refine blk_drew ?_ | refine blk_alloc ?_ _)); exact BK197.out) hb); have n2_ := Aside0.mk (blk_below (g := gb198) (o := .cells #[.string a0_0, .int .i64 a0_1, .string a0_2, .int .i64 0, .int .i64 0, .int .i64 0, .int .i64 0, .int .i64 0] 38 (0, 0)) (by (with_reducible repeat (first | refine blk_drewN ?_ _ | refine blk_drew ?_ | refine blk_alloc ?_ _)); refine blk_put (cs := #[.string a0_0, .int .i64 a0_1, .string (⟨#[]⟩ : ByteArray), .int .i64 0, .int .i64 0, .int .i64 0, .int .i64 0, .int .i64 0]) ?_ 2 _ rfl; (with_reducible repeat (first | refine blk_drewN ?_ _ | refine blk_drew ?_ | refine blk_alloc ?_ _)); refine blk_put (cs := #[.string a0_0, .int .i64 0, .string (⟨#[]⟩ : ByteArray), .int .i64 0, .int .i64 0, .int .i64 0, .int .i64 0, .int .i64 0]) ?_ 1 _ rfl; (with_reducible repeat (first | refine blk_drewN ?_ _ | refine blk_drew ?_ | refine blk_alloc ?_ _)); refine blk_put (cs := #[.string (⟨#[]⟩ : ByteArray), .int .i64 0, .string (⟨#[]⟩ : ByteArray), .int .i64 0, .int .i64 0, .int .i64 0, .int .i64 0, .int .i64 0]) ?_ 0 _ rfl; (with_reducible repeat (first | refine blk_drewN ?_ _ | refine blk_drew ?_ | refine blk_alloc ?_ _)); exact BK198.out) hb); have n3_ := Aside0.mk (below_step (by repeat (first | (with_reducible first | exact HB.out | apply below_alloc | apply pw_below_drewN | apply below_drew1 | refine below_set ?_ GE196.out | refine below_set ?_ GE197.out | refine below_set ?_ GE198.out) | exact HB.out)) hb); clear BK196; clear BK197; clear BK198; clear HB; have BK196 := n0_; have BK197 := n1_; have BK198 := n2_; have HB := n3_; clear n0_ n1_ n2_ n3_; (try clear hb); (try clear hb2); (try clear hk); (try clear hi); have hcz12_0 : w11.cell? ⟨gb198, 0, none⟩ = some (.string a0_0) := (blk_cell BK198.out 0).trans rfl; have hcz12_1 : w11.cell? ⟨gb198, 1, none⟩ = some (.int .i64 a0_1) := (blk_cell BK198.out 1).trans rfl; have hcz12_2 : w11.cell? ⟨gb198, 2, none⟩ = some (.string a0_2) := (blk_cell BK198.out 2).trans rfl; have hcz12_3 : w11.cell? ⟨gb198, 3, none⟩ = some (.int .i64 0) := (blk_cell BK198.out 3).trans rfl; have hcz12_4 : w11.cell? ⟨gb198, 4, none⟩ = some (.int .i64 0) := (blk_cell BK198.out 4).trans rfl; have hcz12_5 : w11.cell? ⟨gb198, 5, none⟩ = some (.int .i64 0) := (blk_cell BK198.out 5).trans rfl; have hcz12_6 : w11.cell? ⟨gb198, 6, none⟩ = some (.int .i64 0) := (blk_cell BK198.out 6).trans rfl; have hcz12_7 : w11.cell? ⟨gb198, 7, none⟩ = some (.int .i64 0) := (blk_cell BK198.out 7).trans rfl; have hfz12_0 := blk_frozen BK198.out 0; have hfz12_1 := blk_frozen BK198.out 1; have hfz12_2 := blk_frozen BK198.out 2; have hfz12_3 := blk_frozen BK198.out 3; have hfz12_4 := blk_frozen BK198.out 4; have hfz12_5 := blk_frozen BK198.out 5; have hfz12_6 := blk_frozen BK198.out 6; have hfz12_7 := blk_frozen BK198.out 7; have hcz13_0 : w11.cell? ⟨gb196, 0, none⟩ = some (.string a0_0) := (blk_cell BK196.out 0).trans rfl; have hcz13_1 : w11.cell? ⟨gb196, 1, none⟩ = some (.int .i64 a0_1) := (blk_cell BK196.out 1).trans rfl; have hcz13_2 : w11.cell? ⟨gb196, 2, none⟩ = some (.string a0_2) := (blk_cell BK196.out 2).trans rfl; have hcz13_3 : w11.cell? ⟨gb196, 3, none⟩ = some (.int .i64 a0_3) := (blk_cell BK196.out 3).trans rfl; have hcz13_4 : w11.cell? ⟨gb196, 4, none⟩ = some (.int .i64 a0_4) := (blk_cell BK196.out 4).trans rfl; have hcz13_5 : w11.cell? ⟨gb196, 5, none⟩ = some (.int .i64 a0_5) := (blk_cell BK196.out 5).trans rfl; have hcz13_6 : w11.cell? ⟨gb196, 6, none⟩ = some (.int .i64 a0_6) := (blk_cell BK196.out 6).trans rfl; have hcz13_7 : w11.cell? ⟨gb196, 7, none⟩ = some (.int .i64 a0_7) := (blk_cell BK196.out 7).trans rfl; have hfz13_0 := blk_frozen BK196.out 0; have hfz13_1 := blk_frozen BK196.out 1; have hfz13_2 := blk_frozen BK196.out 2; have hfz13_3 := blk_frozen BK196.out 3; have hfz13_4 := blk_frozen BK196.out 4; have hfz13_5 := blk_frozen BK196.out 5; have hfz13_6 := blk_frozen BK196.out 6; have hfz13_7 := blk_frozen BK196.out 7; have hcz14_0 : w11.cell? ⟨gb197, 0, none⟩ = some (.string (⟨#[]⟩ : ByteArray)) := (blk_cell BK197.out 0).trans rfl; have hcz14_1 : w11.cell? ⟨gb197, 1, none⟩ = some (.int .i64 0) := (blk_cell BK197.out 1).trans rfl; have hcz14_2 : w11.cell? ⟨gb197, 2, none⟩ = some (.string (⟨#[]⟩ : ByteArray)) := (blk_cell BK197.out 2).trans rfl; have hcz14_3 : w11.cell? ⟨gb197, 3, none⟩ = some (.int .i64 0) := (blk_cell BK197.out 3).trans rfl; have hcz14_4 : w11.cell? ⟨gb197, 4, none⟩ = some (.int .i64 0) := (blk_cell BK197.out 4).trans rfl; have hcz14_5 : w11.cell? ⟨gb197, 5, none⟩ = some (.int .i64 0) := (blk_cell BK197.out 5).trans rfl; have hcz14_6 : w11.cell? ⟨gb197, 6, none⟩ = some (.int .i64 0) := (blk_cell BK197.out 6).trans rfl; have hcz14_7 : w11.cell? ⟨gb197, 7, none⟩ = some (.int .i64 0) := (blk_cell BK197.out 7).trans rfl; have hfz14_0 := blk_frozen BK197.out 0; have hfz14_1 := blk_frozen BK197.out 1; have hfz14_2 := blk_frozen BK197.out 2; have hfz14_3 := blk_frozen BK197.out 3; have hfz14_4 := blk_frozen BK197.out 4; have hfz14_5 := blk_frozen BK197.out 5; have hfz14_6 := blk_frozen BK197.out 6; have hfz14_7 := blk_frozen BK197.out 7))
  refine bodyPost_ret (results_cell_row rfl _ _ gb197 38 #[.string a0_0, .int .i64 a0_1, .string a0_2, .int .i64 t199, .int .i64 t200, .int .i64 a0_5, .int .i64 a0_6, .int .i64 a0_7] (0, 0) _ rfl (by (with_reducible repeat (first | refine blk_drewN ?_ _ | refine blk_drew ?_ | refine blk_alloc ?_ _)); refine blk_put (cs := #[.string a0_0, .int .i64 a0_1, .string a0_2, .int .i64 t199, .int .i64 t200, .int .i64 a0_5, .int .i64 a0_6, .int .i64 0]) ?_ 7 _ rfl; (with_reducible repeat (first | refine blk_drewN ?_ _ | refine blk_drew ?_ | refine blk_alloc ?_ _)); refine blk_put (cs := #[.string a0_0, .int .i64 a0_1, .string a0_2, .int .i64 t199, .int .i64 t200, .int .i64 a0_5, .int .i64 0, .int .i64 0]) ?_ 6 _ rfl; (with_reducible repeat (first | refine blk_drewN ?_ _ | refine blk_drew ?_ | refine blk_alloc ?_ _)); refine blk_put (cs := #[.string a0_0, .int .i64 a0_1, .string a0_2, .int .i64 t199, .int .i64 t200, .int .i64 0, .int .i64 0, .int .i64 0]) ?_ 5 _ rfl; (with_reducible repeat (first | refine blk_drewN ?_ _ | refine blk_drew ?_ | refine blk_alloc ?_ _)); refine blk_put (cs := #[.string a0_0, .int .i64 a0_1, .string a0_2, .int .i64 t199, .int .i64 0, .int .i64 0, .int .i64 0, .int .i64 0]) ?_ 4 _ rfl; (with_reducible repeat (first | refine blk_drewN ?_ _ | refine blk_drew ?_ | refine blk_alloc ?_ _)); refine blk_put (cs := #[.string a0_0, .int .i64 a0_1, .string a0_2, .int .i64 0, .int .i64 0, .int .i64 0, .int .i64 0, .int .i64 0]) ?_ 3 _ rfl; (with_reducible repeat (first | refine blk_drewN ?_ _ | refine blk_drew ?_ | refine blk_alloc ?_ _)); refine blk_put (cs := #[.string a0_0, .int .i64 a0_1, .string (⟨#[]⟩ : ByteArray), .int .i64 0, .int .i64 0, .int .i64 0, .int .i64 0, .int .i64 0]) ?_ 2 _ rfl; (with_reducible repeat (first | refine blk_drewN ?_ _ | refine blk_drew ?_ | refine blk_alloc ?_ _)); refine blk_put (cs := #[.string a0_0, .int .i64 0, .string (⟨#[]⟩ : ByteArray), .int .i64 0, .int .i64 0, .int .i64 0, .int .i64 0, .int .i64 0]) ?_ 1 _ rfl; (with_reducible repeat (first | refine blk_drewN ?_ _ | refine blk_drew ?_ | refine blk_alloc ?_ _)); refine blk_put (cs := #[.string (⟨#[]⟩ : ByteArray), .int .i64 0, .string (⟨#[]⟩ : ByteArray), .int .i64 0, .int .i64 0, .int .i64 0, .int .i64 0, .int .i64 0]) ?_ 0 _ rfl; (with_reducible repeat (first | refine blk_drewN ?_ _ | refine blk_drew ?_ | refine blk_alloc ?_ _)); refine blk_far ?_ NB197_198.out _; (with_reducible repeat (first | refine blk_drewN ?_ _ | refine blk_drew ?_ | refine blk_alloc ?_ _)); refine blk_far ?_ NB197_198.out _; (with_reducible repeat (first | refine blk_drewN ?_ _ | refine blk_drew ?_ | refine blk_alloc ?_ _)); refine blk_far ?_ NB197_198.out _; (with_reducible repeat (first | refine blk_drewN ?_ _ | refine blk_drew ?_ | refine blk_alloc ?_ _)); refine blk_far ?_ NB197_198.out _; (with_reducible repeat (first | refine blk_drewN ?_ _ | refine blk_drew ?_ | refine blk_alloc ?_ _)); refine blk_far ?_ NB197_198.out _; (with_reducible repeat (first | refine blk_drewN ?_ _ | refine blk_drew ?_ | refine blk_alloc ?_ _)); exact BK197.out) Tryd.underlying38 rfl (by kernel_rfl)) rfl ?_
  exact ⟨by first | rfl | (simp [errW_none, errW_some] <;> rfl) | (simp [*, errW_none, errW_some] <;> rfl), by repeat (first | (with_reducible first | exact HB.out | apply below_alloc | apply pw_below_drewN | apply below_drew1 | refine below_set ?_ GE196.out | refine below_set ?_ GE197.out | refine below_set ?_ GE198.out) | exact HB.out)⟩

end Go.Proofs.YthofcclbkihemaaDoor.MFnExactFormatDevice
