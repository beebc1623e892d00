-- Written by a program for this claim.
import Derived.Test.YtkedcokhcgklpaaMFnLinesx13
import Derived.Test.YtkedcokhcgklpaaMFnLinesx0
import Derived.Test.YtkedcokhcgklpaaMFnLinesx2
import Derived.Test.YtkedcokhcgklpaaMFnLinesx5
import Derived.Test.YtkedcokhcgklpaaMFnLinesx6
import Derived.Test.YtkedcokhcgklpaaMFnLinesx11
import Derived.Test.YtkedcokhcgklpaaMFnLinesx12
namespace Go.Proofs.Ytkedcokhcgklpaa.MFnLines
open Go.RowKit Go.Proofs.YtkedcokhcgklpaaW.PrintWords Go.Proofs.YtkedcokhcgklpaaW.PrintLast Go.Proofs.YtkedcokhcgklpaaW.PrintMore
attribute [local go_sem] max2_int min2_int max_two min_two max_three min_three max_four min_four   -- for this text's walks alone
set_option linter.unusedVariables false
set_option linter.unusedSimpArgs false
set_option linter.unnecessarySimpa false

/-! ### laws_FnLines: function 7 -/
mutual
def laws_FnLines.l0 : Nat → List (S30) → Int → Option (Bool)
 | 0, _, _ => none
 | k + 1, x3, x4 => if x4 < (x3.length : Int) then (if 0 ≤ x4 then ((impl_PumpOf.f k x3 ((rd_T30 x3 x4).f0)).bind fun t360 => ((impl_FindDevice.f k x3 t360).bind fun t361 => (if t361 < 0 then (laws_FnLines.j1 k x3 x4 true) else (if 0 ≤ t361 then (if t361 < (x3.length : Int) then (if ((rd_T30 x3 t361).f1) = 1 then (if ((rd_T30 x3 x4).f1) = 1 then (if t361 = x4 then (if ((rd_T30 x3 x4).f1) = 2 then (laws_FnLines.j1 k x3 x4 (((rd_T30 x3 t361).f0).toList != ((rd_T30 x3 x4).f2).toList)) else (laws_FnLines.j1 k x3 x4 false)) else (laws_FnLines.j1 k x3 x4 true)) else (if ((rd_T30 x3 x4).f1) = 2 then (laws_FnLines.j1 k x3 x4 (((rd_T30 x3 t361).f0).toList != ((rd_T30 x3 x4).f2).toList)) else (laws_FnLines.j1 k x3 x4 false))) else (laws_FnLines.j1 k x3 x4 true)) else (none)) else (none))))) else (none)) else (some true)
def laws_FnLines.j1 : Nat → List (S30) → Int → Bool → Option (Bool)
 | 0, _, _, _ => none
 | k + 1, x3, x4, x70 => if x70 = true then (some false) else (laws_FnLines.l1 k x3 x4 0)
def laws_FnLines.l1 : Nat → List (S30) → Int → Int → Option (Bool)
 | 0, _, _, _ => none
 | k + 1, x3, x4, x6 => if x6 < (x3.length : Int) then (if 0 ≤ x4 then (if x4 < (x3.length : Int) then (if 0 ≤ x6 then ((impl_SameLine.f k x3 ((rd_T30 x3 x4).f0) ((rd_T30 x3 x6).f0)).bind fun t372 => ((impl_SameLine.f k x3 ((rd_T30 x3 x6).f0) ((rd_T30 x3 x4).f0)).bind fun t375 => (if (t372 != t375) = true then (some false) else (if t372 = true then ((impl_PumpOf.f k x3 ((rd_T30 x3 x4).f0)).bind fun t377 => ((impl_PumpOf.f k x3 ((rd_T30 x3 x6).f0)).bind fun t379 => (if t377.toList = t379.toList then (if ((rd_T30 x3 x4).f2).toList = ([] : List UInt8) then (if (t372 != false) = true then (some false) else (laws_FnLines.l1 k x3 x4 (wrap64 (x6 + 1)))) else ((impl_OnLine.f k x3 ((rd_T30 x3 x4).f2)).bind fun t382 => ((laws_has.f k t382 ((rd_T30 x3 x6).f0)).bind fun t386 => (if (t372 != t386) = true then (some false) else (laws_FnLines.l1 k x3 x4 (wrap64 (x6 + 1))))))) else (some false)))) else (if ((rd_T30 x3 x4).f2).toList = ([] : List UInt8) then (if (t372 != false) = true then (some false) else (laws_FnLines.l1 k x3 x4 (wrap64 (x6 + 1)))) else ((impl_OnLine.f k x3 ((rd_T30 x3 x4).f2)).bind fun t389 => ((laws_has.f k t389 ((rd_T30 x3 x6).f0)).bind fun t393 => (if (t372 != t393) = true then (some false) else (laws_FnLines.l1 k x3 x4 (wrap64 (x6 + 1))))))))))) else (none)) else (none)) else (none)) else (laws_FnLines.l0 k x3 (wrap64 (x4 + 1)))
end
def laws_FnLines.f (k : Nat) (l0 : List Int) : Option (Bool) := (laws_big.f l0).bind fun t355 => (if t355 = true then (some true) else ((spec_DrawRig.f k l0).bind fun t356 => (laws_FnLines.l0 k t356 0)))
theorem laws_FnLines.mono_l : ∀ k, (∀ y0 y1, LeO (laws_FnLines.l0 k y0 y1) (laws_FnLines.l0 (k + 1) y0 y1)) ∧ (∀ y0 y1 y2, LeO (laws_FnLines.j1 k y0 y1 y2) (laws_FnLines.j1 (k + 1) y0 y1 y2)) ∧ (∀ y0 y1 y2, LeO (laws_FnLines.l1 k y0 y1 y2) (laws_FnLines.l1 (k + 1) y0 y1 y2))
 | 0 => ⟨fun _ _ r h => by simp [laws_FnLines.l0] at h, fun _ _ _ r h => by simp [laws_FnLines.j1] at h, fun _ _ _ r h => by simp [laws_FnLines.l1] at h⟩
 | k + 1 => by
  obtain ⟨ih0, ih1, ih2⟩ := laws_FnLines.mono_l k
  refine ⟨?_, ?_, ?_⟩
  ·intro y0 y1
   unfold laws_FnLines.l0
   repeat' first
   | (with_reducible exact ih0 _ _)
   | (with_reducible exact ih1 _ _ _)
   | (with_reducible exact ih2 _ _ _)
   | (with_reducible exact impl_FindDevice.mono _ _ _)
   | (with_reducible exact impl_OnLine.mono _ _ _)
   | (with_reducible exact impl_PumpOf.mono _ _ _)
   | (with_reducible exact impl_SameLine.mono _ _ _ _)
   | (with_reducible exact laws_has.mono _ _ _)
   | (with_reducible exact spec_DrawRig.mono _ _)
   | (with_reducible exact LeO.refl _)
   | (with_reducible exact LeO.none _)
   | (with_reducible refine LeO.ite ?_ ?_)
   | (with_reducible refine LeO.bind ?_ (fun _ => ?_))
  ·intro y0 y1 y2
   unfold laws_FnLines.j1
   repeat' first
   | (with_reducible exact ih0 _ _)
   | (with_reducible exact ih1 _ _ _)
   | (with_reducible exact ih2 _ _ _)
   | (with_reducible exact impl_FindDevice.mono _ _ _)
   | (with_reducible exact impl_OnLine.mono _ _ _)
   | (with_reducible exact impl_PumpOf.mono _ _ _)
   | (with_reducible exact impl_SameLine.mono _ _ _ _)
   | (with_reducible exact laws_has.mono _ _ _)
   | (with_reducible exact spec_DrawRig.mono _ _)
   | (with_reducible exact LeO.refl _)
   | (with_reducible exact LeO.none _)
   | (with_reducible refine LeO.ite ?_ ?_)
   | (with_reducible refine LeO.bind ?_ (fun _ => ?_))
  ·intro y0 y1 y2
   unfold laws_FnLines.l1
   repeat' first
   | (with_reducible exact ih0 _ _)
   | (with_reducible exact ih1 _ _ _)
   | (with_reducible exact ih2 _ _ _)
   | (with_reducible exact impl_FindDevice.mono _ _ _)
   | (with_reducible exact impl_OnLine.mono _ _ _)
   | (with_reducible exact impl_PumpOf.mono _ _ _)
   | (with_reducible exact impl_SameLine.mono _ _ _ _)
   | (with_reducible exact laws_has.mono _ _ _)
   | (with_reducible exact spec_DrawRig.mono _ _)
   | (with_reducible exact LeO.refl _)
   | (with_reducible exact LeO.none _)
   | (with_reducible refine LeO.ite ?_ ?_)
   | (with_reducible refine LeO.bind ?_ (fun _ => ?_))
theorem laws_FnLines.mono : ∀ a0 k, LeO (laws_FnLines.f k a0) (laws_FnLines.f (k + 1) a0) := by
 intro a0 k
 obtain ⟨ih0, ih1, ih2⟩ := laws_FnLines.mono_l k
 unfold laws_FnLines.f
 repeat' first
   | (with_reducible exact ih0 _ _)
   | (with_reducible exact ih1 _ _ _)
   | (with_reducible exact ih2 _ _ _)
   | (with_reducible exact impl_FindDevice.mono _ _ _)
   | (with_reducible exact impl_OnLine.mono _ _ _)
   | (with_reducible exact impl_PumpOf.mono _ _ _)
   | (with_reducible exact impl_SameLine.mono _ _ _ _)
   | (with_reducible exact laws_has.mono _ _ _)
   | (with_reducible exact spec_DrawRig.mono _ _)
   | (with_reducible exact LeO.refl _)
   | (with_reducible exact LeO.none _)
   | (with_reducible refine LeO.ite ?_ ?_)
   | (with_reducible refine LeO.bind ?_ (fun _ => ?_))
def laws_FnLines.T8 : Bool × List (List Nat × List Nat) := (true, [([], []), ([0], [0]), ([1], [1]), ([2], [2]), ([2], [2]), ([3, 4, 2], [2, 3, 4]), ([5, 2], [2, 5]), ([6, 2], [2, 6]), ([7, 2], [2, 7]), ([2, 8], [2, 8]), ([9, 2], [9]), ([10], [10]), ([10], [10]), ([11, 12, 10], [10, 11, 12]), ([13, 10], [10, 13]), ([14, 10], [10, 14]), ([15, 10], [10, 15]), ([16, 10, 10], [10, 16]), ([17], [17]), ([17], [17]), ([18, 19, 17], [17, 18, 19]), ([17, 20, 10], [10, 17, 20]), ([10, 21], [10, 21]), ([22, 17], [22]), ([23], [23]), ([23], [23]), ([24, 25, 23], [23, 24, 25]), ([26, 23], [23, 26]), ([27, 23], [23, 27]), ([28, 23], [23, 28]), ([29, 23, 23], [23, 29]), ([30], [30]), ([30], [30]), ([31, 32, 30], [30, 31, 32]), ([33, 30], [30, 33]), ([34, 30], [30, 34]), ([30], [30]), ([30], [30]), ([36, 37, 30], [30, 36, 37]), ([38, 30], [30, 38]), ([39, 30], [30, 39]), ([35, 40, 30], [30, 35, 40]), ([30, 41, 23], [23, 30, 41]), ([23, 42], [23, 42])])
def laws_FnLines.B8 : List Nat := [0, 1, 3, 7, 7, 31, 63, 127, 255, 511, 1023, 2047, 2047, 8191, 16383, 32767, 65535, 131071, 262143, 262143, 1048575, 2097151, 4194303, 8388607, 16777215, 16777215, 67108863, 134217727, 268435455, 536870911, 1073741823, 2147483647, 2147483647, 8589934591, 17179869183, 34359738367, 2147483647, 2147483647, 208305913855, 483183820799, 1032939634687, 2199023255551, 4398046511103, 8796093022207]
theorem laws_FnLines.tab8 : rtab .any (opsOf Try.f7 8) = laws_FnLines.T8 := by kernel_rfl
theorem laws_FnLines.bits8 : waitsOk laws_FnLines.T8.2 laws_FnLines.B8 = true := by kernel_rfl
def laws_FnLines.T13 : Bool × List (List Nat × List Nat) := (true, [([], []), ([], []), ([], []), ([1, 2], [1, 2]), ([3], [3]), ([4], [4]), ([], []), ([], []), ([6, 7], [6, 7]), ([8], [8]), ([9], [9]), ([0, 5, 10], [0, 5, 10]), ([11, 11, 0, 1, 2, 3, 4, 5, 6, 7, 8, 9, 10, 11], [11])])
def laws_FnLines.B13 : List Nat := [0, 0, 0, 6, 14, 30, 0, 0, 192, 448, 960, 2047, 4095]
theorem laws_FnLines.tab13 : rtab .any (opsOf Try.f7 13) = laws_FnLines.T13 := by kernel_rfl
theorem laws_FnLines.bits13 : waitsOk laws_FnLines.T13.2 laws_FnLines.B13 = true := by kernel_rfl
def laws_FnLines.T14 : Bool × List (List Nat × List Nat) := (true, [([], []), ([], []), ([], []), ([], []), ([2, 3], [2, 3]), ([4], [4]), ([5], [5]), ([], []), ([], []), ([7, 8], [7, 8]), ([9], [9]), ([10], [10]), ([1, 6, 11], [1, 6, 11]), ([0, 12], [0, 12]), ([13, 12], [13]), ([14], [14]), ([15, 14, 14], [14, 15]), ([16], [16]), ([16], [16]), ([16], [16]), ([18, 19, 16], [16, 18, 19]), ([20, 16], [16, 20]), ([21, 16], [16, 21]), ([17, 22, 16, 16], [16, 17, 22]), ([16], [16]), ([16], [16]), ([16], [16]), ([25, 26, 16], [16, 25, 26]), ([27, 16], [16, 27]), ([28, 16], [16, 28]), ([24, 29, 23, 16], [16, 24, 29]), ([23, 30, 16], [16, 23, 30]), ([16, 31, 14], [14, 16, 31]), ([14, 32], [14, 32]), ([33, 30], [33]), ([34], [34]), ([34], [34]), ([34], [34]), ([36, 37, 34], [34, 36, 37]), ([38, 34], [34, 38]), ([39, 34], [34, 39]), ([40, 34], [34, 40]), ([41, 34, 34], [34, 41]), ([42], [42]), ([42], [42]), ([42], [42]), ([44, 45, 42], [42, 44, 45]), ([46, 42], [42, 46]), ([47, 42], [42, 47]), ([43, 48, 42, 42], [42, 43, 48]), ([42], [42]), ([42], [42]), ([50, 51, 42], [42, 50, 51]), ([52, 42], [42, 52]), ([53, 42], [42, 53]), ([49, 54, 49, 42], [42, 49, 54]), ([42, 55, 34], [34, 42, 55]), ([35, 56, 34], [34, 35, 56]), ([34, 57], [34, 57])])
def laws_FnLines.B14 : List Nat := [0, 0, 0, 0, 12, 28, 60, 0, 0, 384, 896, 1920, 4094, 8191, 16383, 32767, 65535, 131071, 131071, 131071, 917503, 1966079, 4063231, 8388607, 131071, 131071, 131071, 100794367, 235012095, 503447551, 1073741823, 2147483647, 4294967295, 8589934591, 17179869183, 34359738367, 34359738367, 34359738367, 240518168575, 515396075519, 1065151889407, 2164663517183, 4363686772735, 8761733283839, 8761733283839, 8761733283839, 61538291417087, 131907035594751, 272644523950079, 562915593682943, 8761733283839, 8761733283839, 3386461453811711, 7890061081182207, 16897260335923199, 36028762659225599, 72057559678189567, 144115188075855871, 288230376151711743]
theorem laws_FnLines.tab14 : rtab .any (opsOf Try.f7 14) = laws_FnLines.T14 := by kernel_rfl
theorem laws_FnLines.bits14 : waitsOk laws_FnLines.T14.2 laws_FnLines.B14 = true := by kernel_rfl
set_option maxHeartbeats 8000000 in
set_option maxRecDepth 100000 in
theorem laws_FnLines.calls (k : Nat) (A0 : Option Addr) (c0 : Nat) (l0 : List Int) (r : Bool) (w : World) (hr0 : Kd.C (Kd.int .u8) w A0 l0.length l0) (hc0 : l0.length ≤ c0) (h : laws_FnLines.f k l0 = some r) :
  Calls Try.prog 7 #[.slice A0 l0.length c0] w fun e w' => e = .returned (.bool r) ∧ Below w.heap.size w w' := by
 have HR0 := am hr0
 have HC0 := am hc0
 clear hr0 hc0
 have HB := am (Below.refl w.heap.size w)
 have H : ((laws_big.f l0).bind fun t355 => (if t355 = true then (some true) else ((spec_DrawRig.f k l0).bind fun t356 => (laws_FnLines.l0 k t356 0)))) = some r := h
 clear h
 replace H := Option.bind_eq_some_iff.mp H
 obtain ⟨t355, A20, H⟩ := H
 replace H : (if t355 = true then (some true) else ((spec_DrawRig.f k l0).bind fun t356 => (laws_FnLines.l0 k t356 0))) = some r := H
 have A2 := am A20
 clear A20
 by_cases c3 : t355 = true
 ·subst c3
  have H1 : (some true) = some r := by rw [if_pos rfl] at H; exact H
  clear H
  have H := H1
  clear H1
  obtain rfl := Option.some.inj H
  go_enter Try.func7, Try.ntmps7
  go_wp2_with (first | ((with_reducible refine gate_callee (f := 28) rfl ?_); refine goesL_ (some 9) rfl rfl Try.func28 (by kernel_rfl) rfl #[.slice A0 l0.length c0] rfl u13_2 ?_; (with_reducible refine (laws_big.calls _ _ l0 true _ ?side1 ?side2 A2.out).mono ?_); (case side1 => exact y13_1); (case side2 => exact HC0.out); rintro e w' ⟨rfl, ⟨nd, rfl⟩⟩; refine ⟨_, rfl, ?_⟩))
  go_ret
  exact ⟨by first | rfl | (simp [*] <;> rfl), s13_2⟩
 ·replace c3 := Bool.eq_false_iff.mpr c3
  subst c3
  have H1 : ((spec_DrawRig.f k l0).bind fun t356 => (laws_FnLines.l0 k t356 0)) = some r := by rw [if_neg (show ¬ (false = true) by decide)] at H; exact H
  clear H
  have H := H1
  clear H1
  replace H := Option.bind_eq_some_iff.mp H
  obtain ⟨t356, A40, H⟩ := H
  replace H : (laws_FnLines.l0 k t356 0) = some r := H
  have A4 := am A40
  clear A40
  have H' := am H
  clear H
  go_enter Try.func7, Try.ntmps7
  go_wp2_with (first | ((with_reducible refine gate_callee (f := 28) rfl ?_); refine goesL_ (some 9) rfl rfl Try.func28 (by kernel_rfl) rfl #[.slice A0 l0.length c0] rfl u13_2 ?_; (with_reducible refine (laws_big.calls _ _ l0 false _ ?side1 ?side2 A2.out).mono ?_); (case side1 => exact y13_1); (case side2 => exact HC0.out); rintro e w' ⟨rfl, ⟨nd, rfl⟩⟩; refine ⟨_, rfl, ?_⟩) | ((with_reducible refine gate_callee (f := 29) rfl ?_); refine goesL_ (some 11) rfl rfl Try.func29 (by kernel_rfl) rfl #[.slice A0 l0.length c0] rfl u13_2 ?_; (with_reducible refine (spec_DrawRig.calls k _ _ l0 t356 _ ?side1 ?side2 A4.out).mono ?_); (case side1 => exact y13_1); (case side2 => exact HC0.out); rintro e w5 ⟨v357, rfl, ho0, hb⟩; refine ⟨_, rfl, ?_⟩; have n0_ := am (Kd.R_lower ho0 (below_size u13_0)); have n1_ := am (below_step u13_0 hb); clear HB; have HO358 := n0_; have HB := n1_; clear n0_ n1_; (try clear hb); (try clear hb2); (try clear hk); (try clear hi); (try clear ho0)))
  go_loopg [4] k (fun kq v4 w' => ∃ (x4_1 : Int), v4 = .int .i64 x4_1 ∧ Aside0 (laws_FnLines.l0 kq t356 x4_1 = some r) ∧ Aside0 (kq ≤ k) ∧ Aside0 (Kd.R k30 30 w' w.heap.size (fun _ => True) v357 t356) ∧ Aside0 (Below w.heap.size w w'))
  case atStart => exact ⟨(0), u13_4, H', ⟨Nat.le_refl _⟩, ⟨by (with_reducible repeat (first | apply Kd.R_alloc | apply Kd.R_drewN | apply Kd.R_drew)); exact HO358.out⟩, ⟨s13_2⟩⟩
  case round =>
   clear H'
   try clear c2
   try clear p2
   try clear c3
   obtain ⟨x4_1, rfl, HA, HK1, HO_3, HB⟩ := hrel
   cases gk with
   | zero => exact absurd HA.out (by simp [laws_FnLines.l0])
   | succ k1 =>
    have H := HA.out
    clear HA
    simp only [laws_FnLines.l0] at H
    by_cases c6 : x4_1 < (t356.length : Int)
    ·rw [if_pos c6] at H
     have c6b0 : decide (x4_1 < (t356.length : Int)) = true := decide_eq_true c6
     clear c6
     by_cases c7 : 0 ≤ x4_1
     ·rw [if_pos c7] at H
      have c7b0 : decide (0 ≤ x4_1) = true := decide_eq_true c7
      clear c7
      replace H := Option.bind_eq_some_iff.mp H
      obtain ⟨t360, A80, H⟩ := H
      replace H : ((impl_FindDevice.f k1 t356 t360).bind fun t361 => (if t361 < 0 then (laws_FnLines.j1 k1 t356 x4_1 true) else (if 0 ≤ t361 then (if t361 < (t356.length : Int) then (if ((rd_T30 t356 t361).f1) = 1 then (if ((rd_T30 t356 x4_1).f1) = 1 then (if t361 = x4_1 then (if ((rd_T30 t356 x4_1).f1) = 2 then (laws_FnLines.j1 k1 t356 x4_1 (((rd_T30 t356 t361).f0).toList != ((rd_T30 t356 x4_1).f2).toList)) else (laws_FnLines.j1 k1 t356 x4_1 false)) else (laws_FnLines.j1 k1 t356 x4_1 true)) else (if ((rd_T30 t356 x4_1).f1) = 2 then (laws_FnLines.j1 k1 t356 x4_1 (((rd_T30 t356 t361).f0).toList != ((rd_T30 t356 x4_1).f2).toList)) else (laws_FnLines.j1 k1 t356 x4_1 false))) else (laws_FnLines.j1 k1 t356 x4_1 true)) else (none)) else (none)))) = some r := H
      have A8 := am A80
      clear A80
      replace H := Option.bind_eq_some_iff.mp H
      obtain ⟨t361, A90, H⟩ := H
      replace H : (if t361 < 0 then (laws_FnLines.j1 k1 t356 x4_1 true) else (if 0 ≤ t361 then (if t361 < (t356.length : Int) then (if ((rd_T30 t356 t361).f1) = 1 then (if ((rd_T30 t356 x4_1).f1) = 1 then (if t361 = x4_1 then (if ((rd_T30 t356 x4_1).f1) = 2 then (laws_FnLines.j1 k1 t356 x4_1 (((rd_T30 t356 t361).f0).toList != ((rd_T30 t356 x4_1).f2).toList)) else (laws_FnLines.j1 k1 t356 x4_1 false)) else (laws_FnLines.j1 k1 t356 x4_1 true)) else (if ((rd_T30 t356 x4_1).f1) = 2 then (laws_FnLines.j1 k1 t356 x4_1 (((rd_T30 t356 t361).f0).toList != ((rd_T30 t356 x4_1).f2).toList)) else (laws_FnLines.j1 k1 t356 x4_1 false))) else (laws_FnLines.j1 k1 t356 x4_1 true)) else (none)) else (none))) = some r := H
      have A9 := am A90
      clear A90
      have HC10 := am H
      clear H
      obtain ⟨Ao11, co11, eo11⟩ := Kd.R_slice HO_3.out
      subst eo11
      have p359 : 0 ≤ (x4_1 : Int) := od u13_3
      have q359 : x4_1 < (t356.length : Int) := od u13_3
      obtain ⟨ad359, e359, hx359_0, hx359_1, hx359_2, hx359_3, hx359_4, hx359_5, hx359_6, hx359_7⟩ := at_T30 (Kd.R_reads' HO_3.out).2.2 x4_1 p359 q359
      cases e359
      replace p359 := eq_true p359
      replace q359 := eq_true q359
      go_upto_region 8 with (first | ((with_reducible refine gate_callee (f := 30) rfl ?_); refine goesL_ (some 25) rfl rfl Try.func30 (by kernel_rfl) rfl #[.slice (some ad359) t356.length co11, .string ((rd_T30 t356 x4_1).f0)] rfl u13_2 ?_; (with_reducible refine (impl_PumpOf.calls k1 _ _ t356 ((rd_T30 t356 x4_1).f0) t360 _ ?side1 ?side2 A8.out).mono ?_); (case side1 => exact y13_0); (case side2 => exact (Kd.R_reads' HO_3.out).2.1); rintro e w12 ⟨rfl, hb⟩; refine ⟨_, rfl, ?_⟩; have n0_ := am (Kd.R_below u13_1 hb); have n1_ := am (below_step u13_0 hb); clear HO_3 HB; have HO_3 := n0_; have HB := n1_; clear n0_ n1_; (try clear hb); (try clear hb2); (try clear hk); (try clear hi)) | ((with_reducible refine gate_callee (f := 22) rfl ?_); refine goesL_ (some 26) rfl rfl Try.func22 (by kernel_rfl) rfl #[.slice (some ad359) t356.length co11, .string t360] rfl u13_2 ?_; (with_reducible refine (impl_FindDevice.calls k1 _ _ t356 t360 t361 _ ?side1 ?side2 A9.out).mono ?_); (case side1 => exact y13_0); (case side2 => exact (Kd.R_reads' HO_3.out).2.1); rintro e w13 ⟨rfl, hb⟩; refine ⟨_, rfl, ?_⟩; have n0_ := am (Kd.R_below u13_1 hb); have n1_ := am (below_step u13_0 hb); clear HO_3 HB; have HO_3 := n0_; have HB := n1_; clear n0_ n1_; (try clear hb); (try clear hb2); (try clear hk); (try clear hi)))
      (try simp only [Act.put, List.setIfInBounds_toArray, List.set_cons_zero, List.set_cons_succ])
      go_cut [70] (fun v70 wc => ∃ (kq : Nat) (x70_9 : Bool), v70 = .bool x70_9 ∧ Aside0 (laws_FnLines.j1 kq t356 x4_1 x70_9 = some r) ∧ Aside0 (kq ≤ k1) ∧ Aside0 (Kd.R k30 30 wc w.heap.size (fun _ => True) (.slice (some ad359) t356.length co11) t356) ∧ Aside0 (Below w.heap.size w wc))
      case first =>
       have H := HC10.out
       clear HC10
       by_cases c14 : t361 < 0
       ·rw [if_pos c14] at H
        have c14b0 : decide (t361 < 0) = true := decide_eq_true c14
        clear c14
        (first | rw [c14b0] | (simp only [i64_w, i32_w]; rw [c14b0]) | skip)
        have H' := am H
        clear H
        try go_wp2
        have n0_ := am (Kd.R_drew HO_3.out)
        have n1_ := am (below_drew1 HB.out)
        clear HO_3 HB
        have HO_3 := n0_
        have HB := n1_
        clear n0_ n1_
        refine start_ (n := 44) (S := fun w' => True) (ds := []) mk13_1 (by kernel_rfl) rfl rfl trivial (fun hHeld => ?_); refine with_tabW laws_FnLines.tab8 laws_FnLines.bits8 (fun HT_ HW_ => ?_)
        generalize w13.drew = w15 at HO_3 HB hHeld ⊢
        refine pz 0 27 mk13_4 (any_of HT_.out (by kernel_rfl)) ?_
        refine pz 1 28 mk13_7 (any_of HT_.out (by kernel_rfl)) ?_
        refine pz 2 29 mk13_10 (any_of HT_.out (by kernel_rfl)) ?_
        refine pure_ (i := 3) (N := some 30) (v := undef) (a' := ?_) mk13_13 rfl rfl (any_of HT_.out (by kernel_rfl)) (fun _ _ _ h => h) (Or.inr ⟨by rfl, rfl⟩) ?_ ?_
        rotate_left
        ·exact ap
        refine pure_ (i := 4) (N := some 31) (v := undef) (a' := ?_) mk13_16 rfl rfl (any_of HT_.out (by kernel_rfl)) (fun _ _ _ h => h) (Or.inr ⟨by rfl, rfl⟩) ?_ ?_
        rotate_left
        ·exact ap
        refine pure_ (i := 5) (N := some 32) (v := undef) (a' := ?_) mk13_23 rfl rfl (any_of HT_.out (by kernel_rfl)) (fun _ _ _ h => h) (Or.inr ⟨by rfl, rfl⟩) ?_ ?_
        rotate_left
        ·exact ap
        refine pure_ (i := 6) (N := some 33) (v := undef) (a' := ?_) mk13_28 rfl rfl (any_of HT_.out (by kernel_rfl)) (fun _ _ _ h => h) (Or.inr ⟨by rfl, rfl⟩) ?_ ?_
        rotate_left
        ·exact ap
        refine pure_ (i := 7) (N := some 34) (v := undef) (a' := ?_) mk13_29 rfl rfl (any_of HT_.out (by kernel_rfl)) (fun _ _ _ h => h) (Or.inr ⟨by rfl, rfl⟩) ?_ ?_
        rotate_left
        ·exact ap
        refine pure_ (i := 8) (N := some 35) (v := undef) (a' := ?_) mk13_30 rfl rfl (any_of HT_.out (by kernel_rfl)) (fun _ _ _ h => h) (Or.inr ⟨by rfl, rfl⟩) ?_ ?_
        rotate_left
        ·exact ap
        refine pz 9 36 mk13_31 (any_of HT_.out (by kernel_rfl)) ?_
        refine pz 10 37 mk13_34 (any_of HT_.out (by kernel_rfl)) ?_
        refine pure_ (i := 11) (N := some 38) (v := undef) (a' := ?_) mk13_37 rfl rfl (any_of HT_.out (by kernel_rfl)) (fun _ _ _ h => h) (Or.inr ⟨by rfl, rfl⟩) ?_ ?_
        rotate_left
        ·exact ap
        refine pure_ (i := 12) (N := some 39) (v := undef) (a' := ?_) mk13_40 rfl rfl (any_of HT_.out (by kernel_rfl)) (fun _ _ _ h => h) (Or.inr ⟨by rfl, rfl⟩) ?_ ?_
        rotate_left
        ·exact ap
        refine pure_ (i := 13) (N := some 40) (v := undef) (a' := ?_) mk13_42 rfl rfl (any_of HT_.out (by kernel_rfl)) (fun _ _ _ h => h) (Or.inr ⟨by rfl, rfl⟩) ?_ ?_
        rotate_left
        ·exact ap
        refine pure_ (i := 14) (N := some 41) (v := undef) (a' := ?_) mk13_44 rfl rfl (any_of HT_.out (by kernel_rfl)) (fun _ _ _ h => h) (Or.inr ⟨by rfl, rfl⟩) ?_ ?_
        rotate_left
        ·exact ap
        refine pure_ (i := 15) (N := some 42) (v := undef) (a' := ?_) mk13_46 rfl rfl (any_of HT_.out (by kernel_rfl)) (fun _ _ _ h => h) (Or.inr ⟨by rfl, rfl⟩) ?_ ?_
        rotate_left
        ·exact ap
        refine pure_ (i := 16) (N := some 43) (v := undef) (a' := ?_) mk13_48 rfl rfl (any_of HT_.out (by kernel_rfl)) (fun _ _ _ h => h) (Or.inr ⟨by rfl, rfl⟩) ?_ ?_
        rotate_left
        ·exact ap
        refine pure_ (i := 17) (N := some 44) (v := undef) (a' := ?_) mk13_50 rfl rfl (any_of HT_.out (by kernel_rfl)) (fun _ _ _ h => h) (Or.inr ⟨by rfl, rfl⟩) ?_ ?_
        rotate_left
        ·exact ap
        refine pure_ (i := 18) (N := some 45) (v := undef) (a' := ?_) mk13_52 rfl rfl (any_of HT_.out (by kernel_rfl)) (fun _ _ _ h => h) (Or.inr ⟨by rfl, rfl⟩) ?_ ?_
        rotate_left
        ·exact ap
        refine pure_ (i := 19) (N := some 46) (v := undef) (a' := ?_) mk13_54 rfl rfl (any_of HT_.out (by kernel_rfl)) (fun _ _ _ h => h) (Or.inr ⟨by rfl, rfl⟩) ?_ ?_
        rotate_left
        ·exact ap
        refine pure_ (i := 20) (N := some 47) (v := undef) (a' := ?_) mk13_56 rfl rfl (any_of HT_.out (by kernel_rfl)) (fun _ _ _ h => h) (Or.inr ⟨by rfl, rfl⟩) ?_ ?_
        rotate_left
        ·exact ap
        refine pure_ (i := 21) (N := some 48) (v := undef) (a' := ?_) mk13_58 rfl rfl (any_of HT_.out (by kernel_rfl)) (fun _ _ _ h => h) (Or.inr ⟨by rfl, rfl⟩) ?_ ?_
        rotate_left
        ·exact ap
        refine pz 22 49 mk13_65 (any_of HT_.out (by kernel_rfl)) ?_
        refine pz 23 50 mk13_69 (any_of HT_.out (by kernel_rfl)) ?_
        refine pure_ (i := 24) (N := some 51) (v := undef) (a' := ?_) mk13_71 rfl rfl (any_of HT_.out (by kernel_rfl)) (fun _ _ _ h => h) (Or.inr ⟨by rfl, rfl⟩) ?_ ?_
        rotate_left
        ·exact ap
        refine pure_ (i := 25) (N := some 52) (v := undef) (a' := ?_) mk13_73 rfl rfl (any_of HT_.out (by kernel_rfl)) (fun _ _ _ h => h) (Or.inr ⟨by rfl, rfl⟩) ?_ ?_
        rotate_left
        ·exact ap
        refine pure_ (i := 26) (N := some 53) (v := undef) (a' := ?_) mk13_75 rfl rfl (any_of HT_.out (by kernel_rfl)) (fun _ _ _ h => h) (Or.inr ⟨by rfl, rfl⟩) ?_ ?_
        rotate_left
        ·exact ap
        refine pure_ (i := 27) (N := some 54) (v := undef) (a' := ?_) mk13_77 rfl rfl (any_of HT_.out (by kernel_rfl)) (fun _ _ _ h => h) (Or.inr ⟨by rfl, rfl⟩) ?_ ?_
        rotate_left
        ·exact ap
        refine pure_ (i := 28) (N := some 55) (v := undef) (a' := ?_) mk13_79 rfl rfl (any_of HT_.out (by kernel_rfl)) (fun _ _ _ h => h) (Or.inr ⟨by rfl, rfl⟩) ?_ ?_
        rotate_left
        ·exact ap
        refine pure_ (i := 29) (N := some 56) (v := undef) (a' := ?_) mk13_81 rfl rfl (any_of HT_.out (by kernel_rfl)) (fun _ _ _ h => h) (Or.inr ⟨by rfl, rfl⟩) ?_ ?_
        rotate_left
        ·exact ap
        refine pure_ (i := 30) (N := some 57) (v := undef) (a' := ?_) mk13_83 rfl rfl (any_of HT_.out (by kernel_rfl)) (fun _ _ _ h => h) (Or.inr ⟨by rfl, rfl⟩) ?_ ?_
        rotate_left
        ·exact ap
        refine pure_ (i := 31) (N := some 58) (v := undef) (a' := ?_) mk13_85 rfl rfl (any_of HT_.out (by kernel_rfl)) (fun _ _ _ h => h) (Or.inr ⟨by rfl, rfl⟩) ?_ ?_
        rotate_left
        ·exact ap
        refine pure_ (i := 32) (N := some 59) (v := undef) (a' := ?_) mk13_87 rfl rfl (any_of HT_.out (by kernel_rfl)) (fun _ _ _ h => h) (Or.inr ⟨by rfl, rfl⟩) ?_ ?_
        rotate_left
        ·exact ap
        refine pure_ (i := 33) (N := some 60) (v := undef) (a' := ?_) mk13_89 rfl rfl (any_of HT_.out (by kernel_rfl)) (fun _ _ _ h => h) (Or.inr ⟨by rfl, rfl⟩) ?_ ?_
        rotate_left
        ·exact ap
        refine pure_ (i := 34) (N := some 61) (v := undef) (a' := ?_) mk13_91 rfl rfl (any_of HT_.out (by kernel_rfl)) (fun _ _ _ h => h) (Or.inr ⟨by rfl, rfl⟩) ?_ ?_
        rotate_left
        ·exact ap
        refine pure_ (i := 35) (N := some 62) (v := undef) (a' := ?_) mk13_97 rfl rfl (any_of HT_.out (by kernel_rfl)) (fun _ _ _ h => h) (Or.inr ⟨by rfl, rfl⟩) ?_ ?_
        rotate_left
        ·exact ap
        refine pure_ (i := 36) (N := some 63) (v := undef) (a' := ?_) mk13_99 rfl rfl (any_of HT_.out (by kernel_rfl)) (fun _ _ _ h => h) (Or.inr ⟨by rfl, rfl⟩) ?_ ?_
        rotate_left
        ·exact ap
        refine pure_ (i := 37) (N := some 64) (v := undef) (a' := ?_) mk13_101 rfl rfl (any_of HT_.out (by kernel_rfl)) (fun _ _ _ h => h) (Or.inr ⟨by rfl, rfl⟩) ?_ ?_
        rotate_left
        ·exact ap
        refine pure_ (i := 38) (N := some 65) (v := undef) (a' := ?_) mk13_103 rfl rfl (any_of HT_.out (by kernel_rfl)) (fun _ _ _ h => h) (Or.inr ⟨by rfl, rfl⟩) ?_ ?_
        rotate_left
        ·exact ap
        refine pure_ (i := 39) (N := some 66) (v := undef) (a' := ?_) mk13_105 rfl rfl (any_of HT_.out (by kernel_rfl)) (fun _ _ _ h => h) (Or.inr ⟨by rfl, rfl⟩) ?_ ?_
        rotate_left
        ·exact ap
        refine pure_ (i := 40) (N := some 67) (v := undef) (a' := ?_) mk13_107 rfl rfl (any_of HT_.out (by kernel_rfl)) (fun _ _ _ h => h) (Or.inr ⟨by rfl, rfl⟩) ?_ ?_
        rotate_left
        ·exact ap
        refine pure_ (i := 41) (N := some 68) (v := undef) (a' := ?_) mk13_109 rfl rfl (any_of HT_.out (by kernel_rfl)) (fun _ _ _ h => h) (Or.inr ⟨by rfl, rfl⟩) ?_ ?_
        rotate_left
        ·exact ap
        refine pure_ (i := 42) (N := some 69) (v := undef) (a' := ?_) mk13_111 rfl rfl (any_of HT_.out (by kernel_rfl)) (fun _ _ _ h => h) (Or.inr ⟨by rfl, rfl⟩) ?_ ?_
        rotate_left
        ·exact ap
        refine pz 43 70 mk13_134 (any_of HT_.out (by kernel_rfl)) ?_
        refine done_ (done_of HT_.out (by kernel_rfl)) ?_
        try go_wp2
        go_meet
        case rel => exact ⟨_, (true), u13_4, H', ⟨by have := HK1.out; first | omega | exact Nat.le_refl _⟩, ⟨by (with_reducible repeat (first | apply Kd.R_alloc | apply Kd.R_drewN | apply Kd.R_drew)); exact HO_3.out⟩, ⟨s13_2⟩⟩
       ·rw [if_neg c14] at H
        have c14b0 : decide (t361 < 0) = false := decide_eq_false c14
        clear c14
        (first | rw [c14b0] | (simp only [i64_w, i32_w]; rw [c14b0]) | skip)
        by_cases c16 : 0 ≤ t361
        ·rw [if_pos c16] at H
         have c16b0 : decide (0 ≤ t361) = true := decide_eq_true c16
         clear c16
         by_cases c17 : t361 < (t356.length : Int)
         ·rw [if_pos c17] at H
          have c17b0 : decide (t361 < (t356.length : Int)) = true := decide_eq_true c17
          clear c17
          by_cases c18 : ((rd_T30 t356 t361).f1) = 1
          ·rw [if_pos c18] at H
           have c18b0 : (((rd_T30 t356 t361).f1) == 1) = true := beq_iff_eq.mpr c18
           have c18b1 : (((rd_T30 t356 t361).f1) != 1) = false := bne_eq_false_iff_eq.mpr c18
           clear c18
           by_cases c19 : ((rd_T30 t356 x4_1).f1) = 1
           ·rw [if_pos c19] at H
            have c19b0 : (((rd_T30 t356 x4_1).f1) == 1) = true := beq_iff_eq.mpr c19
            have c19b1 : (((rd_T30 t356 x4_1).f1) != 1) = false := bne_eq_false_iff_eq.mpr c19
            clear c19
            by_cases c20 : t361 = x4_1
            ·rw [if_pos c20] at H
             have c20b0 : (t361 == x4_1) = true := beq_iff_eq.mpr c20
             have c20b1 : (t361 != x4_1) = false := bne_eq_false_iff_eq.mpr c20
             clear c20
             by_cases c21 : ((rd_T30 t356 x4_1).f1) = 2
             ·rw [if_pos c21] at H
              have c21b0 : (((rd_T30 t356 x4_1).f1) == 2) = true := beq_iff_eq.mpr c21
              have c21b1 : (((rd_T30 t356 x4_1).f1) != 2) = false := bne_eq_false_iff_eq.mpr c21
              clear c21
              have H' := am H
              clear H
              try go_wp2
              have n0_ := am (Kd.R_drew HO_3.out)
              have n1_ := am (below_drew1 HB.out)
              clear HO_3 HB
              have HO_3 := n0_
              have HB := n1_
              clear n0_ n1_
              have p362 : 0 ≤ (t361 : Int) := od u13_3
              have q362 : t361 < (t356.length : Int) := od u13_3
              obtain ⟨ad362, e362, hx362_0, hx362_1, hx362_2, hx362_3, hx362_4, hx362_5, hx362_6, hx362_7⟩ := at_T30 (Kd.R_reads' HO_3.out).2.2 t361 p362 q362
              obtain rfl : ad359 = ad362 := (by injection e362)
              replace p362 := eq_true p362
              replace q362 := eq_true q362
              have p363 : 0 ≤ (x4_1 : Int) := od u13_3
              have q363 : x4_1 < (t356.length : Int) := od u13_3
              obtain ⟨ad363, e363, hx363_0, hx363_1, hx363_2, hx363_3, hx363_4, hx363_5, hx363_6, hx363_7⟩ := at_T30 (Kd.R_reads' HO_3.out).2.2 x4_1 p363 q363
              obtain rfl : ad359 = ad363 := (by injection e363)
              replace p363 := eq_true p363
              replace q363 := eq_true q363
              have p364 : 0 ≤ (x4_1 : Int) := od u13_3
              have q364 : x4_1 < (t356.length : Int) := od u13_3
              obtain ⟨ad364, e364, hx364_0, hx364_1, hx364_2, hx364_3, hx364_4, hx364_5, hx364_6, hx364_7⟩ := at_T30 (Kd.R_reads' HO_3.out).2.2 x4_1 p364 q364
              obtain rfl : ad359 = ad364 := (by injection e364)
              replace p364 := eq_true p364
              replace q364 := eq_true q364
              have p365 : 0 ≤ (t361 : Int) := od u13_3
              have q365 : t361 < (t356.length : Int) := od u13_3
              obtain ⟨ad365, e365, hx365_0, hx365_1, hx365_2, hx365_3, hx365_4, hx365_5, hx365_6, hx365_7⟩ := at_T30 (Kd.R_reads' HO_3.out).2.2 t361 p365 q365
              obtain rfl : ad359 = ad365 := (by injection e365)
              replace p365 := eq_true p365
              replace q365 := eq_true q365
              have p366 : 0 ≤ (x4_1 : Int) := od u13_3
              have q366 : x4_1 < (t356.length : Int) := od u13_3
              obtain ⟨ad366, e366, hx366_0, hx366_1, hx366_2, hx366_3, hx366_4, hx366_5, hx366_6, hx366_7⟩ := at_T30 (Kd.R_reads' HO_3.out).2.2 x4_1 p366 q366
              obtain rfl : ad359 = ad366 := (by injection e366)
              replace p366 := eq_true p366
              replace q366 := eq_true q366
              refine start_ (n := 44) (S := fun w' => zc6 w' (ad359.add ((t361).toNat * 8)) (rd_T30 t356 t361) (zc6 w' (ad359.add ((x4_1).toNat * 8)) (rd_T30 t356 x4_1) (zc6 w' (ad359.add ((x4_1).toNat * 8)) (rd_T30 t356 x4_1) (zc6 w' (ad359.add ((t361).toNat * 8)) (rd_T30 t356 t361) (zc2 w' (ad359.add ((x4_1).toNat * 8)) (rd_T30 t356 x4_1)))))) (ds := []) mk13_1 (by kernel_rfl) rfl rfl ⟨hx362_0, hx362_1, hx362_2, hx362_3, hx362_4, hx362_5, hx362_6, hx362_7, hx363_0, hx363_1, hx363_2, hx363_3, hx363_4, hx363_5, hx363_6, hx363_7, hx364_0, hx364_1, hx364_2, hx364_3, hx364_4, hx364_5, hx364_6, hx364_7, hx365_0, hx365_1, hx365_2, hx365_3, hx365_4, hx365_5, hx365_6, hx365_7, hx366_0, hx366_1, hx366_2, hx366_3, hx366_4, hx366_5, hx366_6, hx366_7⟩ (fun hHeld => ?_); refine with_tabW laws_FnLines.tab8 laws_FnLines.bits8 (fun HT_ HW_ => ?_)
              generalize w13.drew = w22 at HO_3 HB hx362_0 hx362_1 hx362_2 hx362_3 hx362_4 hx362_5 hx362_6 hx362_7 hx363_0 hx363_1 hx363_2 hx363_3 hx363_4 hx363_5 hx363_6 hx363_7 hx364_0 hx364_1 hx364_2 hx364_3 hx364_4 hx364_5 hx364_6 hx364_7 hx365_0 hx365_1 hx365_2 hx365_3 hx365_4 hx365_5 hx365_6 hx365_7 hx366_0 hx366_1 hx366_2 hx366_3 hx366_4 hx366_5 hx366_6 hx366_7 hHeld ⊢
              refine pz 0 27 mk13_4 (any_of HT_.out (by kernel_rfl)) ?_
              refine pz 1 28 mk13_7 (any_of HT_.out (by kernel_rfl)) ?_
              refine pz 2 29 mk13_10 (any_of HT_.out (by kernel_rfl)) ?_
              refine pz 3 30 mk13_13 (any_of HT_.out (by kernel_rfl)) ?_
              refine pz 4 31 mk13_16 (any_of HT_.out (by kernel_rfl)) ?_
              refine pz 5 32 mk13_23 (any_of HT_.out (by kernel_rfl)) ?_
              refine pz 6 33 mk13_28 (any_of HT_.out (by kernel_rfl)) ?_
              refine take_ (i := 7) (N := some 34) (v := ?_) (a' := ?_) mk13_29 rfl rfl (take_ofW HT_.out HW_.out (by kernel_rfl)) (fun _ _ _ h => h) (Or.inl ⟨by rfl, ?_⟩) hHeld ?_ ?_
              rotate_left
              ·rintro w' ⟨s0, s1, s2, s3, s4, s5, s6, s7, s8, s9, s10, s11, s12, s13, s14, s15, s16, s17, s18, s19, s20, s21, s22, s23, s24, s25, s26, s27, s28, s29, s30, s31, s32, s33, s34, s35, s36, s37, s38, s39⟩
               exact gs
              rotate_left
              ·exact ap
              refine pz 8 35 mk13_30 (any_of HT_.out (by kernel_rfl)) ?_
              refine pz 9 36 mk13_31 (any_of HT_.out (by kernel_rfl)) ?_
              refine pz 10 37 mk13_34 (any_of HT_.out (by kernel_rfl)) ?_
              refine pz 11 38 mk13_37 (any_of HT_.out (by kernel_rfl)) ?_
              refine pz 12 39 mk13_40 (any_of HT_.out (by kernel_rfl)) ?_
              refine pz 13 40 mk13_42 (any_of HT_.out (by kernel_rfl)) ?_
              refine pz 14 41 mk13_44 (any_of HT_.out (by kernel_rfl)) ?_
              refine take_ (i := 15) (N := some 42) (v := ?_) (a' := ?_) mk13_46 rfl rfl (take_ofW HT_.out HW_.out (by kernel_rfl)) (fun _ _ _ h => h) (Or.inl ⟨by rfl, ?_⟩) hHeld ?_ ?_
              rotate_left
              ·rintro w' ⟨s0, s1, s2, s3, s4, s5, s6, s7, s8, s9, s10, s11, s12, s13, s14, s15, s16, s17, s18, s19, s20, s21, s22, s23, s24, s25, s26, s27, s28, s29, s30, s31, s32, s33, s34, s35, s36, s37, s38, s39⟩
               exact gs
              rotate_left
              ·exact ap
              refine pz 16 43 mk13_48 (any_of HT_.out (by kernel_rfl)) ?_
              refine pz 17 44 mk13_50 (any_of HT_.out (by kernel_rfl)) ?_
              refine pz 18 45 mk13_52 (any_of HT_.out (by kernel_rfl)) ?_
              refine pz 19 46 mk13_54 (any_of HT_.out (by kernel_rfl)) ?_
              refine pz 20 47 mk13_56 (any_of HT_.out (by kernel_rfl)) ?_
              refine pz 21 48 mk13_58 (any_of HT_.out (by kernel_rfl)) ?_
              refine pz 22 49 mk13_65 (any_of HT_.out (by kernel_rfl)) ?_
              refine pz 23 50 mk13_69 (any_of HT_.out (by kernel_rfl)) ?_
              refine pz 24 51 mk13_71 (any_of HT_.out (by kernel_rfl)) ?_
              refine pz 25 52 mk13_73 (any_of HT_.out (by kernel_rfl)) ?_
              refine pz 26 53 mk13_75 (any_of HT_.out (by kernel_rfl)) ?_
              refine pz 27 54 mk13_77 (any_of HT_.out (by kernel_rfl)) ?_
              refine take_ (i := 28) (N := some 55) (v := ?_) (a' := ?_) mk13_79 rfl rfl (take_ofW HT_.out HW_.out (by kernel_rfl)) (fun _ _ _ h => h) (Or.inl ⟨by rfl, ?_⟩) hHeld ?_ ?_
              rotate_left
              ·rintro w' ⟨s0, s1, s2, s3, s4, s5, s6, s7, s8, s9, s10, s11, s12, s13, s14, s15, s16, s17, s18, s19, s20, s21, s22, s23, s24, s25, s26, s27, s28, s29, s30, s31, s32, s33, s34, s35, s36, s37, s38, s39⟩
               exact gs
              rotate_left
              ·exact ap
              refine pz 29 56 mk13_81 (any_of HT_.out (by kernel_rfl)) ?_
              refine pz 30 57 mk13_83 (any_of HT_.out (by kernel_rfl)) ?_
              refine pz 31 58 mk13_85 (any_of HT_.out (by kernel_rfl)) ?_
              refine pz 32 59 mk13_87 (any_of HT_.out (by kernel_rfl)) ?_
              refine pz 33 60 mk13_89 (any_of HT_.out (by kernel_rfl)) ?_
              refine pz 34 61 mk13_91 (any_of HT_.out (by kernel_rfl)) ?_
              refine pz 36 63 mk13_92 (any_of HT_.out (by kernel_rfl)) ?_
              refine pz 37 64 mk13_93 (any_of HT_.out (by kernel_rfl)) ?_
              refine pz 38 65 mk13_94 (any_of HT_.out (by kernel_rfl)) ?_
              refine pz 39 66 mk13_95 (any_of HT_.out (by kernel_rfl)) ?_
              refine take_ (i := 35) (N := some 62) (v := ?_) (a' := ?_) mk13_105 rfl rfl (take_ofW HT_.out HW_.out (by kernel_rfl)) (fun _ _ _ h => h) (Or.inl ⟨by rfl, ?_⟩) hHeld ?_ ?_
              rotate_left
              ·rintro w' ⟨s0, s1, s2, s3, s4, s5, s6, s7, s8, s9, s10, s11, s12, s13, s14, s15, s16, s17, s18, s19, s20, s21, s22, s23, s24, s25, s26, s27, s28, s29, s30, s31, s32, s33, s34, s35, s36, s37, s38, s39⟩
               exact gs
              rotate_left
              ·exact ap
              refine take_ (i := 40) (N := some 67) (v := ?_) (a' := ?_) mk13_107 rfl rfl (take_ofW HT_.out HW_.out (by kernel_rfl)) (fun _ _ _ h => h) (Or.inl ⟨by rfl, ?_⟩) hHeld ?_ ?_
              rotate_left
              ·rintro w' ⟨s0, s1, s2, s3, s4, s5, s6, s7, s8, s9, s10, s11, s12, s13, s14, s15, s16, s17, s18, s19, s20, s21, s22, s23, s24, s25, s26, s27, s28, s29, s30, s31, s32, s33, s34, s35, s36, s37, s38, s39⟩
               exact gs
              rotate_left
              ·exact ap
              refine pz 41 68 mk13_109 (any_of HT_.out (by kernel_rfl)) ?_
              refine pz 42 69 mk13_111 (any_of HT_.out (by kernel_rfl)) ?_
              refine pz 43 70 mk13_134 (any_of HT_.out (by kernel_rfl)) ?_
              refine done_ (done_of HT_.out (by kernel_rfl)) ?_
              try go_wp2
              go_meet
              case rel => exact ⟨_, ((((rd_T30 t356 t361).f0).toList != ((rd_T30 t356 x4_1).f2).toList)), u13_4, H', ⟨by have := HK1.out; first | omega | exact Nat.le_refl _⟩, ⟨by (with_reducible repeat (first | apply Kd.R_alloc | apply Kd.R_drewN | apply Kd.R_drew)); exact HO_3.out⟩, ⟨s13_2⟩⟩
             ·rw [if_neg c21] at H
              have c21b0 : (((rd_T30 t356 x4_1).f1) == 2) = false := beq_eq_false_iff_ne.mpr c21
              have c21b1 : (((rd_T30 t356 x4_1).f1) != 2) = true := bne_iff_ne.mpr c21
              have H' := am H
              clear H
              try go_wp2
              have n0_ := am (Kd.R_drew HO_3.out)
              have n1_ := am (below_drew1 HB.out)
              clear HO_3 HB
              have HO_3 := n0_
              have HB := n1_
              clear n0_ n1_
              have p362 : 0 ≤ (t361 : Int) := od u13_3
              have q362 : t361 < (t356.length : Int) := od u13_3
              obtain ⟨ad362, e362, hx362_0, hx362_1, hx362_2, hx362_3, hx362_4, hx362_5, hx362_6, hx362_7⟩ := at_T30 (Kd.R_reads' HO_3.out).2.2 t361 p362 q362
              obtain rfl : ad359 = ad362 := (by injection e362)
              replace p362 := eq_true p362
              replace q362 := eq_true q362
              have p363 : 0 ≤ (x4_1 : Int) := od u13_3
              have q363 : x4_1 < (t356.length : Int) := od u13_3
              obtain ⟨ad363, e363, hx363_0, hx363_1, hx363_2, hx363_3, hx363_4, hx363_5, hx363_6, hx363_7⟩ := at_T30 (Kd.R_reads' HO_3.out).2.2 x4_1 p363 q363
              obtain rfl : ad359 = ad363 := (by injection e363)
              replace p363 := eq_true p363
              replace q363 := eq_true q363
              have p364 : 0 ≤ (x4_1 : Int) := od u13_3
              have q364 : x4_1 < (t356.length : Int) := od u13_3
              obtain ⟨ad364, e364, hx364_0, hx364_1, hx364_2, hx364_3, hx364_4, hx364_5, hx364_6, hx364_7⟩ := at_T30 (Kd.R_reads' HO_3.out).2.2 x4_1 p364 q364
              obtain rfl : ad359 = ad364 := (by injection e364)
              replace p364 := eq_true p364
              replace q364 := eq_true q364
              refine start_ (n := 44) (S := fun w' => zc6 w' (ad359.add ((t361).toNat * 8)) (rd_T30 t356 t361) (zc6 w' (ad359.add ((x4_1).toNat * 8)) (rd_T30 t356 x4_1) (zc2 w' (ad359.add ((x4_1).toNat * 8)) (rd_T30 t356 x4_1)))) (ds := []) mk13_1 (by kernel_rfl) rfl rfl ⟨hx362_0, hx362_1, hx362_2, hx362_3, hx362_4, hx362_5, hx362_6, hx362_7, hx363_0, hx363_1, hx363_2, hx363_3, hx363_4, hx363_5, hx363_6, hx363_7, hx364_0, hx364_1, hx364_2, hx364_3, hx364_4, hx364_5, hx364_6, hx364_7⟩ (fun hHeld => ?_); refine with_tabW laws_FnLines.tab8 laws_FnLines.bits8 (fun HT_ HW_ => ?_)
              generalize w13.drew = w23 at HO_3 HB hx362_0 hx362_1 hx362_2 hx362_3 hx362_4 hx362_5 hx362_6 hx362_7 hx363_0 hx363_1 hx363_2 hx363_3 hx363_4 hx363_5 hx363_6 hx363_7 hx364_0 hx364_1 hx364_2 hx364_3 hx364_4 hx364_5 hx364_6 hx364_7 hHeld ⊢
              refine pz 0 27 mk13_4 (any_of HT_.out (by kernel_rfl)) ?_
              refine pz 1 28 mk13_7 (any_of HT_.out (by kernel_rfl)) ?_
              refine pz 2 29 mk13_10 (any_of HT_.out (by kernel_rfl)) ?_
              refine pz 3 30 mk13_13 (any_of HT_.out (by kernel_rfl)) ?_
              refine pz 4 31 mk13_16 (any_of HT_.out (by kernel_rfl)) ?_
              refine pz 5 32 mk13_23 (any_of HT_.out (by kernel_rfl)) ?_
              refine pz 6 33 mk13_28 (any_of HT_.out (by kernel_rfl)) ?_
              refine take_ (i := 7) (N := some 34) (v := ?_) (a' := ?_) mk13_29 rfl rfl (take_ofW HT_.out HW_.out (by kernel_rfl)) (fun _ _ _ h => h) (Or.inl ⟨by rfl, ?_⟩) hHeld ?_ ?_
              rotate_left
              ·rintro w' ⟨s0, s1, s2, s3, s4, s5, s6, s7, s8, s9, s10, s11, s12, s13, s14, s15, s16, s17, s18, s19, s20, s21, s22, s23⟩
               exact gs
              rotate_left
              ·exact ap
              refine pz 8 35 mk13_30 (any_of HT_.out (by kernel_rfl)) ?_
              refine pz 9 36 mk13_31 (any_of HT_.out (by kernel_rfl)) ?_
              refine pz 10 37 mk13_34 (any_of HT_.out (by kernel_rfl)) ?_
              refine pz 11 38 mk13_37 (any_of HT_.out (by kernel_rfl)) ?_
              refine pz 12 39 mk13_40 (any_of HT_.out (by kernel_rfl)) ?_
              refine pz 13 40 mk13_42 (any_of HT_.out (by kernel_rfl)) ?_
              refine pz 14 41 mk13_44 (any_of HT_.out (by kernel_rfl)) ?_
              refine take_ (i := 15) (N := some 42) (v := ?_) (a' := ?_) mk13_46 rfl rfl (take_ofW HT_.out HW_.out (by kernel_rfl)) (fun _ _ _ h => h) (Or.inl ⟨by rfl, ?_⟩) hHeld ?_ ?_
              rotate_left
              ·rintro w' ⟨s0, s1, s2, s3, s4, s5, s6, s7, s8, s9, s10, s11, s12, s13, s14, s15, s16, s17, s18, s19, s20, s21, s22, s23⟩
               exact gs
              rotate_left
              ·exact ap
              refine pz 16 43 mk13_48 (any_of HT_.out (by kernel_rfl)) ?_
              refine pz 17 44 mk13_50 (any_of HT_.out (by kernel_rfl)) ?_
              refine pz 18 45 mk13_52 (any_of HT_.out (by kernel_rfl)) ?_
              refine pz 19 46 mk13_54 (any_of HT_.out (by kernel_rfl)) ?_
              refine pz 20 47 mk13_56 (any_of HT_.out (by kernel_rfl)) ?_
              refine pz 21 48 mk13_58 (any_of HT_.out (by kernel_rfl)) ?_
              refine pz 22 49 mk13_65 (any_of HT_.out (by kernel_rfl)) ?_
              refine pz 23 50 mk13_69 (any_of HT_.out (by kernel_rfl)) ?_
              refine pz 24 51 mk13_71 (any_of HT_.out (by kernel_rfl)) ?_
              refine pz 25 52 mk13_73 (any_of HT_.out (by kernel_rfl)) ?_
              refine pz 26 53 mk13_75 (any_of HT_.out (by kernel_rfl)) ?_
              refine pz 27 54 mk13_77 (any_of HT_.out (by kernel_rfl)) ?_
              refine take_ (i := 28) (N := some 55) (v := ?_) (a' := ?_) mk13_79 rfl rfl (take_ofW HT_.out HW_.out (by kernel_rfl)) (fun _ _ _ h => h) (Or.inl ⟨by rfl, ?_⟩) hHeld ?_ ?_
              rotate_left
              ·rintro w' ⟨s0, s1, s2, s3, s4, s5, s6, s7, s8, s9, s10, s11, s12, s13, s14, s15, s16, s17, s18, s19, s20, s21, s22, s23⟩
               exact gs
              rotate_left
              ·exact ap
              refine pz 29 56 mk13_81 (any_of HT_.out (by kernel_rfl)) ?_
              refine pz 30 57 mk13_83 (any_of HT_.out (by kernel_rfl)) ?_
              refine pure_ (i := 31) (N := some 58) (v := undef) (a' := ?_) mk13_85 rfl rfl (any_of HT_.out (by kernel_rfl)) (fun _ _ _ h => h) (Or.inr ⟨by rfl, rfl⟩) ?_ ?_
              rotate_left
              ·exact ap
              refine pure_ (i := 32) (N := some 59) (v := undef) (a' := ?_) mk13_87 rfl rfl (any_of HT_.out (by kernel_rfl)) (fun _ _ _ h => h) (Or.inr ⟨by rfl, rfl⟩) ?_ ?_
              rotate_left
              ·exact ap
              refine pure_ (i := 33) (N := some 60) (v := undef) (a' := ?_) mk13_89 rfl rfl (any_of HT_.out (by kernel_rfl)) (fun _ _ _ h => h) (Or.inr ⟨by rfl, rfl⟩) ?_ ?_
              rotate_left
              ·exact ap
              refine pure_ (i := 34) (N := some 61) (v := undef) (a' := ?_) mk13_91 rfl rfl (any_of HT_.out (by kernel_rfl)) (fun _ _ _ h => h) (Or.inr ⟨by rfl, rfl⟩) ?_ ?_
              rotate_left
              ·exact ap
              refine pure_ (i := 35) (N := some 62) (v := undef) (a' := ?_) mk13_97 rfl rfl (any_of HT_.out (by kernel_rfl)) (fun _ _ _ h => h) (Or.inr ⟨by rfl, rfl⟩) ?_ ?_
              rotate_left
              ·exact ap
              refine pure_ (i := 36) (N := some 63) (v := undef) (a' := ?_) mk13_99 rfl rfl (any_of HT_.out (by kernel_rfl)) (fun _ _ _ h => h) (Or.inr ⟨by rfl, rfl⟩) ?_ ?_
              rotate_left
              ·exact ap
              refine pure_ (i := 37) (N := some 64) (v := undef) (a' := ?_) mk13_101 rfl rfl (any_of HT_.out (by kernel_rfl)) (fun _ _ _ h => h) (Or.inr ⟨by rfl, rfl⟩) ?_ ?_
              rotate_left
              ·exact ap
              refine pure_ (i := 38) (N := some 65) (v := undef) (a' := ?_) mk13_103 rfl rfl (any_of HT_.out (by kernel_rfl)) (fun _ _ _ h => h) (Or.inr ⟨by rfl, rfl⟩) ?_ ?_
              rotate_left
              ·exact ap
              refine pure_ (i := 39) (N := some 66) (v := undef) (a' := ?_) mk13_105 rfl rfl (any_of HT_.out (by kernel_rfl)) (fun _ _ _ h => h) (Or.inr ⟨by rfl, rfl⟩) ?_ ?_
              rotate_left
              ·exact ap
              refine pure_ (i := 40) (N := some 67) (v := undef) (a' := ?_) mk13_107 rfl rfl (any_of HT_.out (by kernel_rfl)) (fun _ _ _ h => h) (Or.inr ⟨by rfl, rfl⟩) ?_ ?_
              rotate_left
              ·exact ap
              refine pure_ (i := 41) (N := some 68) (v := undef) (a' := ?_) mk13_109 rfl rfl (any_of HT_.out (by kernel_rfl)) (fun _ _ _ h => h) (Or.inr ⟨by rfl, rfl⟩) ?_ ?_
              rotate_left
              ·exact ap
              refine pz 42 69 mk13_111 (any_of HT_.out (by kernel_rfl)) ?_
              refine pz 43 70 mk13_134 (any_of HT_.out (by kernel_rfl)) ?_
              refine done_ (done_of HT_.out (by kernel_rfl)) ?_
              try go_wp2
              go_meet
              case rel => exact ⟨_, (false), u13_4, H', ⟨by have := HK1.out; first | omega | exact Nat.le_refl _⟩, ⟨by (with_reducible repeat (first | apply Kd.R_alloc | apply Kd.R_drewN | apply Kd.R_drew)); exact HO_3.out⟩, ⟨s13_2⟩⟩
            ·rw [if_neg c20] at H
             have c20b0 : (t361 == x4_1) = false := beq_eq_false_iff_ne.mpr c20
             have c20b1 : (t361 != x4_1) = true := bne_iff_ne.mpr c20
             have H' := am H
             clear H
             try go_wp2
             have n0_ := am (Kd.R_drew HO_3.out)
             have n1_ := am (below_drew1 HB.out)
             clear HO_3 HB
             have HO_3 := n0_
             have HB := n1_
             clear n0_ n1_
             have p362 : 0 ≤ (t361 : Int) := od u13_3
             have q362 : t361 < (t356.length : Int) := od u13_3
             obtain ⟨ad362, e362, hx362_0, hx362_1, hx362_2, hx362_3, hx362_4, hx362_5, hx362_6, hx362_7⟩ := at_T30 (Kd.R_reads' HO_3.out).2.2 t361 p362 q362
             obtain rfl : ad359 = ad362 := (by injection e362)
             replace p362 := eq_true p362
             replace q362 := eq_true q362
             have p363 : 0 ≤ (x4_1 : Int) := od u13_3
             have q363 : x4_1 < (t356.length : Int) := od u13_3
             obtain ⟨ad363, e363, hx363_0, hx363_1, hx363_2, hx363_3, hx363_4, hx363_5, hx363_6, hx363_7⟩ := at_T30 (Kd.R_reads' HO_3.out).2.2 x4_1 p363 q363
             obtain rfl : ad359 = ad363 := (by injection e363)
             replace p363 := eq_true p363
             replace q363 := eq_true q363
             refine start_ (n := 44) (S := fun w' => zc6 w' (ad359.add ((t361).toNat * 8)) (rd_T30 t356 t361) (zc2 w' (ad359.add ((x4_1).toNat * 8)) (rd_T30 t356 x4_1))) (ds := []) mk13_1 (by kernel_rfl) rfl rfl ⟨hx362_0, hx362_1, hx362_2, hx362_3, hx362_4, hx362_5, hx362_6, hx362_7, hx363_0, hx363_1, hx363_2, hx363_3, hx363_4, hx363_5, hx363_6, hx363_7⟩ (fun hHeld => ?_); refine with_tabW laws_FnLines.tab8 laws_FnLines.bits8 (fun HT_ HW_ => ?_)
             generalize w13.drew = w24 at HO_3 HB hx362_0 hx362_1 hx362_2 hx362_3 hx362_4 hx362_5 hx362_6 hx362_7 hx363_0 hx363_1 hx363_2 hx363_3 hx363_4 hx363_5 hx363_6 hx363_7 hHeld ⊢
             refine pz 0 27 mk13_4 (any_of HT_.out (by kernel_rfl)) ?_
             refine pz 1 28 mk13_7 (any_of HT_.out (by kernel_rfl)) ?_
             refine pz 2 29 mk13_10 (any_of HT_.out (by kernel_rfl)) ?_
             refine pz 3 30 mk13_13 (any_of HT_.out (by kernel_rfl)) ?_
             refine pz 4 31 mk13_16 (any_of HT_.out (by kernel_rfl)) ?_
             refine pz 5 32 mk13_23 (any_of HT_.out (by kernel_rfl)) ?_
             refine pz 6 33 mk13_28 (any_of HT_.out (by kernel_rfl)) ?_
             refine take_ (i := 7) (N := some 34) (v := ?_) (a' := ?_) mk13_29 rfl rfl (take_ofW HT_.out HW_.out (by kernel_rfl)) (fun _ _ _ h => h) (Or.inl ⟨by rfl, ?_⟩) hHeld ?_ ?_
             rotate_left
             ·rintro w' ⟨s0, s1, s2, s3, s4, s5, s6, s7, s8, s9, s10, s11, s12, s13, s14, s15⟩
              exact gs
             rotate_left
             ·exact ap
             refine pz 8 35 mk13_30 (any_of HT_.out (by kernel_rfl)) ?_
             refine pz 9 36 mk13_31 (any_of HT_.out (by kernel_rfl)) ?_
             refine pz 10 37 mk13_34 (any_of HT_.out (by kernel_rfl)) ?_
             refine pz 11 38 mk13_37 (any_of HT_.out (by kernel_rfl)) ?_
             refine pz 12 39 mk13_40 (any_of HT_.out (by kernel_rfl)) ?_
             refine pz 13 40 mk13_42 (any_of HT_.out (by kernel_rfl)) ?_
             refine pz 14 41 mk13_44 (any_of HT_.out (by kernel_rfl)) ?_
             refine take_ (i := 15) (N := some 42) (v := ?_) (a' := ?_) mk13_46 rfl rfl (take_ofW HT_.out HW_.out (by kernel_rfl)) (fun _ _ _ h => h) (Or.inl ⟨by rfl, ?_⟩) hHeld ?_ ?_
             rotate_left
             ·rintro w' ⟨s0, s1, s2, s3, s4, s5, s6, s7, s8, s9, s10, s11, s12, s13, s14, s15⟩
              exact gs
             rotate_left
             ·exact ap
             refine pz 16 43 mk13_48 (any_of HT_.out (by kernel_rfl)) ?_
             refine pz 17 44 mk13_50 (any_of HT_.out (by kernel_rfl)) ?_
             refine pz 18 45 mk13_52 (any_of HT_.out (by kernel_rfl)) ?_
             refine pz 19 46 mk13_54 (any_of HT_.out (by kernel_rfl)) ?_
             refine pz 20 47 mk13_56 (any_of HT_.out (by kernel_rfl)) ?_
             refine pz 21 48 mk13_58 (any_of HT_.out (by kernel_rfl)) ?_
             refine pz 22 49 mk13_65 (any_of HT_.out (by kernel_rfl)) ?_
             refine pz 23 50 mk13_69 (any_of HT_.out (by kernel_rfl)) ?_
             refine pure_ (i := 24) (N := some 51) (v := undef) (a' := ?_) mk13_71 rfl rfl (any_of HT_.out (by kernel_rfl)) (fun _ _ _ h => h) (Or.inr ⟨by rfl, rfl⟩) ?_ ?_
             rotate_left
             ·exact ap
             refine pure_ (i := 25) (N := some 52) (v := undef) (a' := ?_) mk13_73 rfl rfl (any_of HT_.out (by kernel_rfl)) (fun _ _ _ h => h) (Or.inr ⟨by rfl, rfl⟩) ?_ ?_
             rotate_left
             ·exact ap
             refine pure_ (i := 26) (N := some 53) (v := undef) (a' := ?_) mk13_75 rfl rfl (any_of HT_.out (by kernel_rfl)) (fun _ _ _ h => h) (Or.inr ⟨by rfl, rfl⟩) ?_ ?_
             rotate_left
             ·exact ap
             refine pure_ (i := 27) (N := some 54) (v := undef) (a' := ?_) mk13_77 rfl rfl (any_of HT_.out (by kernel_rfl)) (fun _ _ _ h => h) (Or.inr ⟨by rfl, rfl⟩) ?_ ?_
             rotate_left
             ·exact ap
             refine pure_ (i := 28) (N := some 55) (v := undef) (a' := ?_) mk13_79 rfl rfl (any_of HT_.out (by kernel_rfl)) (fun _ _ _ h => h) (Or.inr ⟨by rfl, rfl⟩) ?_ ?_
             rotate_left
             ·exact ap
             refine pure_ (i := 29) (N := some 56) (v := undef) (a' := ?_) mk13_81 rfl rfl (any_of HT_.out (by kernel_rfl)) (fun _ _ _ h => h) (Or.inr ⟨by rfl, rfl⟩) ?_ ?_
             rotate_left
             ·exact ap
             refine pure_ (i := 30) (N := some 57) (v := undef) (a' := ?_) mk13_83 rfl rfl (any_of HT_.out (by kernel_rfl)) (fun _ _ _ h => h) (Or.inr ⟨by rfl, rfl⟩) ?_ ?_
             rotate_left
             ·exact ap
             refine pure_ (i := 31) (N := some 58) (v := undef) (a' := ?_) mk13_85 rfl rfl (any_of HT_.out (by kernel_rfl)) (fun _ _ _ h => h) (Or.inr ⟨by rfl, rfl⟩) ?_ ?_
             rotate_left
             ·exact ap
             refine pure_ (i := 32) (N := some 59) (v := undef) (a' := ?_) mk13_87 rfl rfl (any_of HT_.out (by kernel_rfl)) (fun _ _ _ h => h) (Or.inr ⟨by rfl, rfl⟩) ?_ ?_
             rotate_left
             ·exact ap
             refine pure_ (i := 33) (N := some 60) (v := undef) (a' := ?_) mk13_89 rfl rfl (any_of HT_.out (by kernel_rfl)) (fun _ _ _ h => h) (Or.inr ⟨by rfl, rfl⟩) ?_ ?_
             rotate_left
             ·exact ap
             refine pure_ (i := 34) (N := some 61) (v := undef) (a' := ?_) mk13_91 rfl rfl (any_of HT_.out (by kernel_rfl)) (fun _ _ _ h => h) (Or.inr ⟨by rfl, rfl⟩) ?_ ?_
             rotate_left
             ·exact ap
             refine pure_ (i := 35) (N := some 62) (v := undef) (a' := ?_) mk13_97 rfl rfl (any_of HT_.out (by kernel_rfl)) (fun _ _ _ h => h) (Or.inr ⟨by rfl, rfl⟩) ?_ ?_
             rotate_left
             ·exact ap
             refine pure_ (i := 36) (N := some 63) (v := undef) (a' := ?_) mk13_99 rfl rfl (any_of HT_.out (by kernel_rfl)) (fun _ _ _ h => h) (Or.inr ⟨by rfl, rfl⟩) ?_ ?_
             rotate_left
             ·exact ap
             refine pure_ (i := 37) (N := some 64) (v := undef) (a' := ?_) mk13_101 rfl rfl (any_of HT_.out (by kernel_rfl)) (fun _ _ _ h => h) (Or.inr ⟨by rfl, rfl⟩) ?_ ?_
             rotate_left
             ·exact ap
             refine pure_ (i := 38) (N := some 65) (v := undef) (a' := ?_) mk13_103 rfl rfl (any_of HT_.out (by kernel_rfl)) (fun _ _ _ h => h) (Or.inr ⟨by rfl, rfl⟩) ?_ ?_
             rotate_left
             ·exact ap
             refine pure_ (i := 39) (N := some 66) (v := undef) (a' := ?_) mk13_105 rfl rfl (any_of HT_.out (by kernel_rfl)) (fun _ _ _ h => h) (Or.inr ⟨by rfl, rfl⟩) ?_ ?_
             rotate_left
             ·exact ap
             refine pure_ (i := 40) (N := some 67) (v := undef) (a' := ?_) mk13_107 rfl rfl (any_of HT_.out (by kernel_rfl)) (fun _ _ _ h => h) (Or.inr ⟨by rfl, rfl⟩) ?_ ?_
             rotate_left
             ·exact ap
             refine pure_ (i := 41) (N := some 68) (v := undef) (a' := ?_) mk13_109 rfl rfl (any_of HT_.out (by kernel_rfl)) (fun _ _ _ h => h) (Or.inr ⟨by rfl, rfl⟩) ?_ ?_
             rotate_left
             ·exact ap
             refine pure_ (i := 42) (N := some 69) (v := undef) (a' := ?_) mk13_111 rfl rfl (any_of HT_.out (by kernel_rfl)) (fun _ _ _ h => h) (Or.inr ⟨by rfl, rfl⟩) ?_ ?_
             rotate_left
             ·exact ap
             refine pz 43 70 mk13_134 (any_of HT_.out (by kernel_rfl)) ?_
             refine done_ (done_of HT_.out (by kernel_rfl)) ?_
             try go_wp2
             go_meet
             case rel => exact ⟨_, (true), u13_4, H', ⟨by have := HK1.out; first | omega | exact Nat.le_refl _⟩, ⟨by (with_reducible repeat (first | apply Kd.R_alloc | apply Kd.R_drewN | apply Kd.R_drew)); exact HO_3.out⟩, ⟨s13_2⟩⟩
           ·rw [if_neg c19] at H
            have c19b0 : (((rd_T30 t356 x4_1).f1) == 1) = false := beq_eq_false_iff_ne.mpr c19
            have c19b1 : (((rd_T30 t356 x4_1).f1) != 1) = true := bne_iff_ne.mpr c19
            by_cases c25 : ((rd_T30 t356 x4_1).f1) = 2
            ·rw [if_pos c25] at H
             have c25b0 : (((rd_T30 t356 x4_1).f1) == 2) = true := beq_iff_eq.mpr c25
             have c25b1 : (((rd_T30 t356 x4_1).f1) != 2) = false := bne_eq_false_iff_eq.mpr c25
             clear c25
             have H' := am H
             clear H
             try go_wp2
             have n0_ := am (Kd.R_drew HO_3.out)
             have n1_ := am (below_drew1 HB.out)
             clear HO_3 HB
             have HO_3 := n0_
             have HB := n1_
             clear n0_ n1_
             have p362 : 0 ≤ (t361 : Int) := od u13_3
             have q362 : t361 < (t356.length : Int) := od u13_3
             obtain ⟨ad362, e362, hx362_0, hx362_1, hx362_2, hx362_3, hx362_4, hx362_5, hx362_6, hx362_7⟩ := at_T30 (Kd.R_reads' HO_3.out).2.2 t361 p362 q362
             obtain rfl : ad359 = ad362 := (by injection e362)
             replace p362 := eq_true p362
             replace q362 := eq_true q362
             have p363 : 0 ≤ (x4_1 : Int) := od u13_3
             have q363 : x4_1 < (t356.length : Int) := od u13_3
             obtain ⟨ad363, e363, hx363_0, hx363_1, hx363_2, hx363_3, hx363_4, hx363_5, hx363_6, hx363_7⟩ := at_T30 (Kd.R_reads' HO_3.out).2.2 x4_1 p363 q363
             obtain rfl : ad359 = ad363 := (by injection e363)
             replace p363 := eq_true p363
             replace q363 := eq_true q363
             have p367 : 0 ≤ (x4_1 : Int) := od u13_3
             have q367 : x4_1 < (t356.length : Int) := od u13_3
             obtain ⟨ad367, e367, hx367_0, hx367_1, hx367_2, hx367_3, hx367_4, hx367_5, hx367_6, hx367_7⟩ := at_T30 (Kd.R_reads' HO_3.out).2.2 x4_1 p367 q367
             obtain rfl : ad359 = ad367 := (by injection e367)
             replace p367 := eq_true p367
             replace q367 := eq_true q367
             have p368 : 0 ≤ (t361 : Int) := od u13_3
             have q368 : t361 < (t356.length : Int) := od u13_3
             obtain ⟨ad368, e368, hx368_0, hx368_1, hx368_2, hx368_3, hx368_4, hx368_5, hx368_6, hx368_7⟩ := at_T30 (Kd.R_reads' HO_3.out).2.2 t361 p368 q368
             obtain rfl : ad359 = ad368 := (by injection e368)
             replace p368 := eq_true p368
             replace q368 := eq_true q368
             have p369 : 0 ≤ (x4_1 : Int) := od u13_3
             have q369 : x4_1 < (t356.length : Int) := od u13_3
             obtain ⟨ad369, e369, hx369_0, hx369_1, hx369_2, hx369_3, hx369_4, hx369_5, hx369_6, hx369_7⟩ := at_T30 (Kd.R_reads' HO_3.out).2.2 x4_1 p369 q369
             obtain rfl : ad359 = ad369 := (by injection e369)
             replace p369 := eq_true p369
             replace q369 := eq_true q369
             refine start_ (n := 44) (S := fun w' => zc6 w' (ad359.add ((t361).toNat * 8)) (rd_T30 t356 t361) (zc6 w' (ad359.add ((x4_1).toNat * 8)) (rd_T30 t356 x4_1) (zc6 w' (ad359.add ((x4_1).toNat * 8)) (rd_T30 t356 x4_1) (zc6 w' (ad359.add ((t361).toNat * 8)) (rd_T30 t356 t361) (zc2 w' (ad359.add ((x4_1).toNat * 8)) (rd_T30 t356 x4_1)))))) (ds := []) mk13_1 (by kernel_rfl) rfl rfl ⟨hx362_0, hx362_1, hx362_2, hx362_3, hx362_4, hx362_5, hx362_6, hx362_7, hx363_0, hx363_1, hx363_2, hx363_3, hx363_4, hx363_5, hx363_6, hx363_7, hx367_0, hx367_1, hx367_2, hx367_3, hx367_4, hx367_5, hx367_6, hx367_7, hx368_0, hx368_1, hx368_2, hx368_3, hx368_4, hx368_5, hx368_6, hx368_7, hx369_0, hx369_1, hx369_2, hx369_3, hx369_4, hx369_5, hx369_6, hx369_7⟩ (fun hHeld => ?_); refine with_tabW laws_FnLines.tab8 laws_FnLines.bits8 (fun HT_ HW_ => ?_)
             generalize w13.drew = w26 at HO_3 HB hx362_0 hx362_1 hx362_2 hx362_3 hx362_4 hx362_5 hx362_6 hx362_7 hx363_0 hx363_1 hx363_2 hx363_3 hx363_4 hx363_5 hx363_6 hx363_7 hx367_0 hx367_1 hx367_2 hx367_3 hx367_4 hx367_5 hx367_6 hx367_7 hx368_0 hx368_1 hx368_2 hx368_3 hx368_4 hx368_5 hx368_6 hx368_7 hx369_0 hx369_1 hx369_2 hx369_3 hx369_4 hx369_5 hx369_6 hx369_7 hHeld ⊢
             refine pz 0 27 mk13_4 (any_of HT_.out (by kernel_rfl)) ?_
             refine pz 1 28 mk13_7 (any_of HT_.out (by kernel_rfl)) ?_
             refine pz 2 29 mk13_10 (any_of HT_.out (by kernel_rfl)) ?_
             refine pz 3 30 mk13_13 (any_of HT_.out (by kernel_rfl)) ?_
             refine pz 4 31 mk13_16 (any_of HT_.out (by kernel_rfl)) ?_
             refine pz 5 32 mk13_23 (any_of HT_.out (by kernel_rfl)) ?_
             refine pz 6 33 mk13_28 (any_of HT_.out (by kernel_rfl)) ?_
             refine take_ (i := 7) (N := some 34) (v := ?_) (a' := ?_) mk13_29 rfl rfl (take_ofW HT_.out HW_.out (by kernel_rfl)) (fun _ _ _ h => h) (Or.inl ⟨by rfl, ?_⟩) hHeld ?_ ?_
             rotate_left
             ·rintro w' ⟨s0, s1, s2, s3, s4, s5, s6, s7, s8, s9, s10, s11, s12, s13, s14, s15, s16, s17, s18, s19, s20, s21, s22, s23, s24, s25, s26, s27, s28, s29, s30, s31, s32, s33, s34, s35, s36, s37, s38, s39⟩
              exact gs
             rotate_left
             ·exact ap
             refine pz 8 35 mk13_30 (any_of HT_.out (by kernel_rfl)) ?_
             refine pz 9 36 mk13_31 (any_of HT_.out (by kernel_rfl)) ?_
             refine pz 10 37 mk13_34 (any_of HT_.out (by kernel_rfl)) ?_
             refine pz 11 38 mk13_37 (any_of HT_.out (by kernel_rfl)) ?_
             refine pz 12 39 mk13_40 (any_of HT_.out (by kernel_rfl)) ?_
             refine pz 13 40 mk13_42 (any_of HT_.out (by kernel_rfl)) ?_
             refine pz 14 41 mk13_44 (any_of HT_.out (by kernel_rfl)) ?_
             refine take_ (i := 15) (N := some 42) (v := ?_) (a' := ?_) mk13_46 rfl rfl (take_ofW HT_.out HW_.out (by kernel_rfl)) (fun _ _ _ h => h) (Or.inl ⟨by rfl, ?_⟩) hHeld ?_ ?_
             rotate_left
             ·rintro w' ⟨s0, s1, s2, s3, s4, s5, s6, s7, s8, s9, s10, s11, s12, s13, s14, s15, s16, s17, s18, s19, s20, s21, s22, s23, s24, s25, s26, s27, s28, s29, s30, s31, s32, s33, s34, s35, s36, s37, s38, s39⟩
              exact gs
             rotate_left
             ·exact ap
             refine pz 16 43 mk13_48 (any_of HT_.out (by kernel_rfl)) ?_
             refine pz 17 44 mk13_50 (any_of HT_.out (by kernel_rfl)) ?_
             refine pure_ (i := 18) (N := some 45) (v := undef) (a' := ?_) mk13_52 rfl rfl (any_of HT_.out (by kernel_rfl)) (fun _ _ _ h => h) (Or.inr ⟨by rfl, rfl⟩) ?_ ?_
             rotate_left
             ·exact ap
             refine pure_ (i := 19) (N := some 46) (v := undef) (a' := ?_) mk13_54 rfl rfl (any_of HT_.out (by kernel_rfl)) (fun _ _ _ h => h) (Or.inr ⟨by rfl, rfl⟩) ?_ ?_
             rotate_left
             ·exact ap
             refine pure_ (i := 20) (N := some 47) (v := undef) (a' := ?_) mk13_56 rfl rfl (any_of HT_.out (by kernel_rfl)) (fun _ _ _ h => h) (Or.inr ⟨by rfl, rfl⟩) ?_ ?_
             rotate_left
             ·exact ap
             refine pz 21 48 mk13_58 (any_of HT_.out (by kernel_rfl)) ?_
             refine pz 22 49 mk13_65 (any_of HT_.out (by kernel_rfl)) ?_
             refine pz 23 50 mk13_69 (any_of HT_.out (by kernel_rfl)) ?_
             refine pz 24 51 mk13_71 (any_of HT_.out (by kernel_rfl)) ?_
             refine pz 25 52 mk13_73 (any_of HT_.out (by kernel_rfl)) ?_
             refine pz 26 53 mk13_75 (any_of HT_.out (by kernel_rfl)) ?_
             refine pz 27 54 mk13_77 (any_of HT_.out (by kernel_rfl)) ?_
             refine take_ (i := 28) (N := some 55) (v := ?_) (a' := ?_) mk13_79 rfl rfl (take_ofW HT_.out HW_.out (by kernel_rfl)) (fun _ _ _ h => h) (Or.inl ⟨by rfl, ?_⟩) hHeld ?_ ?_
             rotate_left
             ·rintro w' ⟨s0, s1, s2, s3, s4, s5, s6, s7, s8, s9, s10, s11, s12, s13, s14, s15, s16, s17, s18, s19, s20, s21, s22, s23, s24, s25, s26, s27, s28, s29, s30, s31, s32, s33, s34, s35, s36, s37, s38, s39⟩
              exact gs
             rotate_left
             ·exact ap
             refine pz 29 56 mk13_81 (any_of HT_.out (by kernel_rfl)) ?_
             refine pz 30 57 mk13_83 (any_of HT_.out (by kernel_rfl)) ?_
             refine pz 31 58 mk13_85 (any_of HT_.out (by kernel_rfl)) ?_
             refine pz 32 59 mk13_87 (any_of HT_.out (by kernel_rfl)) ?_
             refine pz 33 60 mk13_89 (any_of HT_.out (by kernel_rfl)) ?_
             refine pz 34 61 mk13_91 (any_of HT_.out (by kernel_rfl)) ?_
             refine pz 36 63 mk13_92 (any_of HT_.out (by kernel_rfl)) ?_
             refine pz 37 64 mk13_93 (any_of HT_.out (by kernel_rfl)) ?_
             refine pz 38 65 mk13_94 (any_of HT_.out (by kernel_rfl)) ?_
             refine pz 39 66 mk13_95 (any_of HT_.out (by kernel_rfl)) ?_
             refine take_ (i := 35) (N := some 62) (v := ?_) (a' := ?_) mk13_105 rfl rfl (take_ofW HT_.out HW_.out (by kernel_rfl)) (fun _ _ _ h => h) (Or.inl ⟨by rfl, ?_⟩) hHeld ?_ ?_
             rotate_left
             ·rintro w' ⟨s0, s1, s2, s3, s4, s5, s6, s7, s8, s9, s10, s11, s12, s13, s14, s15, s16, s17, s18, s19, s20, s21, s22, s23, s24, s25, s26, s27, s28, s29, s30, s31, s32, s33, s34, s35, s36, s37, s38, s39⟩
              exact gs
             rotate_left
             ·exact ap
             refine take_ (i := 40) (N := some 67) (v := ?_) (a' := ?_) mk13_107 rfl rfl (take_ofW HT_.out HW_.out (by kernel_rfl)) (fun _ _ _ h => h) (Or.inl ⟨by rfl, ?_⟩) hHeld ?_ ?_
             rotate_left
             ·rintro w' ⟨s0, s1, s2, s3, s4, s5, s6, s7, s8, s9, s10, s11, s12, s13, s14, s15, s16, s17, s18, s19, s20, s21, s22, s23, s24, s25, s26, s27, s28, s29, s30, s31, s32, s33, s34, s35, s36, s37, s38, s39⟩
              exact gs
             rotate_left
             ·exact ap
             refine pz 41 68 mk13_109 (any_of HT_.out (by kernel_rfl)) ?_
             refine pz 42 69 mk13_111 (any_of HT_.out (by kernel_rfl)) ?_
             refine pz 43 70 mk13_134 (any_of HT_.out (by kernel_rfl)) ?_
             refine done_ (done_of HT_.out (by kernel_rfl)) ?_
             try go_wp2
             go_meet
             case rel => exact ⟨_, ((((rd_T30 t356 t361).f0).toList != ((rd_T30 t356 x4_1).f2).toList)), u13_4, H', ⟨by have := HK1.out; first | omega | exact Nat.le_refl _⟩, ⟨by (with_reducible repeat (first | apply Kd.R_alloc | apply Kd.R_drewN | apply Kd.R_drew)); exact HO_3.out⟩, ⟨s13_2⟩⟩
            ·rw [if_neg c25] at H
             have c25b0 : (((rd_T30 t356 x4_1).f1) == 2) = false := beq_eq_false_iff_ne.mpr c25
             have c25b1 : (((rd_T30 t356 x4_1).f1) != 2) = true := bne_iff_ne.mpr c25
             have H' := am H
             clear H
             try go_wp2
             have n0_ := am (Kd.R_drew HO_3.out)
             have n1_ := am (below_drew1 HB.out)
             clear HO_3 HB
             have HO_3 := n0_
             have HB := n1_
             clear n0_ n1_
             have p362 : 0 ≤ (t361 : Int) := od u13_3
             have q362 : t361 < (t356.length : Int) := od u13_3
             obtain ⟨ad362, e362, hx362_0, hx362_1, hx362_2, hx362_3, hx362_4, hx362_5, hx362_6, hx362_7⟩ := at_T30 (Kd.R_reads' HO_3.out).2.2 t361 p362 q362
             obtain rfl : ad359 = ad362 := (by injection e362)
             replace p362 := eq_true p362
             replace q362 := eq_true q362
             have p363 : 0 ≤ (x4_1 : Int) := od u13_3
             have q363 : x4_1 < (t356.length : Int) := od u13_3
             obtain ⟨ad363, e363, hx363_0, hx363_1, hx363_2, hx363_3, hx363_4, hx363_5, hx363_6, hx363_7⟩ := at_T30 (Kd.R_reads' HO_3.out).2.2 x4_1 p363 q363
             obtain rfl : ad359 = ad363 := (by injection e363)
             replace p363 := eq_true p363
             replace q363 := eq_true q363
             have p367 : 0 ≤ (x4_1 : Int) := od u13_3
             have q367 : x4_1 < (t356.length : Int) := od u13_3
             obtain ⟨ad367, e367, hx367_0, hx367_1, hx367_2, hx367_3, hx367_4, hx367_5, hx367_6, hx367_7⟩ := at_T30 (Kd.R_reads' HO_3.out).2.2 x4_1 p367 q367
             obtain rfl : ad359 = ad367 := (by injection e367)
             replace p367 := eq_true p367
             replace q367 := eq_true q367
             refine start_ (n := 44) (S := fun w' => zc6 w' (ad359.add ((t361).toNat * 8)) (rd_T30 t356 t361) (zc6 w' (ad359.add ((x4_1).toNat * 8)) (rd_T30 t356 x4_1) (zc2 w' (ad359.add ((x4_1).toNat * 8)) (rd_T30 t356 x4_1)))) (ds := []) mk13_1 (by kernel_rfl) rfl rfl ⟨hx362_0, hx362_1, hx362_2, hx362_3, hx362_4, hx362_5, hx362_6, hx362_7, hx363_0, hx363_1, hx363_2, hx363_3, hx363_4, hx363_5, hx363_6, hx363_7, hx367_0, hx367_1, hx367_2, hx367_3, hx367_4, hx367_5, hx367_6, hx367_7⟩ (fun hHeld => ?_); refine with_tabW laws_FnLines.tab8 laws_FnLines.bits8 (fun HT_ HW_ => ?_)
             generalize w13.drew = w27 at HO_3 HB hx362_0 hx362_1 hx362_2 hx362_3 hx362_4 hx362_5 hx362_6 hx362_7 hx363_0 hx363_1 hx363_2 hx363_3 hx363_4 hx363_5 hx363_6 hx363_7 hx367_0 hx367_1 hx367_2 hx367_3 hx367_4 hx367_5 hx367_6 hx367_7 hHeld ⊢
             refine pz 0 27 mk13_4 (any_of HT_.out (by kernel_rfl)) ?_
             refine pz 1 28 mk13_7 (any_of HT_.out (by kernel_rfl)) ?_
             refine pz 2 29 mk13_10 (any_of HT_.out (by kernel_rfl)) ?_
             refine pz 3 30 mk13_13 (any_of HT_.out (by kernel_rfl)) ?_
             refine pz 4 31 mk13_16 (any_of HT_.out (by kernel_rfl)) ?_
             refine pz 5 32 mk13_23 (any_of HT_.out (by kernel_rfl)) ?_
             refine pz 6 33 mk13_28 (any_of HT_.out (by kernel_rfl)) ?_
             refine take_ (i := 7) (N := some 34) (v := ?_) (a' := ?_) mk13_29 rfl rfl (take_ofW HT_.out HW_.out (by kernel_rfl)) (fun _ _ _ h => h) (Or.inl ⟨by rfl, ?_⟩) hHeld ?_ ?_
             rotate_left
             ·rintro w' ⟨s0, s1, s2, s3, s4, s5, s6, s7, s8, s9, s10, s11, s12, s13, s14, s15, s16, s17, s18, s19, s20, s21, s22, s23⟩
              exact gs
             rotate_left
             ·exact ap
             refine pz 8 35 mk13_30 (any_of HT_.out (by kernel_rfl)) ?_
             refine pz 9 36 mk13_31 (any_of HT_.out (by kernel_rfl)) ?_
             refine pz 10 37 mk13_34 (any_of HT_.out (by kernel_rfl)) ?_
             refine pz 11 38 mk13_37 (any_of HT_.out (by kernel_rfl)) ?_
             refine pz 12 39 mk13_40 (any_of HT_.out (by kernel_rfl)) ?_
             refine pz 13 40 mk13_42 (any_of HT_.out (by kernel_rfl)) ?_
             refine pz 14 41 mk13_44 (any_of HT_.out (by kernel_rfl)) ?_
             refine take_ (i := 15) (N := some 42) (v := ?_) (a' := ?_) mk13_46 rfl rfl (take_ofW HT_.out HW_.out (by kernel_rfl)) (fun _ _ _ h => h) (Or.inl ⟨by rfl, ?_⟩) hHeld ?_ ?_
             rotate_left
             ·rintro w' ⟨s0, s1, s2, s3, s4, s5, s6, s7, s8, s9, s10, s11, s12, s13, s14, s15, s16, s17, s18, s19, s20, s21, s22, s23⟩
              exact gs
             rotate_left
             ·exact ap
             refine pz 16 43 mk13_48 (any_of HT_.out (by kernel_rfl)) ?_
             refine pz 17 44 mk13_50 (any_of HT_.out (by kernel_rfl)) ?_
             refine pure_ (i := 18) (N := some 45) (v := undef) (a' := ?_) mk13_52 rfl rfl (any_of HT_.out (by kernel_rfl)) (fun _ _ _ h => h) (Or.inr ⟨by rfl, rfl⟩) ?_ ?_
             rotate_left
             ·exact ap
             refine pure_ (i := 19) (N := some 46) (v := undef) (a' := ?_) mk13_54 rfl rfl (any_of HT_.out (by kernel_rfl)) (fun _ _ _ h => h) (Or.inr ⟨by rfl, rfl⟩) ?_ ?_
             rotate_left
             ·exact ap
             refine pure_ (i := 20) (N := some 47) (v := undef) (a' := ?_) mk13_56 rfl rfl (any_of HT_.out (by kernel_rfl)) (fun _ _ _ h => h) (Or.inr ⟨by rfl, rfl⟩) ?_ ?_
             rotate_left
             ·exact ap
             refine pz 21 48 mk13_58 (any_of HT_.out (by kernel_rfl)) ?_
             refine pz 22 49 mk13_65 (any_of HT_.out (by kernel_rfl)) ?_
             refine pz 23 50 mk13_69 (any_of HT_.out (by kernel_rfl)) ?_
             refine pz 24 51 mk13_71 (any_of HT_.out (by kernel_rfl)) ?_
             refine pz 25 52 mk13_73 (any_of HT_.out (by kernel_rfl)) ?_
             refine pz 26 53 mk13_75 (any_of HT_.out (by kernel_rfl)) ?_
             refine pz 27 54 mk13_77 (any_of HT_.out (by kernel_rfl)) ?_
             refine take_ (i := 28) (N := some 55) (v := ?_) (a' := ?_) mk13_79 rfl rfl (take_ofW HT_.out HW_.out (by kernel_rfl)) (fun _ _ _ h => h) (Or.inl ⟨by rfl, ?_⟩) hHeld ?_ ?_
             rotate_left
             ·rintro w' ⟨s0, s1, s2, s3, s4, s5, s6, s7, s8, s9, s10, s11, s12, s13, s14, s15, s16, s17, s18, s19, s20, s21, s22, s23⟩
              exact gs
             rotate_left
             ·exact ap
             refine pz 29 56 mk13_81 (any_of HT_.out (by kernel_rfl)) ?_
             refine pz 30 57 mk13_83 (any_of HT_.out (by kernel_rfl)) ?_
             refine pure_ (i := 31) (N := some 58) (v := undef) (a' := ?_) mk13_85 rfl rfl (any_of HT_.out (by kernel_rfl)) (fun _ _ _ h => h) (Or.inr ⟨by rfl, rfl⟩) ?_ ?_
             rotate_left
             ·exact ap
             refine pure_ (i := 32) (N := some 59) (v := undef) (a' := ?_) mk13_87 rfl rfl (any_of HT_.out (by kernel_rfl)) (fun _ _ _ h => h) (Or.inr ⟨by rfl, rfl⟩) ?_ ?_
             rotate_left
             ·exact ap
             refine pure_ (i := 33) (N := some 60) (v := undef) (a' := ?_) mk13_89 rfl rfl (any_of HT_.out (by kernel_rfl)) (fun _ _ _ h => h) (Or.inr ⟨by rfl, rfl⟩) ?_ ?_
             rotate_left
             ·exact ap
             refine pure_ (i := 34) (N := some 61) (v := undef) (a' := ?_) mk13_91 rfl rfl (any_of HT_.out (by kernel_rfl)) (fun _ _ _ h => h) (Or.inr ⟨by rfl, rfl⟩) ?_ ?_
             rotate_left
             ·exact ap
             refine pure_ (i := 35) (N := some 62) (v := undef) (a' := ?_) mk13_97 rfl rfl (any_of HT_.out (by kernel_rfl)) (fun _ _ _ h => h) (Or.inr ⟨by rfl, rfl⟩) ?_ ?_
             rotate_left
             ·exact ap
             refine pure_ (i := 36) (N := some 63) (v := undef) (a' := ?_) mk13_99 rfl rfl (any_of HT_.out (by kernel_rfl)) (fun _ _ _ h => h) (Or.inr ⟨by rfl, rfl⟩) ?_ ?_
             rotate_left
             ·exact ap
             refine pure_ (i := 37) (N := some 64) (v := undef) (a' := ?_) mk13_101 rfl rfl (any_of HT_.out (by kernel_rfl)) (fun _ _ _ h => h) (Or.inr ⟨by rfl, rfl⟩) ?_ ?_
             rotate_left
             ·exact ap
             refine pure_ (i := 38) (N := some 65) (v := undef) (a' := ?_) mk13_103 rfl rfl (any_of HT_.out (by kernel_rfl)) (fun _ _ _ h => h) (Or.inr ⟨by rfl, rfl⟩) ?_ ?_
             rotate_left
             ·exact ap
             refine pure_ (i := 39) (N := some 66) (v := undef) (a' := ?_) mk13_105 rfl rfl (any_of HT_.out (by kernel_rfl)) (fun _ _ _ h => h) (Or.inr ⟨by rfl, rfl⟩) ?_ ?_
             rotate_left
             ·exact ap
             refine pure_ (i := 40) (N := some 67) (v := undef) (a' := ?_) mk13_107 rfl rfl (any_of HT_.out (by kernel_rfl)) (fun _ _ _ h => h) (Or.inr ⟨by rfl, rfl⟩) ?_ ?_
             rotate_left
             ·exact ap
             refine pure_ (i := 41) (N := some 68) (v := undef) (a' := ?_) mk13_109 rfl rfl (any_of HT_.out (by kernel_rfl)) (fun _ _ _ h => h) (Or.inr ⟨by rfl, rfl⟩) ?_ ?_
             rotate_left
             ·exact ap
             refine pz 42 69 mk13_111 (any_of HT_.out (by kernel_rfl)) ?_
             refine pz 43 70 mk13_134 (any_of HT_.out (by kernel_rfl)) ?_
             refine done_ (done_of HT_.out (by kernel_rfl)) ?_
             try go_wp2
             go_meet
             case rel => exact ⟨_, (false), u13_4, H', ⟨by have := HK1.out; first | omega | exact Nat.le_refl _⟩, ⟨by (with_reducible repeat (first | apply Kd.R_alloc | apply Kd.R_drewN | apply Kd.R_drew)); exact HO_3.out⟩, ⟨s13_2⟩⟩
          ·rw [if_neg c18] at H
           have c18b0 : (((rd_T30 t356 t361).f1) == 1) = false := beq_eq_false_iff_ne.mpr c18
           have c18b1 : (((rd_T30 t356 t361).f1) != 1) = true := bne_iff_ne.mpr c18
           have H' := am H
           clear H
           try go_wp2
           have n0_ := am (Kd.R_drew HO_3.out)
           have n1_ := am (below_drew1 HB.out)
           clear HO_3 HB
           have HO_3 := n0_
           have HB := n1_
           clear n0_ n1_
           have p362 : 0 ≤ (t361 : Int) := od u13_3
           have q362 : t361 < (t356.length : Int) := od u13_3
           obtain ⟨ad362, e362, hx362_0, hx362_1, hx362_2, hx362_3, hx362_4, hx362_5, hx362_6, hx362_7⟩ := at_T30 (Kd.R_reads' HO_3.out).2.2 t361 p362 q362
           obtain rfl : ad359 = ad362 := (by injection e362)
           replace p362 := eq_true p362
           replace q362 := eq_true q362
           refine start_ (n := 44) (S := fun w' => zc2 w' (ad359.add ((t361).toNat * 8)) (rd_T30 t356 t361)) (ds := []) mk13_1 (by kernel_rfl) rfl rfl ⟨hx362_0, hx362_1, hx362_2, hx362_3, hx362_4, hx362_5, hx362_6, hx362_7⟩ (fun hHeld => ?_); refine with_tabW laws_FnLines.tab8 laws_FnLines.bits8 (fun HT_ HW_ => ?_)
           generalize w13.drew = w28 at HO_3 HB hx362_0 hx362_1 hx362_2 hx362_3 hx362_4 hx362_5 hx362_6 hx362_7 hHeld ⊢
           refine pz 0 27 mk13_4 (any_of HT_.out (by kernel_rfl)) ?_
           refine pz 1 28 mk13_7 (any_of HT_.out (by kernel_rfl)) ?_
           refine pz 2 29 mk13_10 (any_of HT_.out (by kernel_rfl)) ?_
           refine pz 3 30 mk13_13 (any_of HT_.out (by kernel_rfl)) ?_
           refine pz 4 31 mk13_16 (any_of HT_.out (by kernel_rfl)) ?_
           refine pz 5 32 mk13_23 (any_of HT_.out (by kernel_rfl)) ?_
           refine pz 6 33 mk13_28 (any_of HT_.out (by kernel_rfl)) ?_
           refine take_ (i := 7) (N := some 34) (v := ?_) (a' := ?_) mk13_29 rfl rfl (take_ofW HT_.out HW_.out (by kernel_rfl)) (fun _ _ _ h => h) (Or.inl ⟨by rfl, ?_⟩) hHeld ?_ ?_
           rotate_left
           ·rintro w' ⟨s0, s1, s2, s3, s4, s5, s6, s7⟩
            exact gs
           rotate_left
           ·exact ap
           refine pz 8 35 mk13_30 (any_of HT_.out (by kernel_rfl)) ?_
           refine pz 9 36 mk13_31 (any_of HT_.out (by kernel_rfl)) ?_
           refine pz 10 37 mk13_34 (any_of HT_.out (by kernel_rfl)) ?_
           refine pure_ (i := 11) (N := some 38) (v := undef) (a' := ?_) mk13_37 rfl rfl (any_of HT_.out (by kernel_rfl)) (fun _ _ _ h => h) (Or.inr ⟨by rfl, rfl⟩) ?_ ?_
           rotate_left
           ·exact ap
           refine pure_ (i := 12) (N := some 39) (v := undef) (a' := ?_) mk13_40 rfl rfl (any_of HT_.out (by kernel_rfl)) (fun _ _ _ h => h) (Or.inr ⟨by rfl, rfl⟩) ?_ ?_
           rotate_left
           ·exact ap
           refine pure_ (i := 13) (N := some 40) (v := undef) (a' := ?_) mk13_42 rfl rfl (any_of HT_.out (by kernel_rfl)) (fun _ _ _ h => h) (Or.inr ⟨by rfl, rfl⟩) ?_ ?_
           rotate_left
           ·exact ap
           refine pure_ (i := 14) (N := some 41) (v := undef) (a' := ?_) mk13_44 rfl rfl (any_of HT_.out (by kernel_rfl)) (fun _ _ _ h => h) (Or.inr ⟨by rfl, rfl⟩) ?_ ?_
           rotate_left
           ·exact ap
           refine pure_ (i := 15) (N := some 42) (v := undef) (a' := ?_) mk13_46 rfl rfl (any_of HT_.out (by kernel_rfl)) (fun _ _ _ h => h) (Or.inr ⟨by rfl, rfl⟩) ?_ ?_
           rotate_left
           ·exact ap
           refine pure_ (i := 16) (N := some 43) (v := undef) (a' := ?_) mk13_48 rfl rfl (any_of HT_.out (by kernel_rfl)) (fun _ _ _ h => h) (Or.inr ⟨by rfl, rfl⟩) ?_ ?_
           rotate_left
           ·exact ap
           refine pure_ (i := 17) (N := some 44) (v := undef) (a' := ?_) mk13_50 rfl rfl (any_of HT_.out (by kernel_rfl)) (fun _ _ _ h => h) (Or.inr ⟨by rfl, rfl⟩) ?_ ?_
           rotate_left
           ·exact ap
           refine pure_ (i := 18) (N := some 45) (v := undef) (a' := ?_) mk13_52 rfl rfl (any_of HT_.out (by kernel_rfl)) (fun _ _ _ h => h) (Or.inr ⟨by rfl, rfl⟩) ?_ ?_
           rotate_left
           ·exact ap
           refine pure_ (i := 19) (N := some 46) (v := undef) (a' := ?_) mk13_54 rfl rfl (any_of HT_.out (by kernel_rfl)) (fun _ _ _ h => h) (Or.inr ⟨by rfl, rfl⟩) ?_ ?_
           rotate_left
           ·exact ap
           refine pure_ (i := 20) (N := some 47) (v := undef) (a' := ?_) mk13_56 rfl rfl (any_of HT_.out (by kernel_rfl)) (fun _ _ _ h => h) (Or.inr ⟨by rfl, rfl⟩) ?_ ?_
           rotate_left
           ·exact ap
           refine pure_ (i := 21) (N := some 48) (v := undef) (a' := ?_) mk13_58 rfl rfl (any_of HT_.out (by kernel_rfl)) (fun _ _ _ h => h) (Or.inr ⟨by rfl, rfl⟩) ?_ ?_
           rotate_left
           ·exact ap
           refine pz 22 49 mk13_65 (any_of HT_.out (by kernel_rfl)) ?_
           refine pz 23 50 mk13_69 (any_of HT_.out (by kernel_rfl)) ?_
           refine pure_ (i := 24) (N := some 51) (v := undef) (a' := ?_) mk13_71 rfl rfl (any_of HT_.out (by kernel_rfl)) (fun _ _ _ h => h) (Or.inr ⟨by rfl, rfl⟩) ?_ ?_
           rotate_left
           ·exact ap
           refine pure_ (i := 25) (N := some 52) (v := undef) (a' := ?_) mk13_73 rfl rfl (any_of HT_.out (by kernel_rfl)) (fun _ _ _ h => h) (Or.inr ⟨by rfl, rfl⟩) ?_ ?_
           rotate_left
           ·exact ap
           refine pure_ (i := 26) (N := some 53) (v := undef) (a' := ?_) mk13_75 rfl rfl (any_of HT_.out (by kernel_rfl)) (fun _ _ _ h => h) (Or.inr ⟨by rfl, rfl⟩) ?_ ?_
           rotate_left
           ·exact ap
           refine pure_ (i := 27) (N := some 54) (v := undef) (a' := ?_) mk13_77 rfl rfl (any_of HT_.out (by kernel_rfl)) (fun _ _ _ h => h) (Or.inr ⟨by rfl, rfl⟩) ?_ ?_
           rotate_left
           ·exact ap
           refine pure_ (i := 28) (N := some 55) (v := undef) (a' := ?_) mk13_79 rfl rfl (any_of HT_.out (by kernel_rfl)) (fun _ _ _ h => h) (Or.inr ⟨by rfl, rfl⟩) ?_ ?_
           rotate_left
           ·exact ap
           refine pure_ (i := 29) (N := some 56) (v := undef) (a' := ?_) mk13_81 rfl rfl (any_of HT_.out (by kernel_rfl)) (fun _ _ _ h => h) (Or.inr ⟨by rfl, rfl⟩) ?_ ?_
           rotate_left
           ·exact ap
           refine pure_ (i := 30) (N := some 57) (v := undef) (a' := ?_) mk13_83 rfl rfl (any_of HT_.out (by kernel_rfl)) (fun _ _ _ h => h) (Or.inr ⟨by rfl, rfl⟩) ?_ ?_
           rotate_left
           ·exact ap
           refine pure_ (i := 31) (N := some 58) (v := undef) (a' := ?_) mk13_85 rfl rfl (any_of HT_.out (by kernel_rfl)) (fun _ _ _ h => h) (Or.inr ⟨by rfl, rfl⟩) ?_ ?_
           rotate_left
           ·exact ap
           refine pure_ (i := 32) (N := some 59) (v := undef) (a' := ?_) mk13_87 rfl rfl (any_of HT_.out (by kernel_rfl)) (fun _ _ _ h => h) (Or.inr ⟨by rfl, rfl⟩) ?_ ?_
           rotate_left
           ·exact ap
           refine pure_ (i := 33) (N := some 60) (v := undef) (a' := ?_) mk13_89 rfl rfl (any_of HT_.out (by kernel_rfl)) (fun _ _ _ h => h) (Or.inr ⟨by rfl, rfl⟩) ?_ ?_
           rotate_left
           ·exact ap
           refine pure_ (i := 34) (N := some 61) (v := undef) (a' := ?_) mk13_91 rfl rfl (any_of HT_.out (by kernel_rfl)) (fun _ _ _ h => h) (Or.inr ⟨by rfl, rfl⟩) ?_ ?_
           rotate_left
           ·exact ap
           refine pure_ (i := 35) (N := some 62) (v := undef) (a' := ?_) mk13_97 rfl rfl (any_of HT_.out (by kernel_rfl)) (fun _ _ _ h => h) (Or.inr ⟨by rfl, rfl⟩) ?_ ?_
           rotate_left
           ·exact ap
           refine pure_ (i := 36) (N := some 63) (v := undef) (a' := ?_) mk13_99 rfl rfl (any_of HT_.out (by kernel_rfl)) (fun _ _ _ h => h) (Or.inr ⟨by rfl, rfl⟩) ?_ ?_
           rotate_left
           ·exact ap
           refine pure_ (i := 37) (N := some 64) (v := undef) (a' := ?_) mk13_101 rfl rfl (any_of HT_.out (by kernel_rfl)) (fun _ _ _ h => h) (Or.inr ⟨by rfl, rfl⟩) ?_ ?_
           rotate_left
           ·exact ap
           refine pure_ (i := 38) (N := some 65) (v := undef) (a' := ?_) mk13_103 rfl rfl (any_of HT_.out (by kernel_rfl)) (fun _ _ _ h => h) (Or.inr ⟨by rfl, rfl⟩) ?_ ?_
           rotate_left
           ·exact ap
           refine pure_ (i := 39) (N := some 66) (v := undef) (a' := ?_) mk13_105 rfl rfl (any_of HT_.out (by kernel_rfl)) (fun _ _ _ h => h) (Or.inr ⟨by rfl, rfl⟩) ?_ ?_
           rotate_left
           ·exact ap
           refine pure_ (i := 40) (N := some 67) (v := undef) (a' := ?_) mk13_107 rfl rfl (any_of HT_.out (by kernel_rfl)) (fun _ _ _ h => h) (Or.inr ⟨by rfl, rfl⟩) ?_ ?_
           rotate_left
           ·exact ap
           refine pure_ (i := 41) (N := some 68) (v := undef) (a' := ?_) mk13_109 rfl rfl (any_of HT_.out (by kernel_rfl)) (fun _ _ _ h => h) (Or.inr ⟨by rfl, rfl⟩) ?_ ?_
           rotate_left
           ·exact ap
           refine pure_ (i := 42) (N := some 69) (v := undef) (a' := ?_) mk13_111 rfl rfl (any_of HT_.out (by kernel_rfl)) (fun _ _ _ h => h) (Or.inr ⟨by rfl, rfl⟩) ?_ ?_
           rotate_left
           ·exact ap
           refine pz 43 70 mk13_134 (any_of HT_.out (by kernel_rfl)) ?_
           refine done_ (done_of HT_.out (by kernel_rfl)) ?_
           try go_wp2
           go_meet
           case rel => exact ⟨_, (true), u13_4, H', ⟨by have := HK1.out; first | omega | exact Nat.le_refl _⟩, ⟨by (with_reducible repeat (first | apply Kd.R_alloc | apply Kd.R_drewN | apply Kd.R_drew)); exact HO_3.out⟩, ⟨s13_2⟩⟩
         ·rw [if_neg c17] at H
          exact absurd H (by simp)
        ·rw [if_neg c16] at H
         exact absurd H (by simp)
      case rest =>
       clear HC10
       try clear c1
       try clear c2
       try clear p2
       try clear p3
       try clear q3
       try clear hx3
       try clear c16
       try clear c17
       try clear c18
       try clear c18b0
       try clear c18b1
       try clear c25
       try clear c25b0
       try clear c25b1
       try clear hx362_0
       try clear hx362_1
       try clear hx362_2
       try clear hx362_3
       try clear hx362_4
       try clear hx362_5
       try clear hx362_6
       try clear hx362_7
       try clear hx363_0
       try clear hx363_1
       try clear hx363_2
       try clear hx363_3
       try clear hx363_4
       try clear hx363_5
       try clear hx363_6
       try clear hx363_7
       try clear hx367_0
       try clear hx367_1
       try clear hx367_2
       try clear hx367_3
       try clear hx367_4
       try clear hx367_5
       try clear hx367_6
       try clear hx367_7
       try clear p362
       try clear p363
       try clear p367
       try clear q362
       try clear q363
       try clear q367
       obtain ⟨kq, x70_9, rfl, HA, HJ9, HO_3, HB⟩ := hcut
       cases kq with
       | zero => exact absurd HA.out (by simp [laws_FnLines.j1])
       | succ kj9 =>
        have H := HA.out
        clear HA
        simp only [laws_FnLines.j1] at H
        by_cases c29 : x70_9 = true
        ·subst c29
         have H1 : (some false) = some r := by rw [if_pos rfl] at H; exact H
         clear H
         have H := H1
         clear H1
         obtain rfl := Option.some.inj H
         go_wp2
         go_ret
         exact ⟨by first | rfl | (simp [*] <;> rfl), s13_2⟩
        ·replace c29 := Bool.eq_false_iff.mpr c29
         subst c29
         have H1 : (laws_FnLines.l1 kj9 t356 x4_1 0) = some r := by rw [if_neg (show ¬ (false = true) by decide)] at H; exact H
         clear H
         have H := H1
         clear H1
         have H' := am H
         clear H
         go_wp2
         go_loopg [6] kj9 (fun kq v6 w' => ∃ (x6_3 : Int), v6 = .int .i64 x6_3 ∧ Aside0 (laws_FnLines.l1 kq t356 x4_1 x6_3 = some r) ∧ Aside0 (kq ≤ kj9) ∧ Aside0 (Kd.R k30 30 w' w.heap.size (fun _ => True) (.slice (some ad359) t356.length co11) t356) ∧ Aside0 (Below w.heap.size w w'))
         case atStart => exact ⟨(0), u13_4, H', ⟨Nat.le_refl _⟩, ⟨by (with_reducible repeat (first | apply Kd.R_alloc | apply Kd.R_drewN | apply Kd.R_drew)); exact HO_3.out⟩, ⟨s13_2⟩⟩
         case round =>
          clear H'
          try clear c1
          try clear c2
          try clear p2
          try clear p3
          try clear q3
          try clear hx3
          try clear c16
          try clear c17
          try clear c18
          try clear c18b0
          try clear c18b1
          try clear c25
          try clear c25b0
          try clear c25b1
          try clear c29
          try clear hx362_0
          try clear hx362_1
          try clear hx362_2
          try clear hx362_3
          try clear hx362_4
          try clear hx362_5
          try clear hx362_6
          try clear hx362_7
          try clear hx363_0
          try clear hx363_1
          try clear hx363_2
          try clear hx363_3
          try clear hx363_4
          try clear hx363_5
          try clear hx363_6
          try clear hx363_7
          try clear hx367_0
          try clear hx367_1
          try clear hx367_2
          try clear hx367_3
          try clear hx367_4
          try clear hx367_5
          try clear hx367_6
          try clear hx367_7
          try clear p2
          try clear p3
          try clear p362
          try clear p363
          try clear p367
          try clear q3
          try clear q362
          try clear q363
          try clear q367
          obtain ⟨x6_3, rfl, HA, HK3, HO_3, HB⟩ := hrel
          cases gk with
          | zero => exact absurd HA.out (by simp [laws_FnLines.l1])
          | succ k3 =>
           have H := HA.out
           clear HA
           simp only [laws_FnLines.l1] at H
           by_cases c30 : x6_3 < (t356.length : Int)
           ·rw [if_pos c30] at H
            have c30b0 : decide (x6_3 < (t356.length : Int)) = true := decide_eq_true c30
            clear c30
            by_cases c31 : 0 ≤ x4_1
            ·rw [if_pos c31] at H
             have c31b0 : decide (0 ≤ x4_1) = true := decide_eq_true c31
             clear c31
             by_cases c32 : x4_1 < (t356.length : Int)
             ·rw [if_pos c32] at H
              have c32b0 : decide (x4_1 < (t356.length : Int)) = true := decide_eq_true c32
              clear c32
              by_cases c33 : 0 ≤ x6_3
              ·rw [if_pos c33] at H
               have c33b0 : decide (0 ≤ x6_3) = true := decide_eq_true c33
               clear c33
               replace H := Option.bind_eq_some_iff.mp H
               obtain ⟨t372, A340, H⟩ := H
               replace H : ((impl_SameLine.f k3 t356 ((rd_T30 t356 x6_3).f0) ((rd_T30 t356 x4_1).f0)).bind fun t375 => (if (t372 != t375) = true then (some false) else (if t372 = true then ((impl_PumpOf.f k3 t356 ((rd_T30 t356 x4_1).f0)).bind fun t377 => ((impl_PumpOf.f k3 t356 ((rd_T30 t356 x6_3).f0)).bind fun t379 => (if t377.toList = t379.toList then (if ((rd_T30 t356 x4_1).f2).toList = ([] : List UInt8) then (if (t372 != false) = true then (some false) else (laws_FnLines.l1 k3 t356 x4_1 (wrap64 (x6_3 + 1)))) else ((impl_OnLine.f k3 t356 ((rd_T30 t356 x4_1).f2)).bind fun t382 => ((laws_has.f k3 t382 ((rd_T30 t356 x6_3).f0)).bind fun t386 => (if (t372 != t386) = true then (some false) else (laws_FnLines.l1 k3 t356 x4_1 (wrap64 (x6_3 + 1))))))) else (some false)))) else (if ((rd_T30 t356 x4_1).f2).toList = ([] : List UInt8) then (if (t372 != false) = true then (some false) else (laws_FnLines.l1 k3 t356 x4_1 (wrap64 (x6_3 + 1)))) else ((impl_OnLine.f k3 t356 ((rd_T30 t356 x4_1).f2)).bind fun t389 => ((laws_has.f k3 t389 ((rd_T30 t356 x6_3).f0)).bind fun t393 => (if (t372 != t393) = true then (some false) else (laws_FnLines.l1 k3 t356 x4_1 (wrap64 (x6_3 + 1)))))))))) = some r := H
               have A34 := am A340
               clear A340
               replace H := Option.bind_eq_some_iff.mp H
               obtain ⟨t375, A350, H⟩ := H
               replace H : (if (t372 != t375) = true then (some false) else (if t372 = true then ((impl_PumpOf.f k3 t356 ((rd_T30 t356 x4_1).f0)).bind fun t377 => ((impl_PumpOf.f k3 t356 ((rd_T30 t356 x6_3).f0)).bind fun t379 => (if t377.toList = t379.toList then (if ((rd_T30 t356 x4_1).f2).toList = ([] : List UInt8) then (if (t372 != false) = true then (some false) else (laws_FnLines.l1 k3 t356 x4_1 (wrap64 (x6_3 + 1)))) else ((impl_OnLine.f k3 t356 ((rd_T30 t356 x4_1).f2)).bind fun t382 => ((laws_has.f k3 t382 ((rd_T30 t356 x6_3).f0)).bind fun t386 => (if (t372 != t386) = true then (some false) else (laws_FnLines.l1 k3 t356 x4_1 (wrap64 (x6_3 + 1))))))) else (some false)))) else (if ((rd_T30 t356 x4_1).f2).toList = ([] : List UInt8) then (if (t372 != false) = true then (some false) else (laws_FnLines.l1 k3 t356 x4_1 (wrap64 (x6_3 + 1)))) else ((impl_OnLine.f k3 t356 ((rd_T30 t356 x4_1).f2)).bind fun t389 => ((laws_has.f k3 t389 ((rd_T30 t356 x6_3).f0)).bind fun t393 => (if (t372 != t393) = true then (some false) else (laws_FnLines.l1 k3 t356 x4_1 (wrap64 (x6_3 + 1))))))))) = some r := H
               have A35 := am A350
               clear A350
               by_cases c36 : (t372 != t375) = true
               ·rw [if_pos c36] at H
                have c36b0 : (t372 != t375) = true := c36
                (try (have c36b1 : decide (t372 = t375) = false := by simpa using c36))
                (try (have c36b2 : (t372 == t375) = false := by simpa using c36))
                (try (have c36b3 : ¬ (t372 = t375) := by simpa using c36))
                clear c36
                obtain rfl := Option.some.inj H
                try go_wp2
                have n0_ := am (Kd.R_drew HO_3.out)
                have n1_ := am (below_drew1 HB.out)
                clear HO_3 HB
                have HO_3 := n0_
                have HB := n1_
                clear n0_ n1_
                have p370 : 0 ≤ (x4_1 : Int) := od u13_3
                have q370 : x4_1 < (t356.length : Int) := od u13_3
                obtain ⟨ad370, e370, hx370_0, hx370_1, hx370_2, hx370_3, hx370_4, hx370_5, hx370_6, hx370_7⟩ := at_T30 (Kd.R_reads' HO_3.out).2.2 x4_1 p370 q370
                obtain rfl : ad359 = ad370 := (by injection e370)
                replace p370 := eq_true p370
                replace q370 := eq_true q370
                have p371 : 0 ≤ (x6_3 : Int) := od u13_3
                have q371 : x6_3 < (t356.length : Int) := od u13_3
                obtain ⟨ad371, e371, hx371_0, hx371_1, hx371_2, hx371_3, hx371_4, hx371_5, hx371_6, hx371_7⟩ := at_T30 (Kd.R_reads' HO_3.out).2.2 x6_3 p371 q371
                obtain rfl : ad359 = ad371 := (by injection e371)
                replace p371 := eq_true p371
                replace q371 := eq_true q371
                as_aux_lemma => exact lf13_0
               ·rw [if_neg c36] at H
                have c36b0 : (t372 != t375) = false := by simpa using c36
                (try (have c36b1 : decide (t372 = t375) = true := by simpa using c36))
                (try (have c36b2 : (t372 == t375) = true := by simpa using c36))
                clear c36
                by_cases c41 : t372 = true
                ·subst c41
                 have H1 : ((impl_PumpOf.f k3 t356 ((rd_T30 t356 x4_1).f0)).bind fun t377 => ((impl_PumpOf.f k3 t356 ((rd_T30 t356 x6_3).f0)).bind fun t379 => (if t377.toList = t379.toList then (if ((rd_T30 t356 x4_1).f2).toList = ([] : List UInt8) then (if (true != false) = true then (some false) else (laws_FnLines.l1 k3 t356 x4_1 (wrap64 (x6_3 + 1)))) else ((impl_OnLine.f k3 t356 ((rd_T30 t356 x4_1).f2)).bind fun t382 => ((laws_has.f k3 t382 ((rd_T30 t356 x6_3).f0)).bind fun t386 => (if (true != t386) = true then (some false) else (laws_FnLines.l1 k3 t356 x4_1 (wrap64 (x6_3 + 1))))))) else (some false)))) = some r := by rw [if_pos rfl] at H; exact H
                 clear H
                 have H := H1
                 clear H1
                 replace H := Option.bind_eq_some_iff.mp H
                 obtain ⟨t377, A420, H⟩ := H
                 replace H : ((impl_PumpOf.f k3 t356 ((rd_T30 t356 x6_3).f0)).bind fun t379 => (if t377.toList = t379.toList then (if ((rd_T30 t356 x4_1).f2).toList = ([] : List UInt8) then (if (true != false) = true then (some false) else (laws_FnLines.l1 k3 t356 x4_1 (wrap64 (x6_3 + 1)))) else ((impl_OnLine.f k3 t356 ((rd_T30 t356 x4_1).f2)).bind fun t382 => ((laws_has.f k3 t382 ((rd_T30 t356 x6_3).f0)).bind fun t386 => (if (true != t386) = true then (some false) else (laws_FnLines.l1 k3 t356 x4_1 (wrap64 (x6_3 + 1))))))) else (some false))) = some r := H
                 have A42 := am A420
                 clear A420
                 replace H := Option.bind_eq_some_iff.mp H
                 obtain ⟨t379, A430, H⟩ := H
                 replace H : (if t377.toList = t379.toList then (if ((rd_T30 t356 x4_1).f2).toList = ([] : List UInt8) then (if (true != false) = true then (some false) else (laws_FnLines.l1 k3 t356 x4_1 (wrap64 (x6_3 + 1)))) else ((impl_OnLine.f k3 t356 ((rd_T30 t356 x4_1).f2)).bind fun t382 => ((laws_has.f k3 t382 ((rd_T30 t356 x6_3).f0)).bind fun t386 => (if (true != t386) = true then (some false) else (laws_FnLines.l1 k3 t356 x4_1 (wrap64 (x6_3 + 1))))))) else (some false)) = some r := H
                 have A43 := am A430
                 clear A430
                 by_cases c44 : t377.toList = t379.toList
                 ·rw [if_pos c44] at H
                  have c44b0 : (t377.toList == t379.toList) = true := beq_iff_eq.mpr c44
                  have c44b1 : (t377.toList != t379.toList) = false := bne_eq_false_iff_eq.mpr c44
                  clear c44
                  by_cases c45 : ((rd_T30 t356 x4_1).f2).toList = ([] : List UInt8)
                  ·rw [if_pos c45] at H
                   have c45b0 : (((rd_T30 t356 x4_1).f2).toList == ([] : List UInt8)) = true := beq_iff_eq.mpr c45
                   have c45b1 : (((rd_T30 t356 x4_1).f2).toList != ([] : List UInt8)) = false := bne_eq_false_iff_eq.mpr c45
                   clear c45
                   by_cases c46 : (true != false) = true
                   ·rw [if_pos c46] at H
                    have c46b0 : (true != false) = true := c46
                    (try (have c46b1 : decide (true = false) = false := by simpa using c46))
                    (try (have c46b2 : (true == false) = false := by simpa using c46))
                    (try (have c46b3 : ¬ (true = false) := by simpa using c46))
                    clear c46
                    obtain rfl := Option.some.inj H
                    try go_wp2
                    have n0_ := am (Kd.R_drew HO_3.out)
                    have n1_ := am (below_drew1 HB.out)
                    clear HO_3 HB
                    have HO_3 := n0_
                    have HB := n1_
                    clear n0_ n1_
                    have p370 : 0 ≤ (x4_1 : Int) := od u13_3
                    have q370 : x4_1 < (t356.length : Int) := od u13_3
                    obtain ⟨ad370, e370, hx370_0, hx370_1, hx370_2, hx370_3, hx370_4, hx370_5, hx370_6, hx370_7⟩ := at_T30 (Kd.R_reads' HO_3.out).2.2 x4_1 p370 q370
                    obtain rfl : ad359 = ad370 := (by injection e370)
                    replace p370 := eq_true p370
                    replace q370 := eq_true q370
                    have p371 : 0 ≤ (x6_3 : Int) := od u13_3
                    have q371 : x6_3 < (t356.length : Int) := od u13_3
                    obtain ⟨ad371, e371, hx371_0, hx371_1, hx371_2, hx371_3, hx371_4, hx371_5, hx371_6, hx371_7⟩ := at_T30 (Kd.R_reads' HO_3.out).2.2 x6_3 p371 q371
                    obtain rfl : ad359 = ad371 := (by injection e371)
                    replace p371 := eq_true p371
                    replace q371 := eq_true q371
                    as_aux_lemma => exact lf13_1
                   ·rw [if_neg c46] at H
                    have c46b0 : (true != false) = false := by simpa using c46
                    (try (have c46b1 : decide (true = false) = true := by simpa using c46))
                    (try (have c46b2 : (true == false) = true := by simpa using c46))
                    clear c46
                    have H' := am H
                    clear H
                    try go_wp2
                    have n0_ := am (Kd.R_drew HO_3.out)
                    have n1_ := am (below_drew1 HB.out)
                    clear HO_3 HB
                    have HO_3 := n0_
                    have HB := n1_
                    clear n0_ n1_
                    have p370 : 0 ≤ (x4_1 : Int) := od u13_3
                    have q370 : x4_1 < (t356.length : Int) := od u13_3
                    obtain ⟨ad370, e370, hx370_0, hx370_1, hx370_2, hx370_3, hx370_4, hx370_5, hx370_6, hx370_7⟩ := at_T30 (Kd.R_reads' HO_3.out).2.2 x4_1 p370 q370
                    obtain rfl : ad359 = ad370 := (by injection e370)
                    replace p370 := eq_true p370
                    replace q370 := eq_true q370
                    have p371 : 0 ≤ (x6_3 : Int) := od u13_3
                    have q371 : x6_3 < (t356.length : Int) := od u13_3
                    obtain ⟨ad371, e371, hx371_0, hx371_1, hx371_2, hx371_3, hx371_4, hx371_5, hx371_6, hx371_7⟩ := at_T30 (Kd.R_reads' HO_3.out).2.2 x6_3 p371 q371
                    obtain rfl : ad359 = ad371 := (by injection e371)
                    replace p371 := eq_true p371
                    replace q371 := eq_true q371
                    as_aux_lemma => exact lf13_2
                  ·rw [if_neg c45] at H
                   have c45b0 : (((rd_T30 t356 x4_1).f2).toList == ([] : List UInt8)) = false := beq_eq_false_iff_ne.mpr c45
                   have c45b1 : (((rd_T30 t356 x4_1).f2).toList != ([] : List UInt8)) = true := bne_iff_ne.mpr c45
                   replace H := Option.bind_eq_some_iff.mp H
                   obtain ⟨t382, A590, H⟩ := H
                   replace H : ((laws_has.f k3 t382 ((rd_T30 t356 x6_3).f0)).bind fun t386 => (if (true != t386) = true then (some false) else (laws_FnLines.l1 k3 t356 x4_1 (wrap64 (x6_3 + 1))))) = some r := H
                   have A59 := am A590
                   clear A590
                   replace H := Option.bind_eq_some_iff.mp H
                   obtain ⟨t386, A600, H⟩ := H
                   replace H : (if (true != t386) = true then (some false) else (laws_FnLines.l1 k3 t356 x4_1 (wrap64 (x6_3 + 1)))) = some r := H
                   have A60 := am A600
                   clear A600
                   by_cases c61 : (true != t386) = true
                   ·rw [if_pos c61] at H
                    have c61b0 : (true != t386) = true := c61
                    (try (have c61b1 : decide (true = t386) = false := by simpa using c61))
                    (try (have c61b2 : (true == t386) = false := by simpa using c61))
                    (try (have c61b3 : ¬ (true = t386) := by simpa using c61))
                    clear c61
                    obtain rfl := Option.some.inj H
                    try go_wp2
                    have n0_ := am (Kd.R_drew HO_3.out)
                    have n1_ := am (below_drew1 HB.out)
                    clear HO_3 HB
                    have HO_3 := n0_
                    have HB := n1_
                    clear n0_ n1_
                    have p370 : 0 ≤ (x4_1 : Int) := od u13_3
                    have q370 : x4_1 < (t356.length : Int) := od u13_3
                    obtain ⟨ad370, e370, hx370_0, hx370_1, hx370_2, hx370_3, hx370_4, hx370_5, hx370_6, hx370_7⟩ := at_T30 (Kd.R_reads' HO_3.out).2.2 x4_1 p370 q370
                    obtain rfl : ad359 = ad370 := (by injection e370)
                    replace p370 := eq_true p370
                    replace q370 := eq_true q370
                    have p371 : 0 ≤ (x6_3 : Int) := od u13_3
                    have q371 : x6_3 < (t356.length : Int) := od u13_3
                    obtain ⟨ad371, e371, hx371_0, hx371_1, hx371_2, hx371_3, hx371_4, hx371_5, hx371_6, hx371_7⟩ := at_T30 (Kd.R_reads' HO_3.out).2.2 x6_3 p371 q371
                    obtain rfl : ad359 = ad371 := (by injection e371)
                    replace p371 := eq_true p371
                    replace q371 := eq_true q371
                    as_aux_lemma => exact lf13_3
                   ·rw [if_neg c61] at H
                    have c61b0 : (true != t386) = false := by simpa using c61
                    (try (have c61b1 : decide (true = t386) = true := by simpa using c61))
                    (try (have c61b2 : (true == t386) = true := by simpa using c61))
                    clear c61
                    have H' := am H
                    clear H
                    try go_wp2
                    have n0_ := am (Kd.R_drew HO_3.out)
                    have n1_ := am (below_drew1 HB.out)
                    clear HO_3 HB
                    have HO_3 := n0_
                    have HB := n1_
                    clear n0_ n1_
                    have p370 : 0 ≤ (x4_1 : Int) := od u13_3
                    have q370 : x4_1 < (t356.length : Int) := od u13_3
                    obtain ⟨ad370, e370, hx370_0, hx370_1, hx370_2, hx370_3, hx370_4, hx370_5, hx370_6, hx370_7⟩ := at_T30 (Kd.R_reads' HO_3.out).2.2 x4_1 p370 q370
                    obtain rfl : ad359 = ad370 := (by injection e370)
                    replace p370 := eq_true p370
                    replace q370 := eq_true q370
                    have p371 : 0 ≤ (x6_3 : Int) := od u13_3
                    have q371 : x6_3 < (t356.length : Int) := od u13_3
                    obtain ⟨ad371, e371, hx371_0, hx371_1, hx371_2, hx371_3, hx371_4, hx371_5, hx371_6, hx371_7⟩ := at_T30 (Kd.R_reads' HO_3.out).2.2 x6_3 p371 q371
                    obtain rfl : ad359 = ad371 := (by injection e371)
                    replace p371 := eq_true p371
                    replace q371 := eq_true q371
                    as_aux_lemma => exact lf13_4
                 ·rw [if_neg c44] at H
                  have c44b0 : (t377.toList == t379.toList) = false := beq_eq_false_iff_ne.mpr c44
                  have c44b1 : (t377.toList != t379.toList) = true := bne_iff_ne.mpr c44
                  obtain rfl := Option.some.inj H
                  try go_wp2
                  have n0_ := am (Kd.R_drew HO_3.out)
                  have n1_ := am (below_drew1 HB.out)
                  clear HO_3 HB
                  have HO_3 := n0_
                  have HB := n1_
                  clear n0_ n1_
                  have p370 : 0 ≤ (x4_1 : Int) := od u13_3
                  have q370 : x4_1 < (t356.length : Int) := od u13_3
                  obtain ⟨ad370, e370, hx370_0, hx370_1, hx370_2, hx370_3, hx370_4, hx370_5, hx370_6, hx370_7⟩ := at_T30 (Kd.R_reads' HO_3.out).2.2 x4_1 p370 q370
                  obtain rfl : ad359 = ad370 := (by injection e370)
                  replace p370 := eq_true p370
                  replace q370 := eq_true q370
                  have p371 : 0 ≤ (x6_3 : Int) := od u13_3
                  have q371 : x6_3 < (t356.length : Int) := od u13_3
                  obtain ⟨ad371, e371, hx371_0, hx371_1, hx371_2, hx371_3, hx371_4, hx371_5, hx371_6, hx371_7⟩ := at_T30 (Kd.R_reads' HO_3.out).2.2 x6_3 p371 q371
                  obtain rfl : ad359 = ad371 := (by injection e371)
                  replace p371 := eq_true p371
                  replace q371 := eq_true q371
                  as_aux_lemma => exact lf13_5
                ·replace c41 := Bool.eq_false_iff.mpr c41
                 subst c41
                 have H1 : (if ((rd_T30 t356 x4_1).f2).toList = ([] : List UInt8) then (if (false != false) = true then (some false) else (laws_FnLines.l1 k3 t356 x4_1 (wrap64 (x6_3 + 1)))) else ((impl_OnLine.f k3 t356 ((rd_T30 t356 x4_1).f2)).bind fun t389 => ((laws_has.f k3 t389 ((rd_T30 t356 x6_3).f0)).bind fun t393 => (if (false != t393) = true then (some false) else (laws_FnLines.l1 k3 t356 x4_1 (wrap64 (x6_3 + 1))))))) = some r := by rw [if_neg (show ¬ (false = true) by decide)] at H; exact H
                 clear H
                 have H := H1
                 clear H1
                 by_cases c84 : ((rd_T30 t356 x4_1).f2).toList = ([] : List UInt8)
                 ·rw [if_pos c84] at H
                  have c84b0 : (((rd_T30 t356 x4_1).f2).toList == ([] : List UInt8)) = true := beq_iff_eq.mpr c84
                  have c84b1 : (((rd_T30 t356 x4_1).f2).toList != ([] : List UInt8)) = false := bne_eq_false_iff_eq.mpr c84
                  clear c84
                  by_cases c85 : (false != false) = true
                  ·exact absurd c85 (by decide)
                  ·rw [if_neg c85] at H
                   have c85b0 : (false != false) = false := by simpa using c85
                   (try (have c85b1 : decide (false = false) = true := by simpa using c85))
                   (try (have c85b2 : (false == false) = true := by simpa using c85))
                   clear c85
                   have H' := am H
                   clear H
                   try go_wp2
                   have n0_ := am (Kd.R_drew HO_3.out)
                   have n1_ := am (below_drew1 HB.out)
                   clear HO_3 HB
                   have HO_3 := n0_
                   have HB := n1_
                   clear n0_ n1_
                   have p370 : 0 ≤ (x4_1 : Int) := od u13_3
                   have q370 : x4_1 < (t356.length : Int) := od u13_3
                   obtain ⟨ad370, e370, hx370_0, hx370_1, hx370_2, hx370_3, hx370_4, hx370_5, hx370_6, hx370_7⟩ := at_T30 (Kd.R_reads' HO_3.out).2.2 x4_1 p370 q370
                   obtain rfl : ad359 = ad370 := (by injection e370)
                   replace p370 := eq_true p370
                   replace q370 := eq_true q370
                   have p371 : 0 ≤ (x6_3 : Int) := od u13_3
                   have q371 : x6_3 < (t356.length : Int) := od u13_3
                   obtain ⟨ad371, e371, hx371_0, hx371_1, hx371_2, hx371_3, hx371_4, hx371_5, hx371_6, hx371_7⟩ := at_T30 (Kd.R_reads' HO_3.out).2.2 x6_3 p371 q371
                   obtain rfl : ad359 = ad371 := (by injection e371)
                   replace p371 := eq_true p371
                   replace q371 := eq_true q371
                   as_aux_lemma => exact lf13_7
                 ·rw [if_neg c84] at H
                  have c84b0 : (((rd_T30 t356 x4_1).f2).toList == ([] : List UInt8)) = false := beq_eq_false_iff_ne.mpr c84
                  have c84b1 : (((rd_T30 t356 x4_1).f2).toList != ([] : List UInt8)) = true := bne_iff_ne.mpr c84
                  replace H := Option.bind_eq_some_iff.mp H
                  obtain ⟨t389, A940, H⟩ := H
                  replace H : ((laws_has.f k3 t389 ((rd_T30 t356 x6_3).f0)).bind fun t393 => (if (false != t393) = true then (some false) else (laws_FnLines.l1 k3 t356 x4_1 (wrap64 (x6_3 + 1))))) = some r := H
                  have A94 := am A940
                  clear A940
                  replace H := Option.bind_eq_some_iff.mp H
                  obtain ⟨t393, A950, H⟩ := H
                  replace H : (if (false != t393) = true then (some false) else (laws_FnLines.l1 k3 t356 x4_1 (wrap64 (x6_3 + 1)))) = some r := H
                  have A95 := am A950
                  clear A950
                  by_cases c96 : (false != t393) = true
                  ·rw [if_pos c96] at H
                   have c96b0 : (false != t393) = true := c96
                   (try (have c96b1 : decide (false = t393) = false := by simpa using c96))
                   (try (have c96b2 : (false == t393) = false := by simpa using c96))
                   (try (have c96b3 : ¬ (false = t393) := by simpa using c96))
                   clear c96
                   obtain rfl := Option.some.inj H
                   try go_wp2
                   have n0_ := am (Kd.R_drew HO_3.out)
                   have n1_ := am (below_drew1 HB.out)
                   clear HO_3 HB
                   have HO_3 := n0_
                   have HB := n1_
                   clear n0_ n1_
                   have p370 : 0 ≤ (x4_1 : Int) := od u13_3
                   have q370 : x4_1 < (t356.length : Int) := od u13_3
                   obtain ⟨ad370, e370, hx370_0, hx370_1, hx370_2, hx370_3, hx370_4, hx370_5, hx370_6, hx370_7⟩ := at_T30 (Kd.R_reads' HO_3.out).2.2 x4_1 p370 q370
                   obtain rfl : ad359 = ad370 := (by injection e370)
                   replace p370 := eq_true p370
                   replace q370 := eq_true q370
                   have p371 : 0 ≤ (x6_3 : Int) := od u13_3
                   have q371 : x6_3 < (t356.length : Int) := od u13_3
                   obtain ⟨ad371, e371, hx371_0, hx371_1, hx371_2, hx371_3, hx371_4, hx371_5, hx371_6, hx371_7⟩ := at_T30 (Kd.R_reads' HO_3.out).2.2 x6_3 p371 q371
                   obtain rfl : ad359 = ad371 := (by injection e371)
                   replace p371 := eq_true p371
                   replace q371 := eq_true q371
                   as_aux_lemma => exact lf13_8
                  ·rw [if_neg c96] at H
                   have c96b0 : (false != t393) = false := by simpa using c96
                   (try (have c96b1 : decide (false = t393) = true := by simpa using c96))
                   (try (have c96b2 : (false == t393) = true := by simpa using c96))
                   clear c96
                   have H' := am H
                   clear H
                   try go_wp2
                   have n0_ := am (Kd.R_drew HO_3.out)
                   have n1_ := am (below_drew1 HB.out)
                   clear HO_3 HB
                   have HO_3 := n0_
                   have HB := n1_
                   clear n0_ n1_
                   have p370 : 0 ≤ (x4_1 : Int) := od u13_3
                   have q370 : x4_1 < (t356.length : Int) := od u13_3
                   obtain ⟨ad370, e370, hx370_0, hx370_1, hx370_2, hx370_3, hx370_4, hx370_5, hx370_6, hx370_7⟩ := at_T30 (Kd.R_reads' HO_3.out).2.2 x4_1 p370 q370
                   obtain rfl : ad359 = ad370 := (by injection e370)
                   replace p370 := eq_true p370
                   replace q370 := eq_true q370
                   have p371 : 0 ≤ (x6_3 : Int) := od u13_3
                   have q371 : x6_3 < (t356.length : Int) := od u13_3
                   obtain ⟨ad371, e371, hx371_0, hx371_1, hx371_2, hx371_3, hx371_4, hx371_5, hx371_6, hx371_7⟩ := at_T30 (Kd.R_reads' HO_3.out).2.2 x6_3 p371 q371
                   obtain rfl : ad359 = ad371 := (by injection e371)
                   replace p371 := eq_true p371
                   replace q371 := eq_true q371
                   as_aux_lemma => exact lf13_9
              ·rw [if_neg c33] at H
               exact absurd H (by simp)
             ·rw [if_neg c32] at H
              exact absurd H (by simp)
            ·rw [if_neg c31] at H
             exact absurd H (by simp)
           ·rw [if_neg c30] at H
            have c30b0 : decide (x6_3 < (t356.length : Int)) = false := decide_eq_false c30
            clear c30
            have H' := am H
            clear H
            go_wp2
            go_roundg k3
            case measure => have := HK1.out; have := HJ9.out; have := HK3.out; omega
            case rel => exact ⟨(wrap64 (x4_1 + 1)), u13_4, H', ⟨by have := HK1.out; have := HJ9.out; have := HK3.out; omega⟩, ⟨by (with_reducible repeat (first | apply Kd.R_alloc | apply Kd.R_drewN | apply Kd.R_drew)); exact HO_3.out⟩, ⟨s13_2⟩⟩
     ·rw [if_neg c7] at H
      exact absurd H (by simp)
    ·rw [if_neg c6] at H
     have c6b0 : decide (x4_1 < (t356.length : Int)) = false := decide_eq_false c6
     clear c6
     obtain rfl := Option.some.inj H
     obtain ⟨Ao109, co109, eo109⟩ := Kd.R_slice HO_3.out
     subst eo109
     go_wp2
     go_ret
     exact ⟨by first | rfl | (simp [*] <;> rfl), s13_2⟩

end Go.Proofs.Ytkedcokhcgklpaa.MFnLines
