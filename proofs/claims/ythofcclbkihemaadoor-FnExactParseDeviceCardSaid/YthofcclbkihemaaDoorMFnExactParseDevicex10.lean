-- Written by a program for this claim.
import Derived.Test.YthofcclbkihemaaDoorMFnExactParseDevicex0
import Derived.Test.YthofcclbkihemaaDoorMFnExactParseDevicex8
import Derived.Test.YthofcclbkihemaaDoorMFnExactParseDevicex9
namespace Go.Proofs.YthofcclbkihemaaDoor.MFnExactParseDevice
open Go.RowKit Go.Proofs.YthofcclbkihemaaDoorW.PrintWords Go.Proofs.YthofcclbkihemaaDoorW.PrintLast Go.Proofs.YthofcclbkihemaaDoorW.PrintMore
attribute [local go_sem] max2_int min2_int max_two min_two max_three min_three max_four min_four
set_option linter.unusedVariables false
set_option linter.unusedSimpArgs false
set_option maxHeartbeats 8000000
set_option maxRecDepth 100000

theorem s10_0 {p : Prop} (h : p := by repeat (first | (with_reducible first | exact HB.out | apply below_alloc | apply pw_below_drewN | apply below_drew1 | refine below_set ?_ GE252.out) | exact HB.out)) : p := h
theorem s10_1 {p : Prop} (h : p := by repeat (first | (with_reducible first | exact HB.out | apply below_alloc | apply pw_below_drewN | apply below_drew1) | exact HB.out)) : p := h
abbrev mk10_0 : Array Bool := #[false, false, false, false, false, false, false, false, false, false, false, false]
abbrev mk10_1 : Array Bool := #[true, false, false, false, false, false, false, false, false, false, false, false]
abbrev mk10_2 : Array Bool := #[true, true, false, false, false, false, false, false, false, false, false, false]
abbrev mk10_3 : Array Bool := #[true, true, false, false, false, false, true, false, false, false, false, false]
theorem u10_0 {p : Prop} (h : p := by repeat (first | (with_reducible first | exact HB.out | apply below_alloc | apply pw_below_drewN | apply below_drew1) | exact HB.out)) : p := h
theorem u10_1 {p : Prop} (h : p := by repeat (first | (with_reducible first | exact HB.out | apply below_alloc | apply pw_below_drewN | apply below_drew1 | refine below_set ?_ GE252.out) | exact HB.out)) : p := h
theorem u10_2 {p : Prop} (h : p := by (try simp only [List.map_toArray, List.map_cons, List.map_nil]); first | done | rfl) : p := h
theorem u10_3 {p : Prop} (h : p := by first | exact t2_ | (have t3_ := t2_; change 0 + _ ≤ _ at t3_; rwa [Nat.zero_add] at t3_) | (change (0 + _) + _ ≤ _ at t2_; rwa [Nat.zero_add] at t2_)) : p := h
theorem u10_4 {p : Prop} (h : p := by exact bd BK252.out) : p := h
theorem u10_5 {p : Prop} (h : p := by first | (simp only [List.map_toArray, List.map_cons, List.map_nil, Act.eval, Array.getD_eq_getD_getElem?, Option.getD_some, e14]; done) | (simp only [List.map_toArray, List.map_cons, List.map_nil, Act.eval, Array.getD_eq_getD_getElem?, Option.getD_some, e14]; rfl)) : p := h
/-! ### spec_FormatMeasure: function 67 -/
def spec_FormatMeasure.f (k : Nat) (a0 : Int) : Option (ByteArray) := (spec_IsMeasure.f a0).bind fun t241 => (if t241 = true then (if a0 < 0 then ((spec_FormatNumber.f k (wrap64 (Int.tdiv (wrap64 (-a0)) 8))).bind fun t242 => (if 1 + t242.size ≤ 9223372036854775807 then ((some (([(⟨#[]⟩ : ByteArray), (⟨#[46, 49, 50, 53]⟩ : ByteArray), (⟨#[46, 50, 53]⟩ : ByteArray), (⟨#[46, 51, 55, 53]⟩ : ByteArray), (⟨#[46, 53]⟩ : ByteArray), (⟨#[46, 54, 50, 53]⟩ : ByteArray), (⟨#[46, 55, 53]⟩ : ByteArray), (⟨#[46, 56, 55, 53]⟩ : ByteArray)] : List ByteArray) : List ByteArray)).bind fun y243 => (if 0 ≤ (Int.tmod (wrap64 (-a0)) 8) then (if (Int.tmod (wrap64 (-a0)) 8) < (y243.length : Int) then (if ((⟨#[45]⟩ : ByteArray) ++ t242).size + (rdOf ByteArray.empty y243 (Int.tmod (wrap64 (-a0)) 8)).size ≤ 9223372036854775807 then (some (((⟨#[45]⟩ : ByteArray) ++ t242) ++ (rdOf ByteArray.empty y243 (Int.tmod (wrap64 (-a0)) 8)))) else (none)) else (none)) else (none))) else (none))) else ((spec_FormatNumber.f k (wrap64 (Int.tdiv a0 8))).bind fun t247 => (if 0 + t247.size ≤ 9223372036854775807 then ((some (([(⟨#[]⟩ : ByteArray), (⟨#[46, 49, 50, 53]⟩ : ByteArray), (⟨#[46, 50, 53]⟩ : ByteArray), (⟨#[46, 51, 55, 53]⟩ : ByteArray), (⟨#[46, 53]⟩ : ByteArray), (⟨#[46, 54, 50, 53]⟩ : ByteArray), (⟨#[46, 55, 53]⟩ : ByteArray), (⟨#[46, 56, 55, 53]⟩ : ByteArray)] : List ByteArray) : List ByteArray)).bind fun y248 => (if 0 ≤ (Int.tmod a0 8) then (if (Int.tmod a0 8) < (y248.length : Int) then (if ((⟨#[]⟩ : ByteArray) ++ t247).size + (rdOf ByteArray.empty y248 (Int.tmod a0 8)).size ≤ 9223372036854775807 then (some (((⟨#[]⟩ : ByteArray) ++ t247) ++ (rdOf ByteArray.empty y248 (Int.tmod a0 8)))) else (none)) else (none)) else (none))) else (none)))) else (some (⟨#[]⟩ : ByteArray)))
theorem spec_FormatMeasure.mono : ∀ a0 k, LeO (spec_FormatMeasure.f k a0) (spec_FormatMeasure.f (k + 1) a0) := by
 intro a0 k
 unfold spec_FormatMeasure.f
 repeat' first
   | (with_reducible exact spec_FormatNumber.mono _ _)
   | (with_reducible exact LeO.refl _)
   | (with_reducible exact LeO.none _)
   | (with_reducible refine LeO.ite ?_ ?_)
   | (with_reducible refine LeO.bind ?_ (fun _ => ?_))
def spec_FormatMeasure.T7 : Bool × List (List Nat × List Nat) := (true, [([], []), ([], []), ([1], [1]), ([2], [2]), ([0, 3], [0, 3]), ([], []), ([], []), ([6], [6]), ([5, 7], [5, 7]), ([8], [8]), ([4, 9], [4, 9]), ([10, 3, 0, 1, 2, 3, 4, 5, 6, 7, 8, 9, 10], [10])])
def spec_FormatMeasure.B7 : List Nat := [0, 0, 2, 6, 15, 0, 0, 64, 224, 480, 1023, 2047]
theorem spec_FormatMeasure.tab7 : rtab .any (opsOf Tryd.f67 7) = spec_FormatMeasure.T7 := by kernel_rfl
theorem spec_FormatMeasure.bits7 : waitsOk spec_FormatMeasure.T7.2 spec_FormatMeasure.B7 = true := by kernel_rfl
theorem spec_FormatMeasure.calls (k : Nat) (a0 : Int) (r : ByteArray) (w : World) (h : spec_FormatMeasure.f k a0 = some r) :
  Calls Tryd.prog 67 #[.int .i64 a0] w fun e w' => e = .returned (.string r) ∧ Below w.heap.size w w' := by
 have HB := am (Below.refl w.heap.size w)
 have H : ((spec_IsMeasure.f a0).bind fun t241 => (if t241 = true then (if a0 < 0 then ((spec_FormatNumber.f k (wrap64 (Int.tdiv (wrap64 (-a0)) 8))).bind fun t242 => (if 1 + t242.size ≤ 9223372036854775807 then ((some (([(⟨#[]⟩ : ByteArray), (⟨#[46, 49, 50, 53]⟩ : ByteArray), (⟨#[46, 50, 53]⟩ : ByteArray), (⟨#[46, 51, 55, 53]⟩ : ByteArray), (⟨#[46, 53]⟩ : ByteArray), (⟨#[46, 54, 50, 53]⟩ : ByteArray), (⟨#[46, 55, 53]⟩ : ByteArray), (⟨#[46, 56, 55, 53]⟩ : ByteArray)] : List ByteArray) : List ByteArray)).bind fun y243 => (if 0 ≤ (Int.tmod (wrap64 (-a0)) 8) then (if (Int.tmod (wrap64 (-a0)) 8) < (y243.length : Int) then (if ((⟨#[45]⟩ : ByteArray) ++ t242).size + (rdOf ByteArray.empty y243 (Int.tmod (wrap64 (-a0)) 8)).size ≤ 9223372036854775807 then (some (((⟨#[45]⟩ : ByteArray) ++ t242) ++ (rdOf ByteArray.empty y243 (Int.tmod (wrap64 (-a0)) 8)))) else (none)) else (none)) else (none))) else (none))) else ((spec_FormatNumber.f k (wrap64 (Int.tdiv a0 8))).bind fun t247 => (if 0 + t247.size ≤ 9223372036854775807 then ((some (([(⟨#[]⟩ : ByteArray), (⟨#[46, 49, 50, 53]⟩ : ByteArray), (⟨#[46, 50, 53]⟩ : ByteArray), (⟨#[46, 51, 55, 53]⟩ : ByteArray), (⟨#[46, 53]⟩ : ByteArray), (⟨#[46, 54, 50, 53]⟩ : ByteArray), (⟨#[46, 55, 53]⟩ : ByteArray), (⟨#[46, 56, 55, 53]⟩ : ByteArray)] : List ByteArray) : List ByteArray)).bind fun y248 => (if 0 ≤ (Int.tmod a0 8) then (if (Int.tmod a0 8) < (y248.length : Int) then (if ((⟨#[]⟩ : ByteArray) ++ t247).size + (rdOf ByteArray.empty y248 (Int.tmod a0 8)).size ≤ 9223372036854775807 then (some (((⟨#[]⟩ : ByteArray) ++ t247) ++ (rdOf ByteArray.empty y248 (Int.tmod a0 8)))) else (none)) else (none)) else (none))) else (none)))) else (some (⟨#[]⟩ : ByteArray)))) = some r := h
 clear h
 replace H := ob H
 obtain ⟨t241, A20, H⟩ := H
 replace H : (if t241 = true then (if a0 < 0 then ((spec_FormatNumber.f k (wrap64 (Int.tdiv (wrap64 (-a0)) 8))).bind fun t242 => (if 1 + t242.size ≤ 9223372036854775807 then ((some (([(⟨#[]⟩ : ByteArray), (⟨#[46, 49, 50, 53]⟩ : ByteArray), (⟨#[46, 50, 53]⟩ : ByteArray), (⟨#[46, 51, 55, 53]⟩ : ByteArray), (⟨#[46, 53]⟩ : ByteArray), (⟨#[46, 54, 50, 53]⟩ : ByteArray), (⟨#[46, 55, 53]⟩ : ByteArray), (⟨#[46, 56, 55, 53]⟩ : ByteArray)] : List ByteArray) : List ByteArray)).bind fun y243 => (if 0 ≤ (Int.tmod (wrap64 (-a0)) 8) then (if (Int.tmod (wrap64 (-a0)) 8) < (y243.length : Int) then (if ((⟨#[45]⟩ : ByteArray) ++ t242).size + (rdOf ByteArray.empty y243 (Int.tmod (wrap64 (-a0)) 8)).size ≤ 9223372036854775807 then (some (((⟨#[45]⟩ : ByteArray) ++ t242) ++ (rdOf ByteArray.empty y243 (Int.tmod (wrap64 (-a0)) 8)))) else (none)) else (none)) else (none))) else (none))) else ((spec_FormatNumber.f k (wrap64 (Int.tdiv a0 8))).bind fun t247 => (if 0 + t247.size ≤ 9223372036854775807 then ((some (([(⟨#[]⟩ : ByteArray), (⟨#[46, 49, 50, 53]⟩ : ByteArray), (⟨#[46, 50, 53]⟩ : ByteArray), (⟨#[46, 51, 55, 53]⟩ : ByteArray), (⟨#[46, 53]⟩ : ByteArray), (⟨#[46, 54, 50, 53]⟩ : ByteArray), (⟨#[46, 55, 53]⟩ : ByteArray), (⟨#[46, 56, 55, 53]⟩ : ByteArray)] : List ByteArray) : List ByteArray)).bind fun y248 => (if 0 ≤ (Int.tmod a0 8) then (if (Int.tmod a0 8) < (y248.length : Int) then (if ((⟨#[]⟩ : ByteArray) ++ t247).size + (rdOf ByteArray.empty y248 (Int.tmod a0 8)).size ≤ 9223372036854775807 then (some (((⟨#[]⟩ : ByteArray) ++ t247) ++ (rdOf ByteArray.empty y248 (Int.tmod a0 8)))) else (none)) else (none)) else (none))) else (none)))) else (some (⟨#[]⟩ : ByteArray))) = some r := H
 have A2 := am A20
 clear A20
 by_cases c3 : t241 = true
 ·subst c3
  have H1 : (if a0 < 0 then ((spec_FormatNumber.f k (wrap64 (Int.tdiv (wrap64 (-a0)) 8))).bind fun t242 => (if 1 + t242.size ≤ 9223372036854775807 then ((some (([(⟨#[]⟩ : ByteArray), (⟨#[46, 49, 50, 53]⟩ : ByteArray), (⟨#[46, 50, 53]⟩ : ByteArray), (⟨#[46, 51, 55, 53]⟩ : ByteArray), (⟨#[46, 53]⟩ : ByteArray), (⟨#[46, 54, 50, 53]⟩ : ByteArray), (⟨#[46, 55, 53]⟩ : ByteArray), (⟨#[46, 56, 55, 53]⟩ : ByteArray)] : List ByteArray) : List ByteArray)).bind fun y243 => (if 0 ≤ (Int.tmod (wrap64 (-a0)) 8) then (if (Int.tmod (wrap64 (-a0)) 8) < (y243.length : Int) then (if ((⟨#[45]⟩ : ByteArray) ++ t242).size + (rdOf ByteArray.empty y243 (Int.tmod (wrap64 (-a0)) 8)).size ≤ 9223372036854775807 then (some (((⟨#[45]⟩ : ByteArray) ++ t242) ++ (rdOf ByteArray.empty y243 (Int.tmod (wrap64 (-a0)) 8)))) else (none)) else (none)) else (none))) else (none))) else ((spec_FormatNumber.f k (wrap64 (Int.tdiv a0 8))).bind fun t247 => (if 0 + t247.size ≤ 9223372036854775807 then ((some (([(⟨#[]⟩ : ByteArray), (⟨#[46, 49, 50, 53]⟩ : ByteArray), (⟨#[46, 50, 53]⟩ : ByteArray), (⟨#[46, 51, 55, 53]⟩ : ByteArray), (⟨#[46, 53]⟩ : ByteArray), (⟨#[46, 54, 50, 53]⟩ : ByteArray), (⟨#[46, 55, 53]⟩ : ByteArray), (⟨#[46, 56, 55, 53]⟩ : ByteArray)] : List ByteArray) : List ByteArray)).bind fun y248 => (if 0 ≤ (Int.tmod a0 8) then (if (Int.tmod a0 8) < (y248.length : Int) then (if ((⟨#[]⟩ : ByteArray) ++ t247).size + (rdOf ByteArray.empty y248 (Int.tmod a0 8)).size ≤ 9223372036854775807 then (some (((⟨#[]⟩ : ByteArray) ++ t247) ++ (rdOf ByteArray.empty y248 (Int.tmod a0 8)))) else (none)) else (none)) else (none))) else (none)))) = some r := by rw [if_pos rfl] at H; exact H
  clear H
  have H := H1
  clear H1
  by_cases c4 : a0 < 0
  ·rw [if_pos c4] at H
   have c4b0 : decide (a0 < 0) = true := decide_eq_true c4
   clear c4
   replace H := ob H
   obtain ⟨t242, A50, H⟩ := H
   replace H : (if 1 + t242.size ≤ 9223372036854775807 then ((some (([(⟨#[]⟩ : ByteArray), (⟨#[46, 49, 50, 53]⟩ : ByteArray), (⟨#[46, 50, 53]⟩ : ByteArray), (⟨#[46, 51, 55, 53]⟩ : ByteArray), (⟨#[46, 53]⟩ : ByteArray), (⟨#[46, 54, 50, 53]⟩ : ByteArray), (⟨#[46, 55, 53]⟩ : ByteArray), (⟨#[46, 56, 55, 53]⟩ : ByteArray)] : List ByteArray) : List ByteArray)).bind fun y243 => (if 0 ≤ (Int.tmod (wrap64 (-a0)) 8) then (if (Int.tmod (wrap64 (-a0)) 8) < (y243.length : Int) then (if ((⟨#[45]⟩ : ByteArray) ++ t242).size + (rdOf ByteArray.empty y243 (Int.tmod (wrap64 (-a0)) 8)).size ≤ 9223372036854775807 then (some (((⟨#[45]⟩ : ByteArray) ++ t242) ++ (rdOf ByteArray.empty y243 (Int.tmod (wrap64 (-a0)) 8)))) else (none)) else (none)) else (none))) else (none)) = some r := H
   have A5 := am A50
   clear A50
   by_cases c6 : 1 + t242.size ≤ 9223372036854775807
   ·rw [if_pos c6] at H
    have c6b0 := eq_true c6
    have c6b1 : decide (1 + t242.size ≤ 9223372036854775807) = true := decide_eq_true c6
    try have c6b2 : (9223372036854775807 < 1 + t242.size) = False := eq_false (Nat.not_lt.2 c6)
    obtain ⟨y243, hy243⟩ : ∃ y_ : List ByteArray, y_ = (([(⟨#[]⟩ : ByteArray), (⟨#[46, 49, 50, 53]⟩ : ByteArray), (⟨#[46, 50, 53]⟩ : ByteArray), (⟨#[46, 51, 55, 53]⟩ : ByteArray), (⟨#[46, 53]⟩ : ByteArray), (⟨#[46, 54, 50, 53]⟩ : ByteArray), (⟨#[46, 55, 53]⟩ : ByteArray), (⟨#[46, 56, 55, 53]⟩ : ByteArray)] : List ByteArray)) := ⟨_, rfl⟩
    replace H : (if 0 ≤ (Int.tmod (wrap64 (-a0)) 8) then (if (Int.tmod (wrap64 (-a0)) 8) < (y243.length : Int) then (if ((⟨#[45]⟩ : ByteArray) ++ t242).size + (rdOf ByteArray.empty y243 (Int.tmod (wrap64 (-a0)) 8)).size ≤ 9223372036854775807 then (some (((⟨#[45]⟩ : ByteArray) ++ t242) ++ (rdOf ByteArray.empty y243 (Int.tmod (wrap64 (-a0)) 8)))) else (none)) else (none)) else (none)) = some r := by first | (rw [hy243]; with_reducible exact H) | (have H2_ := (Option.bind_some _ _).symm.trans H; rw [hy243]; with_reducible exact H2_) | (have H2_ := (Option.bind_some _ _).symm.trans H; with_reducible exact H2_) | with_reducible exact H | (rw [hy243]; exact H) | exact H
    have Ny243 := am hy243
    clear hy243
    obtain ⟨ji7, hji7⟩ : ∃ j_ : Int, (Int.tmod (wrap64 (-a0)) 8) = j_ := ⟨_, rfl⟩
    replace H : (if 0 ≤ (ji7) then (if (ji7) < (y243.length : Int) then (if ((⟨#[45]⟩ : ByteArray) ++ t242).size + (rdOf ByteArray.empty y243 (ji7)).size ≤ 9223372036854775807 then (some (((⟨#[45]⟩ : ByteArray) ++ t242) ++ (rdOf ByteArray.empty y243 (ji7)))) else (none)) else (none)) else (none)) = some r := by first | (rw [hji7] at H; exact H) | (simp only [hji7] at H ⊢; exact H)
    (try rw [hji7] at A2)
    (try rw [hji7] at A5)
    by_cases c8 : 0 ≤ (ji7)
    ·rw [if_pos c8] at H
     have c8b0 : decide (0 ≤ (ji7)) = true := decide_eq_true c8
     clear c8
     by_cases c9 : (ji7) < (y243.length : Int)
     ·rw [if_pos c9] at H
      have c9b0 : decide ((ji7) < (y243.length : Int)) = true := decide_eq_true c9
      clear c9
      by_cases c10 : ((⟨#[45]⟩ : ByteArray) ++ t242).size + (rdOf ByteArray.empty y243 (ji7)).size ≤ 9223372036854775807
      ·rw [if_pos c10] at H
       have c10b0 := eq_true c10
       have c10b1 : decide (((⟨#[45]⟩ : ByteArray) ++ t242).size + (rdOf ByteArray.empty y243 (ji7)).size ≤ 9223372036854775807) = true := decide_eq_true c10
       try have c10b2 : (9223372036854775807 < ((⟨#[45]⟩ : ByteArray) ++ t242).size + (rdOf ByteArray.empty y243 (ji7)).size) = False := eq_false (Nat.not_lt.2 c10)
       try have c10b8 : (1 + t242.size + (rdOf ByteArray.empty y243 (ji7)).size ≤ 9223372036854775807) = True := by have t_ := c10b0; first | (simp only [ByteArray.size_append, Nat.zero_add, Nat.add_zero] at t_; exact t_) | (have t2_ := of_eq_true t_; simp only [ByteArray.size_append] at t2_; exact eq_true u10_3)
       try have c10b9 : (9223372036854775807 < 1 + t242.size + (rdOf ByteArray.empty y243 (ji7)).size) = False := by have t_ := c10b2; first | (simp only [ByteArray.size_append] at t_; exact t_) | (have t2_ := c10b8; exact eq_false (Nat.not_lt.2 (of_eq_true t2_)))
       obtain rfl := oi H
       go_enter Tryd.func67, Tryd.ntmps67
       try go_wp2_with (first | ((with_reducible refine gate_callee (f := 90) rfl ?_); refine goesL_ (some 5) rfl rfl Tryd.func90 (by kernel_rfl) rfl #[.int .i64 a0] rfl u10_2 ?_; (with_reducible refine (spec_IsMeasure.calls a0 true _ A2.out).mono ?_); rintro e w' ⟨rfl, ⟨nd, rfl⟩⟩; refine ⟨_, rfl, ?_⟩))
       have pi246 : (0 ≤ ((ji7) : Int)) = True := eq_true (od (by assumption))
       have qi246 : ((ji7) < (y243.length : Int)) = True := eq_true (od (by assumption))
       have n0_ := (show Aside0 (Below w.heap.size w (w.drewN nd).drew) from ⟨s10_1⟩)
       clear HB
       have HB := n0_
       clear n0_
       refine start_ (n := 12) (S := fun w' => True) (ds := []) mk10_0 (by kernel_rfl) rfl rfl trivial (fun hHeld => ?_); refine with_tabW spec_FormatMeasure.tab7 spec_FormatMeasure.bits7 (fun HT_ HW_ => ?_)
       generalize (w.drewN nd).drew = w11 at HB hHeld ⊢
       refine pz 0 12 mk10_1 (any_of HT_.out (by kernel_rfl)) ?_
       refine pz 1 13 mk10_2 (any_of HT_.out (by kernel_rfl)) ?_
       refine pz 6 18 mk10_3 (any_of HT_.out (by kernel_rfl)) ?_
       refine inv_at [2, 3, 4, 5, 7, 8, 9, 10, 11] (fun a0_ b a w' => ∃ (v244 : Value) (adz_v244 : Addr) (m8_ : Value), a = putSel a0_ b [(2, 14, .int .i64 (wrap64 (Int.tdiv (wrap64 (-a0)) 8))), (3, 15, .string t242), (4, 16, .string ((⟨#[45]⟩ : ByteArray) ++ t242)), (5, 17, v244), (7, 19, .int .i64 ji7), (8, 20, m8_), (9, 21, .string (rdOf ByteArray.empty y243 (ji7))), (10, 22, .string (((⟨#[45]⟩ : ByteArray) ++ t242) ++ (rdOf ByteArray.empty y243 (ji7)))), (11, 2, .string (((⟨#[45]⟩ : ByteArray) ++ t242) ++ (rdOf ByteArray.empty y243 (ji7))))] ∧ (Below w.heap.size w w') ∧ (b 5 = true → Kd.R Kd.string 9 w' w.heap.size (fun _ => True) v244 y243) ∧ (b 5 = true → ∃ c_, (v244 : Value) = .slice (some adz_v244) y243.length c_) ∧ (b 8 = true → (m8_ : Value) = .pointer (some (adz_v244.add ((ji7)).toNat)))) HT_.out HW_.out (by kernel_rfl) (by kernel_rfl) ?_ ?_ ?_
       ·exact ⟨.bool false, ⟨0, 0, none⟩, .bool false, by simp only [putSel, Bool.false_eq_true, if_false], HB.out, fun h_ => absurd h_ (by decide), fun h_ => absurd h_ (by decide), fun h_ => absurd h_ (by decide)⟩
       ·skip
        clear HB
        refine steps_cons ?_ ?_
        ·rintro b a w' ⟨v244, adz_v244, m8_, ha, Q_HB, Q_HO245, Q_HA_HO245, Q_X8_⟩ hb_ hon hoff
         refine ⟨_, rfl, fun K hK => ?_⟩
         have e13 : a.tmps[13]? = some (.int .i64 (wrap64 (-a0))) := by rw [ha]; exact (putSel_off rfl).trans rfl
         replace ha := am ha
         have HB := am Q_HB
         refine value_ (w1 := w') (v := .int .i64 (wrap64 (Int.tdiv (wrap64 (-a0)) 8))) (by rfl) rfl ?_ ?_
         ·go_simp
          (try simp only [i64_w])
          try rfl
         refine hK.out _ _ ⟨v244, adz_v244, m8_, (by rw [ha.out]; exact putSel_upk 0 hb_ rfl rfl rfl), Q_HB, Q_HO245, Q_HA_HO245, Q_X8_⟩
        refine steps_cons ?_ ?_
        ·rintro b a w' ⟨v244, adz_v244, m8_, ha, Q_HB, Q_HO245, Q_HA_HO245, Q_X8_⟩ hb_ hon hoff
         refine ⟨_, rfl, fun K hK => ?_⟩
         have e14 : a.tmps[14]? = some (.int .i64 (wrap64 (Int.tdiv (wrap64 (-a0)) 8))) := by rw [ha]; exact putSel_on (e := (2, 14, .int .i64 (wrap64 (Int.tdiv (wrap64 (-a0)) 8)))) 0 rfl rfl (hon 2 (by kernel_rfl)) rfl
         replace ha := am ha
         have HB := am Q_HB
         refine goes_ Tryd.func66 (by kernel_rfl) rfl #[.int .i64 (wrap64 (Int.tdiv (wrap64 (-a0)) 8))] (by rfl) rfl rfl u10_5 ?_
         with_reducible refine (spec_FormatNumber.calls k (wrap64 (Int.tdiv (wrap64 (-a0)) 8)) t242 _ A5.out).mono ?_
         rintro e w12 ⟨rfl, hb⟩
         refine ⟨_, rfl, ?_⟩
         have n0_ := am (below_step u10_0 hb)
         have z_HO245 := fun (h0_ : b 5 = true) => (show Kd.R Kd.string 9 w12 w.heap.size (fun _ => True) v244 y243 from by first | exact (Kd.R_below (by (with_reducible repeat (first | apply Kd.R_alloc | apply Kd.R_drewN | apply Kd.R_drew)); exact (Q_HO245 h0_)) hb) | exact Kd.R_mono (Kd.R_below (by (with_reducible repeat (first | apply Kd.R_alloc | apply Kd.R_drewN | apply Kd.R_drew)); exact (Q_HO245 h0_)) hb) (fun _ h_ => by first | trivial | exact h_ | exact h_.1))
         clear HB
         have HB := n0_
         clear n0_
         (try clear hb)
         (try clear hb2)
         (try clear hk)
         (try clear hi)
         refine hK.out _ _ ⟨v244, adz_v244, m8_, (by rw [ha.out]; exact putSel_upk 1 hb_ rfl rfl rfl), u10_0, z_HO245, Q_HA_HO245, Q_X8_⟩
        refine steps_cons ?_ ?_
        ·rintro b a w' ⟨v244, adz_v244, m8_, ha, Q_HB, Q_HO245, Q_HA_HO245, Q_X8_⟩ hb_ hon hoff
         refine ⟨_, rfl, fun K hK => ?_⟩
         have e12 : a.tmps[12]? = some (.string (⟨#[45]⟩ : ByteArray)) := by rw [ha]; exact (putSel_off rfl).trans rfl
         have e15 : a.tmps[15]? = some (.string t242) := by rw [ha]; exact putSel_on (e := (3, 15, .string t242)) 1 rfl rfl (hon 3 (by kernel_rfl)) rfl
         replace ha := am ha
         have HB := am Q_HB
         refine value_ (w1 := w') (v := .string ((⟨#[45]⟩ : ByteArray) ++ t242)) (by rfl) rfl ?_ ?_
         ·go_simp
          (try simp only [i64_w])
          try rfl
         refine hK.out _ _ ⟨v244, adz_v244, m8_, (by rw [ha.out]; exact putSel_upk 2 hb_ rfl rfl rfl), Q_HB, Q_HO245, Q_HA_HO245, Q_X8_⟩
        refine steps_cons ?_ ?_
        ·rintro b a w' ⟨v244, adz_v244, m8_, ha, Q_HB, Q_HO245, Q_HA_HO245, Q_X8_⟩ hb_ hon hoff
         refine ⟨_, rfl, fun K hK => ?_⟩
         replace ha := am ha
         have HB := am Q_HB
         refine Kd.R_lit_step Kd.string _ 9 ?hg (N := 17) ?hd (xs := ([(⟨#[]⟩ : ByteArray), (⟨#[46, 49, 50, 53]⟩ : ByteArray), (⟨#[46, 50, 53]⟩ : ByteArray), (⟨#[46, 51, 55, 53]⟩ : ByteArray), (⟨#[46, 53]⟩ : ByteArray), (⟨#[46, 54, 50, 53]⟩ : ByteArray), (⟨#[46, 55, 53]⟩ : ByteArray), (⟨#[46, 56, 55, 53]⟩ : ByteArray)] : List ByteArray)) (inner := [.string (⟨#[]⟩ : ByteArray), .string (⟨#[46, 49, 50, 53]⟩ : ByteArray), .string (⟨#[46, 50, 53]⟩ : ByteArray), .string (⟨#[46, 51, 55, 53]⟩ : ByteArray), .string (⟨#[46, 53]⟩ : ByteArray), .string (⟨#[46, 54, 50, 53]⟩ : ByteArray), .string (⟨#[46, 55, 53]⟩ : ByteArray), .string (⟨#[46, 56, 55, 53]⟩ : ByteArray)]) (ok := fun _ => True) (okp := fun _ => True) ?hr ?hp (fun _ hk => hk) trivial (Below.refl _ _) (Nat.le_refl _) (by simp) ?_; (case hd => rfl); (case hg => rfl); (case hr => exact gq); (case hp => exact (Reps.one (show Kd.M Kd.string _ _ _ (⟨#[]⟩ : ByteArray) [.string (⟨#[]⟩ : ByteArray)] from rfl) (Reps.one (show Kd.M Kd.string _ _ _ (⟨#[46, 49, 50, 53]⟩ : ByteArray) [.string (⟨#[46, 49, 50, 53]⟩ : ByteArray)] from rfl) (Reps.one (show Kd.M Kd.string _ _ _ (⟨#[46, 50, 53]⟩ : ByteArray) [.string (⟨#[46, 50, 53]⟩ : ByteArray)] from rfl) (Reps.one (show Kd.M Kd.string _ _ _ (⟨#[46, 51, 55, 53]⟩ : ByteArray) [.string (⟨#[46, 51, 55, 53]⟩ : ByteArray)] from rfl) (Reps.one (show Kd.M Kd.string _ _ _ (⟨#[46, 53]⟩ : ByteArray) [.string (⟨#[46, 53]⟩ : ByteArray)] from rfl) (Reps.one (show Kd.M Kd.string _ _ _ (⟨#[46, 54, 50, 53]⟩ : ByteArray) [.string (⟨#[46, 54, 50, 53]⟩ : ByteArray)] from rfl) (Reps.one (show Kd.M Kd.string _ _ _ (⟨#[46, 55, 53]⟩ : ByteArray) [.string (⟨#[46, 55, 53]⟩ : ByteArray)] from rfl) (Reps.one (show Kd.M Kd.string _ _ _ (⟨#[46, 56, 55, 53]⟩ : ByteArray) [.string (⟨#[46, 56, 55, 53]⟩ : ByteArray)] from rfl) (Reps.none _ _))))))))))
         intro v244 w12 ho13 hb hg_ hnew_
         clear hg_ hnew_
         (first | rw [← Ny243.out] at ho13 | (simp only [Int.reduceToNat] at ho13; rw [← Ny243.out] at ho13))
         have n0_ := am (Kd.R_lower ho13 (below_size u10_0))
         have n1_ := am (below_step u10_0 hb)
         clear HB
         have HO245 := n0_
         have HB := n1_
         clear n0_ n1_ hb ho13
         obtain ⟨Ao14, co14, eo14⟩ := Kd.R_slice HO245.out
         subst eo14
         obtain ⟨ado14, fo14, _⟩ := Kd.at_string (Kd.R_reads' HO245.out).2.2 0 (by decide) (by rw [Ny243.out]; simp)
         cases fo14
         refine hK.out _ _ ⟨.slice (some ado14) y243.length co14, ado14, m8_, (by rw [ha.out]; exact putSel_upk 3 hb_ rfl rfl rfl), u10_0, fun _ => (by (with_reducible repeat (first | apply Kd.R_alloc | apply Kd.R_drewN | apply Kd.R_drew)); exact HO245.out), fun _ => ⟨_, rfl⟩, fun h0_ => absurd ((hoff 8 (by kernel_rfl)).symm.trans h0_) (by decide)⟩
        refine steps_cons ?_ ?_
        ·rintro b a w' ⟨v244, adz_v244, m8_, ha, Q_HB, Q_HO245, Q_HA_HO245, Q_X8_⟩ hb_ hon hoff
         refine ⟨_, rfl, fun K hK => ?_⟩
         have e18 : a.tmps[18]? = some (.int .i64 (wrap64 (-a0))) := by rw [ha]; exact (putSel_off rfl).trans rfl
         replace ha := am ha
         have HB := am Q_HB
         refine value_ (w1 := w') (v := .int .i64 ji7) (by rfl) rfl ?_ ?_
         ·go_simp
          (try simp only [i64_w])
          try rfl
         refine hK.out _ _ ⟨v244, adz_v244, m8_, (by rw [ha.out]; exact putSel_upk 4 hb_ rfl rfl rfl), Q_HB, Q_HO245, Q_HA_HO245, fun h0_ => absurd ((hoff 8 (by kernel_rfl)).symm.trans h0_) (by decide)⟩
        refine steps_cons ?_ ?_
        ·rintro b a w' ⟨v244, adz_v244, m8_, ha, Q_HB, Q_HO245, Q_HA_HO245, Q_X8_⟩ hb_ hon hoff
         refine ⟨_, rfl, fun K hK => ?_⟩
         have e17 : a.tmps[17]? = some (v244) := by rw [ha]; exact putSel_on (e := (5, 17, v244)) 3 rfl rfl (hon 5 (by kernel_rfl)) rfl
         have e19 : a.tmps[19]? = some (.int .i64 ji7) := by rw [ha]; exact putSel_on (e := (7, 19, .int .i64 ji7)) 4 rfl rfl (hon 7 (by kernel_rfl)) rfl
         replace ha := am ha
         have HB := am Q_HB
         have HO245 := am (Q_HO245 (hon 5 (by kernel_rfl)))
         have HA_HO245 := am (Q_HA_HO245 (hon 5 (by kernel_rfl)))
         obtain ⟨c_, hv_⟩ := HA_HO245.out
         rw [hv_] at e17
         refine value_ (w1 := w') (v := .pointer (some (adz_v244.add ((ji7)).toNat))) (by rfl) rfl ?_ ?_
         ·go_simp
          (try simp only [i64_w])
          try rfl
         refine hK.out _ _ ⟨v244, adz_v244, (.pointer (some (adz_v244.add ((ji7)).toNat))), (by rw [ha.out]; exact putSel_upk 5 hb_ rfl rfl rfl), Q_HB, Q_HO245, Q_HA_HO245, fun _ => rfl⟩
        refine steps_cons ?_ ?_
        ·rintro b a w' ⟨v244, adz_v244, m8_, ha, Q_HB, Q_HO245, Q_HA_HO245, Q_X8_⟩ hb_ hon hoff
         refine ⟨_, rfl, fun K hK => ?_⟩
         have e20 : a.tmps[20]? = some (m8_) := by rw [ha]; exact putSel_on (e := (8, 20, m8_)) 5 rfl rfl (hon 8 (by kernel_rfl)) rfl
         rw [Q_X8_ (hon 8 (by kernel_rfl))] at e20
         replace ha := am ha
         have HB := am Q_HB
         have HO245 := am (Q_HO245 (hon 5 (by kernel_rfl)))
         have HA_HO245 := am (Q_HA_HO245 (hon 5 (by kernel_rfl)))
         obtain ⟨c_, hv_⟩ := HA_HO245.out
         have hF_ := HO245.out
         rw [hv_] at hF_
         obtain ⟨ad_, ea_, hx_⟩ := Kd.at_string (Kd.R_reads' hF_).2.2 (ji7) (of_eq_true pi246) (of_eq_true qi246)
         cases ea_
         refine value_ (w1 := w') (v := .string (rdOf ByteArray.empty y243 (ji7))) (by rfl) rfl ?_ ?_
         ·go_simp
          (try simp only [i64_w])
          try rfl
         refine hK.out _ _ ⟨v244, adz_v244, m8_, (by rw [ha.out]; exact putSel_upk 6 hb_ rfl rfl rfl), Q_HB, Q_HO245, Q_HA_HO245, Q_X8_⟩
        refine steps_cons ?_ ?_
        ·rintro b a w' ⟨v244, adz_v244, m8_, ha, Q_HB, Q_HO245, Q_HA_HO245, Q_X8_⟩ hb_ hon hoff
         refine ⟨_, rfl, fun K hK => ?_⟩
         have e16 : a.tmps[16]? = some (.string ((⟨#[45]⟩ : ByteArray) ++ t242)) := by rw [ha]; exact putSel_on (e := (4, 16, .string ((⟨#[45]⟩ : ByteArray) ++ t242))) 2 rfl rfl (hon 4 (by kernel_rfl)) rfl
         have e21 : a.tmps[21]? = some (.string (rdOf ByteArray.empty y243 (ji7))) := by rw [ha]; exact putSel_on (e := (9, 21, .string (rdOf ByteArray.empty y243 (ji7)))) 6 rfl rfl (hon 9 (by kernel_rfl)) rfl
         replace ha := am ha
         have HB := am Q_HB
         have HO245 := am (Q_HO245 (hon 5 (by kernel_rfl)))
         have HA_HO245 := am (Q_HA_HO245 (hon 5 (by kernel_rfl)))
         refine value_ (w1 := w') (v := .string (((⟨#[45]⟩ : ByteArray) ++ t242) ++ (rdOf ByteArray.empty y243 (ji7)))) (by rfl) rfl ?_ ?_
         ·go_simp
          (try simp only [i64_w])
          try rfl
         refine hK.out _ _ ⟨v244, adz_v244, m8_, (by rw [ha.out]; exact putSel_upk 7 hb_ rfl rfl rfl), Q_HB, Q_HO245, Q_HA_HO245, Q_X8_⟩
        refine steps_cons ?_ ?_
        ·rintro b a w' ⟨v244, adz_v244, m8_, ha, Q_HB, Q_HO245, Q_HA_HO245, Q_X8_⟩ hb_ hon hoff
         refine ⟨_, rfl, fun K hK => ?_⟩
         have e22 : a.tmps[22]? = some (.string (((⟨#[45]⟩ : ByteArray) ++ t242) ++ (rdOf ByteArray.empty y243 (ji7)))) := by rw [ha]; exact putSel_on (e := (10, 22, .string (((⟨#[45]⟩ : ByteArray) ++ t242) ++ (rdOf ByteArray.empty y243 (ji7))))) 7 rfl rfl (hon 10 (by kernel_rfl)) rfl
         replace ha := am ha
         have HB := am Q_HB
         have HO245 := am (Q_HO245 (hon 5 (by kernel_rfl)))
         have HA_HO245 := am (Q_HA_HO245 (hon 5 (by kernel_rfl)))
         refine value_ (w1 := w') (v := .string (((⟨#[45]⟩ : ByteArray) ++ t242) ++ (rdOf ByteArray.empty y243 (ji7)))) (by rfl) rfl ?_ ?_
         ·go_simp
          (try simp only [i64_w])
          try rfl
         refine hK.out _ _ ⟨v244, adz_v244, m8_, (by rw [ha.out]; exact putSel_upk 8 hb_ rfl rfl rfl), Q_HB, Q_HO245, Q_HA_HO245, Q_X8_⟩
        exact steps_nil
       rintro b a w16 hall ⟨v244, adz_v244, m8_, ha, Q_HB, Q_HO245, Q_HA_HO245, Q_X8_⟩
       clear HB
       have hb2_ := hall 2 (by kernel_rfl)
       have hb3_ := hall 3 (by kernel_rfl)
       have hb4_ := hall 4 (by kernel_rfl)
       have hb5_ := hall 5 (by kernel_rfl)
       have hb7_ := hall 7 (by kernel_rfl)
       have hb8_ := hall 8 (by kernel_rfl)
       have hb9_ := hall 9 (by kernel_rfl)
       have hb10_ := hall 10 (by kernel_rfl)
       have hb11_ := hall 11 (by kernel_rfl)
       subst ha
       obtain rfl := Q_X8_ hb8_
       simp only [putSel, hb2_, hb3_, hb4_, hb5_, hb7_, hb8_, hb9_, hb10_, hb11_, if_true, Act.put, List.setIfInBounds_toArray, List.set_cons_zero, List.set_cons_succ]
       have HB := am Q_HB
       clear Q_HB
       have HO245 := am (Q_HO245 hb5_)
       clear Q_HO245
       have HA_HO245 := am (Q_HA_HO245 hb5_)
       clear Q_HA_HO245 hall hb2_ hb3_ hb4_ hb5_ hb7_ hb8_ hb9_ hb10_ hb11_
       obtain ⟨co17, eo17⟩ := HA_HO245.out
       clear HA_HO245
       subst eo17
       try go_wp2
       go_ret
       exact ⟨by first | rfl | (simp [errW_none, errW_some] <;> rfl) | (simp only [← hji7]; first | rfl | (simp [errW_none, errW_some] <;> rfl)) | (simp [*, errW_none, errW_some] <;> rfl), s10_1⟩
      ·rw [if_neg c10] at H
       exact absurd H (by simp)
     ·rw [if_neg c9] at H
      exact absurd H (by simp)
    ·rw [if_neg c8] at H
     exact absurd H (by simp)
   ·rw [if_neg c6] at H
    exact absurd H (by simp)
  ·rw [if_neg c4] at H
   have c4b0 : decide (a0 < 0) = false := decide_eq_false c4
   clear c4
   replace H := ob H
   obtain ⟨t247, A180, H⟩ := H
   replace H : (if 0 + t247.size ≤ 9223372036854775807 then ((some (([(⟨#[]⟩ : ByteArray), (⟨#[46, 49, 50, 53]⟩ : ByteArray), (⟨#[46, 50, 53]⟩ : ByteArray), (⟨#[46, 51, 55, 53]⟩ : ByteArray), (⟨#[46, 53]⟩ : ByteArray), (⟨#[46, 54, 50, 53]⟩ : ByteArray), (⟨#[46, 55, 53]⟩ : ByteArray), (⟨#[46, 56, 55, 53]⟩ : ByteArray)] : List ByteArray) : List ByteArray)).bind fun y248 => (if 0 ≤ (Int.tmod a0 8) then (if (Int.tmod a0 8) < (y248.length : Int) then (if ((⟨#[]⟩ : ByteArray) ++ t247).size + (rdOf ByteArray.empty y248 (Int.tmod a0 8)).size ≤ 9223372036854775807 then (some (((⟨#[]⟩ : ByteArray) ++ t247) ++ (rdOf ByteArray.empty y248 (Int.tmod a0 8)))) else (none)) else (none)) else (none))) else (none)) = some r := H
   have A18 := am A180
   clear A180
   by_cases c19 : 0 + t247.size ≤ 9223372036854775807
   ·rw [if_pos c19] at H
    have c19b0 := eq_true c19
    have c19b1 : decide (0 + t247.size ≤ 9223372036854775807) = true := decide_eq_true c19
    try have c19b2 : (9223372036854775807 < 0 + t247.size) = False := eq_false (Nat.not_lt.2 c19)
    try have c19b8 : (t247.size ≤ 9223372036854775807) = True := by have t_ := c19b0; first | (simp only [ByteArray.size_append, Nat.zero_add, Nat.add_zero] at t_; exact t_) | (have t2_ := of_eq_true t_; simp only [ByteArray.size_append] at t2_; exact eq_true u10_3)
    try have c19b9 : (9223372036854775807 < t247.size) = False := by have t_ := c19b2; first | (simp only [ByteArray.size_append] at t_; exact t_) | (have t2_ := c19b8; exact eq_false (Nat.not_lt.2 (of_eq_true t2_)))
    obtain ⟨y248, hy248⟩ : ∃ y_ : List ByteArray, y_ = (([(⟨#[]⟩ : ByteArray), (⟨#[46, 49, 50, 53]⟩ : ByteArray), (⟨#[46, 50, 53]⟩ : ByteArray), (⟨#[46, 51, 55, 53]⟩ : ByteArray), (⟨#[46, 53]⟩ : ByteArray), (⟨#[46, 54, 50, 53]⟩ : ByteArray), (⟨#[46, 55, 53]⟩ : ByteArray), (⟨#[46, 56, 55, 53]⟩ : ByteArray)] : List ByteArray)) := ⟨_, rfl⟩
    replace H : (if 0 ≤ (Int.tmod a0 8) then (if (Int.tmod a0 8) < (y248.length : Int) then (if ((⟨#[]⟩ : ByteArray) ++ t247).size + (rdOf ByteArray.empty y248 (Int.tmod a0 8)).size ≤ 9223372036854775807 then (some (((⟨#[]⟩ : ByteArray) ++ t247) ++ (rdOf ByteArray.empty y248 (Int.tmod a0 8)))) else (none)) else (none)) else (none)) = some r := by first | (rw [hy248]; with_reducible exact H) | (have H2_ := (Option.bind_some _ _).symm.trans H; rw [hy248]; with_reducible exact H2_) | (have H2_ := (Option.bind_some _ _).symm.trans H; with_reducible exact H2_) | with_reducible exact H | (rw [hy248]; exact H) | exact H
    have Ny248 := am hy248
    clear hy248
    obtain ⟨ji20, hji20⟩ : ∃ j_ : Int, (Int.tmod a0 8) = j_ := ⟨_, rfl⟩
    replace H : (if 0 ≤ (ji20) then (if (ji20) < (y248.length : Int) then (if ((⟨#[]⟩ : ByteArray) ++ t247).size + (rdOf ByteArray.empty y248 (ji20)).size ≤ 9223372036854775807 then (some (((⟨#[]⟩ : ByteArray) ++ t247) ++ (rdOf ByteArray.empty y248 (ji20)))) else (none)) else (none)) else (none)) = some r := by first | (rw [hji20] at H; exact H) | (simp only [hji20] at H ⊢; exact H)
    (try rw [hji20] at A2)
    (try rw [hji20] at A18)
    by_cases c21 : 0 ≤ (ji20)
    ·rw [if_pos c21] at H
     have c21b0 : decide (0 ≤ (ji20)) = true := decide_eq_true c21
     clear c21
     by_cases c22 : (ji20) < (y248.length : Int)
     ·rw [if_pos c22] at H
      have c22b0 : decide ((ji20) < (y248.length : Int)) = true := decide_eq_true c22
      clear c22
      by_cases c23 : ((⟨#[]⟩ : ByteArray) ++ t247).size + (rdOf ByteArray.empty y248 (ji20)).size ≤ 9223372036854775807
      ·rw [if_pos c23] at H
       have c23b0 := eq_true c23
       have c23b1 : decide (((⟨#[]⟩ : ByteArray) ++ t247).size + (rdOf ByteArray.empty y248 (ji20)).size ≤ 9223372036854775807) = true := decide_eq_true c23
       try have c23b2 : (9223372036854775807 < ((⟨#[]⟩ : ByteArray) ++ t247).size + (rdOf ByteArray.empty y248 (ji20)).size) = False := eq_false (Nat.not_lt.2 c23)
       try have c23b8 : (t247.size + (rdOf ByteArray.empty y248 (ji20)).size ≤ 9223372036854775807) = True := by have t_ := c23b0; first | (simp only [ByteArray.size_append, Nat.zero_add, Nat.add_zero] at t_; exact t_) | (have t2_ := of_eq_true t_; simp only [ByteArray.size_append] at t2_; exact eq_true u10_3)
       try have c23b9 : (9223372036854775807 < t247.size + (rdOf ByteArray.empty y248 (ji20)).size) = False := by have t_ := c23b2; first | (simp only [ByteArray.size_append] at t_; exact t_) | (have t2_ := c23b8; exact eq_false (Nat.not_lt.2 (of_eq_true t2_)))
       obtain rfl := oi H
       go_enter Tryd.func67, Tryd.ntmps67
       try go_wp2_with (first | ((with_reducible refine gate_callee (f := 90) rfl ?_); refine goesL_ (some 5) rfl rfl Tryd.func90 (by kernel_rfl) rfl #[.int .i64 a0] rfl u10_2 ?_; (with_reducible refine (spec_IsMeasure.calls a0 true _ A2.out).mono ?_); rintro e w' ⟨rfl, ⟨nd, rfl⟩⟩; refine ⟨_, rfl, ?_⟩))
       have pi251 : (0 ≤ ((ji20) : Int)) = True := eq_true (od (by assumption))
       have qi251 : ((ji20) < (y248.length : Int)) = True := eq_true (od (by assumption))
       have n0_ := (show Aside0 (Below w.heap.size w (w.drewN nd).drew) from ⟨s10_1⟩)
       clear HB
       have HB := n0_
       clear n0_
       refine start_ (n := 12) (S := fun w' => True) (ds := []) mk10_0 (by kernel_rfl) rfl rfl trivial (fun hHeld => ?_); refine with_tabW spec_FormatMeasure.tab7 spec_FormatMeasure.bits7 (fun HT_ HW_ => ?_)
       generalize (w.drewN nd).drew = w24 at HB hHeld ⊢
       refine pz 0 12 mk10_1 (any_of HT_.out (by kernel_rfl)) ?_
       refine pz 1 13 mk10_2 (any_of HT_.out (by kernel_rfl)) ?_
       refine pz 6 18 mk10_3 (any_of HT_.out (by kernel_rfl)) ?_
       refine inv_at [2, 3, 4, 5, 7, 8, 9, 10, 11] (fun a0_ b a w' => ∃ (v249 : Value) (adz_v249 : Addr) (m8_ : Value), a = putSel a0_ b [(2, 14, .int .i64 (wrap64 (Int.tdiv a0 8))), (3, 15, .string t247), (4, 16, .string ((⟨#[]⟩ : ByteArray) ++ t247)), (5, 17, v249), (7, 19, .int .i64 ji20), (8, 20, m8_), (9, 21, .string (rdOf ByteArray.empty y248 (ji20))), (10, 22, .string (((⟨#[]⟩ : ByteArray) ++ t247) ++ (rdOf ByteArray.empty y248 (ji20)))), (11, 2, .string (((⟨#[]⟩ : ByteArray) ++ t247) ++ (rdOf ByteArray.empty y248 (ji20))))] ∧ (Below w.heap.size w w') ∧ (b 5 = true → Kd.R Kd.string 9 w' w.heap.size (fun _ => True) v249 y248) ∧ (b 5 = true → ∃ c_, (v249 : Value) = .slice (some adz_v249) y248.length c_) ∧ (b 8 = true → (m8_ : Value) = .pointer (some (adz_v249.add ((ji20)).toNat)))) HT_.out HW_.out (by kernel_rfl) (by kernel_rfl) ?_ ?_ ?_
       ·exact ⟨.bool false, ⟨0, 0, none⟩, .bool false, by simp only [putSel, Bool.false_eq_true, if_false], HB.out, fun h_ => absurd h_ (by decide), fun h_ => absurd h_ (by decide), fun h_ => absurd h_ (by decide)⟩
       ·skip
        clear HB
        refine steps_cons ?_ ?_
        ·rintro b a w' ⟨v249, adz_v249, m8_, ha, Q_HB, Q_HO250, Q_HA_HO250, Q_X8_⟩ hb_ hon hoff
         refine ⟨_, rfl, fun K hK => ?_⟩
         have e13 : a.tmps[13]? = some (.int .i64 a0) := by rw [ha]; exact (putSel_off rfl).trans rfl
         replace ha := am ha
         have HB := am Q_HB
         refine value_ (w1 := w') (v := .int .i64 (wrap64 (Int.tdiv a0 8))) (by rfl) rfl ?_ ?_
         ·go_simp
          (try simp only [i64_w])
          try rfl
         refine hK.out _ _ ⟨v249, adz_v249, m8_, (by rw [ha.out]; exact putSel_upk 0 hb_ rfl rfl rfl), Q_HB, Q_HO250, Q_HA_HO250, Q_X8_⟩
        refine steps_cons ?_ ?_
        ·rintro b a w' ⟨v249, adz_v249, m8_, ha, Q_HB, Q_HO250, Q_HA_HO250, Q_X8_⟩ hb_ hon hoff
         refine ⟨_, rfl, fun K hK => ?_⟩
         have e14 : a.tmps[14]? = some (.int .i64 (wrap64 (Int.tdiv a0 8))) := by rw [ha]; exact putSel_on (e := (2, 14, .int .i64 (wrap64 (Int.tdiv a0 8)))) 0 rfl rfl (hon 2 (by kernel_rfl)) rfl
         replace ha := am ha
         have HB := am Q_HB
         refine goes_ Tryd.func66 (by kernel_rfl) rfl #[.int .i64 (wrap64 (Int.tdiv a0 8))] (by rfl) rfl rfl u10_5 ?_
         with_reducible refine (spec_FormatNumber.calls k (wrap64 (Int.tdiv a0 8)) t247 _ A18.out).mono ?_
         rintro e w25 ⟨rfl, hb⟩
         refine ⟨_, rfl, ?_⟩
         have n0_ := am (below_step u10_0 hb)
         have z_HO250 := fun (h0_ : b 5 = true) => (show Kd.R Kd.string 9 w25 w.heap.size (fun _ => True) v249 y248 from by first | exact (Kd.R_below (by (with_reducible repeat (first | apply Kd.R_alloc | apply Kd.R_drewN | apply Kd.R_drew)); exact (Q_HO250 h0_)) hb) | exact Kd.R_mono (Kd.R_below (by (with_reducible repeat (first | apply Kd.R_alloc | apply Kd.R_drewN | apply Kd.R_drew)); exact (Q_HO250 h0_)) hb) (fun _ h_ => by first | trivial | exact h_ | exact h_.1))
         clear HB
         have HB := n0_
         clear n0_
         (try clear hb)
         (try clear hb2)
         (try clear hk)
         (try clear hi)
         refine hK.out _ _ ⟨v249, adz_v249, m8_, (by rw [ha.out]; exact putSel_upk 1 hb_ rfl rfl rfl), u10_0, z_HO250, Q_HA_HO250, Q_X8_⟩
        refine steps_cons ?_ ?_
        ·rintro b a w' ⟨v249, adz_v249, m8_, ha, Q_HB, Q_HO250, Q_HA_HO250, Q_X8_⟩ hb_ hon hoff
         refine ⟨_, rfl, fun K hK => ?_⟩
         have e12 : a.tmps[12]? = some (.string (⟨#[]⟩ : ByteArray)) := by rw [ha]; exact (putSel_off rfl).trans rfl
         have e15 : a.tmps[15]? = some (.string t247) := by rw [ha]; exact putSel_on (e := (3, 15, .string t247)) 1 rfl rfl (hon 3 (by kernel_rfl)) rfl
         replace ha := am ha
         have HB := am Q_HB
         refine value_ (w1 := w') (v := .string ((⟨#[]⟩ : ByteArray) ++ t247)) (by rfl) rfl ?_ ?_
         ·go_simp
          (try simp only [i64_w])
          try rfl
         refine hK.out _ _ ⟨v249, adz_v249, m8_, (by rw [ha.out]; exact putSel_upk 2 hb_ rfl rfl rfl), Q_HB, Q_HO250, Q_HA_HO250, Q_X8_⟩
        refine steps_cons ?_ ?_
        ·rintro b a w' ⟨v249, adz_v249, m8_, ha, Q_HB, Q_HO250, Q_HA_HO250, Q_X8_⟩ hb_ hon hoff
         refine ⟨_, rfl, fun K hK => ?_⟩
         replace ha := am ha
         have HB := am Q_HB
         refine Kd.R_lit_step Kd.string _ 9 ?hg (N := 17) ?hd (xs := ([(⟨#[]⟩ : ByteArray), (⟨#[46, 49, 50, 53]⟩ : ByteArray), (⟨#[46, 50, 53]⟩ : ByteArray), (⟨#[46, 51, 55, 53]⟩ : ByteArray), (⟨#[46, 53]⟩ : ByteArray), (⟨#[46, 54, 50, 53]⟩ : ByteArray), (⟨#[46, 55, 53]⟩ : ByteArray), (⟨#[46, 56, 55, 53]⟩ : ByteArray)] : List ByteArray)) (inner := [.string (⟨#[]⟩ : ByteArray), .string (⟨#[46, 49, 50, 53]⟩ : ByteArray), .string (⟨#[46, 50, 53]⟩ : ByteArray), .string (⟨#[46, 51, 55, 53]⟩ : ByteArray), .string (⟨#[46, 53]⟩ : ByteArray), .string (⟨#[46, 54, 50, 53]⟩ : ByteArray), .string (⟨#[46, 55, 53]⟩ : ByteArray), .string (⟨#[46, 56, 55, 53]⟩ : ByteArray)]) (ok := fun _ => True) (okp := fun _ => True) ?hr ?hp (fun _ hk => hk) trivial (Below.refl _ _) (Nat.le_refl _) (by simp) ?_; (case hd => rfl); (case hg => rfl); (case hr => exact gq); (case hp => exact (Reps.one (show Kd.M Kd.string _ _ _ (⟨#[]⟩ : ByteArray) [.string (⟨#[]⟩ : ByteArray)] from rfl) (Reps.one (show Kd.M Kd.string _ _ _ (⟨#[46, 49, 50, 53]⟩ : ByteArray) [.string (⟨#[46, 49, 50, 53]⟩ : ByteArray)] from rfl) (Reps.one (show Kd.M Kd.string _ _ _ (⟨#[46, 50, 53]⟩ : ByteArray) [.string (⟨#[46, 50, 53]⟩ : ByteArray)] from rfl) (Reps.one (show Kd.M Kd.string _ _ _ (⟨#[46, 51, 55, 53]⟩ : ByteArray) [.string (⟨#[46, 51, 55, 53]⟩ : ByteArray)] from rfl) (Reps.one (show Kd.M Kd.string _ _ _ (⟨#[46, 53]⟩ : ByteArray) [.string (⟨#[46, 53]⟩ : ByteArray)] from rfl) (Reps.one (show Kd.M Kd.string _ _ _ (⟨#[46, 54, 50, 53]⟩ : ByteArray) [.string (⟨#[46, 54, 50, 53]⟩ : ByteArray)] from rfl) (Reps.one (show Kd.M Kd.string _ _ _ (⟨#[46, 55, 53]⟩ : ByteArray) [.string (⟨#[46, 55, 53]⟩ : ByteArray)] from rfl) (Reps.one (show Kd.M Kd.string _ _ _ (⟨#[46, 56, 55, 53]⟩ : ByteArray) [.string (⟨#[46, 56, 55, 53]⟩ : ByteArray)] from rfl) (Reps.none _ _))))))))))
         intro v249 w25 ho26 hb hg_ hnew_
         clear hg_ hnew_
         (first | rw [← Ny248.out] at ho26 | (simp only [Int.reduceToNat] at ho26; rw [← Ny248.out] at ho26))
         have n0_ := am (Kd.R_lower ho26 (below_size u10_0))
         have n1_ := am (below_step u10_0 hb)
         clear HB
         have HO250 := n0_
         have HB := n1_
         clear n0_ n1_ hb ho26
         obtain ⟨Ao27, co27, eo27⟩ := Kd.R_slice HO250.out
         subst eo27
         obtain ⟨ado27, fo27, _⟩ := Kd.at_string (Kd.R_reads' HO250.out).2.2 0 (by decide) (by rw [Ny248.out]; simp)
         cases fo27
         refine hK.out _ _ ⟨.slice (some ado27) y248.length co27, ado27, m8_, (by rw [ha.out]; exact putSel_upk 3 hb_ rfl rfl rfl), u10_0, fun _ => (by (with_reducible repeat (first | apply Kd.R_alloc | apply Kd.R_drewN | apply Kd.R_drew)); exact HO250.out), fun _ => ⟨_, rfl⟩, fun h0_ => absurd ((hoff 8 (by kernel_rfl)).symm.trans h0_) (by decide)⟩
        refine steps_cons ?_ ?_
        ·rintro b a w' ⟨v249, adz_v249, m8_, ha, Q_HB, Q_HO250, Q_HA_HO250, Q_X8_⟩ hb_ hon hoff
         refine ⟨_, rfl, fun K hK => ?_⟩
         have e18 : a.tmps[18]? = some (.int .i64 a0) := by rw [ha]; exact (putSel_off rfl).trans rfl
         replace ha := am ha
         have HB := am Q_HB
         refine value_ (w1 := w') (v := .int .i64 ji20) (by rfl) rfl ?_ ?_
         ·go_simp
          (try simp only [i64_w])
          try rfl
         refine hK.out _ _ ⟨v249, adz_v249, m8_, (by rw [ha.out]; exact putSel_upk 4 hb_ rfl rfl rfl), Q_HB, Q_HO250, Q_HA_HO250, fun h0_ => absurd ((hoff 8 (by kernel_rfl)).symm.trans h0_) (by decide)⟩
        refine steps_cons ?_ ?_
        ·rintro b a w' ⟨v249, adz_v249, m8_, ha, Q_HB, Q_HO250, Q_HA_HO250, Q_X8_⟩ hb_ hon hoff
         refine ⟨_, rfl, fun K hK => ?_⟩
         have e17 : a.tmps[17]? = some (v249) := by rw [ha]; exact putSel_on (e := (5, 17, v249)) 3 rfl rfl (hon 5 (by kernel_rfl)) rfl
         have e19 : a.tmps[19]? = some (.int .i64 ji20) := by rw [ha]; exact putSel_on (e := (7, 19, .int .i64 ji20)) 4 rfl rfl (hon 7 (by kernel_rfl)) rfl
         replace ha := am ha
         have HB := am Q_HB
         have HO250 := am (Q_HO250 (hon 5 (by kernel_rfl)))
         have HA_HO250 := am (Q_HA_HO250 (hon 5 (by kernel_rfl)))
         obtain ⟨c_, hv_⟩ := HA_HO250.out
         rw [hv_] at e17
         refine value_ (w1 := w') (v := .pointer (some (adz_v249.add ((ji20)).toNat))) (by rfl) rfl ?_ ?_
         ·go_simp
          (try simp only [i64_w])
          try rfl
         refine hK.out _ _ ⟨v249, adz_v249, (.pointer (some (adz_v249.add ((ji20)).toNat))), (by rw [ha.out]; exact putSel_upk 5 hb_ rfl rfl rfl), Q_HB, Q_HO250, Q_HA_HO250, fun _ => rfl⟩
        refine steps_cons ?_ ?_
        ·rintro b a w' ⟨v249, adz_v249, m8_, ha, Q_HB, Q_HO250, Q_HA_HO250, Q_X8_⟩ hb_ hon hoff
         refine ⟨_, rfl, fun K hK => ?_⟩
         have e20 : a.tmps[20]? = some (m8_) := by rw [ha]; exact putSel_on (e := (8, 20, m8_)) 5 rfl rfl (hon 8 (by kernel_rfl)) rfl
         rw [Q_X8_ (hon 8 (by kernel_rfl))] at e20
         replace ha := am ha
         have HB := am Q_HB
         have HO250 := am (Q_HO250 (hon 5 (by kernel_rfl)))
         have HA_HO250 := am (Q_HA_HO250 (hon 5 (by kernel_rfl)))
         obtain ⟨c_, hv_⟩ := HA_HO250.out
         have hF_ := HO250.out
         rw [hv_] at hF_
         obtain ⟨ad_, ea_, hx_⟩ := Kd.at_string (Kd.R_reads' hF_).2.2 (ji20) (of_eq_true pi251) (of_eq_true qi251)
         cases ea_
         refine value_ (w1 := w') (v := .string (rdOf ByteArray.empty y248 (ji20))) (by rfl) rfl ?_ ?_
         ·go_simp
          (try simp only [i64_w])
          try rfl
         refine hK.out _ _ ⟨v249, adz_v249, m8_, (by rw [ha.out]; exact putSel_upk 6 hb_ rfl rfl rfl), Q_HB, Q_HO250, Q_HA_HO250, Q_X8_⟩
        refine steps_cons ?_ ?_
        ·rintro b a w' ⟨v249, adz_v249, m8_, ha, Q_HB, Q_HO250, Q_HA_HO250, Q_X8_⟩ hb_ hon hoff
         refine ⟨_, rfl, fun K hK => ?_⟩
         have e16 : a.tmps[16]? = some (.string ((⟨#[]⟩ : ByteArray) ++ t247)) := by rw [ha]; exact putSel_on (e := (4, 16, .string ((⟨#[]⟩ : ByteArray) ++ t247))) 2 rfl rfl (hon 4 (by kernel_rfl)) rfl
         have e21 : a.tmps[21]? = some (.string (rdOf ByteArray.empty y248 (ji20))) := by rw [ha]; exact putSel_on (e := (9, 21, .string (rdOf ByteArray.empty y248 (ji20)))) 6 rfl rfl (hon 9 (by kernel_rfl)) rfl
         replace ha := am ha
         have HB := am Q_HB
         have HO250 := am (Q_HO250 (hon 5 (by kernel_rfl)))
         have HA_HO250 := am (Q_HA_HO250 (hon 5 (by kernel_rfl)))
         refine value_ (w1 := w') (v := .string (((⟨#[]⟩ : ByteArray) ++ t247) ++ (rdOf ByteArray.empty y248 (ji20)))) (by rfl) rfl ?_ ?_
         ·go_simp
          (try simp only [i64_w])
          try rfl
         refine hK.out _ _ ⟨v249, adz_v249, m8_, (by rw [ha.out]; exact putSel_upk 7 hb_ rfl rfl rfl), Q_HB, Q_HO250, Q_HA_HO250, Q_X8_⟩
        refine steps_cons ?_ ?_
        ·rintro b a w' ⟨v249, adz_v249, m8_, ha, Q_HB, Q_HO250, Q_HA_HO250, Q_X8_⟩ hb_ hon hoff
         refine ⟨_, rfl, fun K hK => ?_⟩
         have e22 : a.tmps[22]? = some (.string (((⟨#[]⟩ : ByteArray) ++ t247) ++ (rdOf ByteArray.empty y248 (ji20)))) := by rw [ha]; exact putSel_on (e := (10, 22, .string (((⟨#[]⟩ : ByteArray) ++ t247) ++ (rdOf ByteArray.empty y248 (ji20))))) 7 rfl rfl (hon 10 (by kernel_rfl)) rfl
         replace ha := am ha
         have HB := am Q_HB
         have HO250 := am (Q_HO250 (hon 5 (by kernel_rfl)))
         have HA_HO250 := am (Q_HA_HO250 (hon 5 (by kernel_rfl)))
         refine value_ (w1 := w') (v := .string (((⟨#[]⟩ : ByteArray) ++ t247) ++ (rdOf ByteArray.empty y248 (ji20)))) (by rfl) rfl ?_ ?_
         ·go_simp
          (try simp only [i64_w])
          try rfl
         refine hK.out _ _ ⟨v249, adz_v249, m8_, (by rw [ha.out]; exact putSel_upk 8 hb_ rfl rfl rfl), Q_HB, Q_HO250, Q_HA_HO250, Q_X8_⟩
        exact steps_nil
       rintro b a w29 hall ⟨v249, adz_v249, m8_, ha, Q_HB, Q_HO250, Q_HA_HO250, Q_X8_⟩
       clear HB
       have hb2_ := hall 2 (by kernel_rfl)
       have hb3_ := hall 3 (by kernel_rfl)
       have hb4_ := hall 4 (by kernel_rfl)
       have hb5_ := hall 5 (by kernel_rfl)
       have hb7_ := hall 7 (by kernel_rfl)
       have hb8_ := hall 8 (by kernel_rfl)
       have hb9_ := hall 9 (by kernel_rfl)
       have hb10_ := hall 10 (by kernel_rfl)
       have hb11_ := hall 11 (by kernel_rfl)
       subst ha
       obtain rfl := Q_X8_ hb8_
       simp only [putSel, hb2_, hb3_, hb4_, hb5_, hb7_, hb8_, hb9_, hb10_, hb11_, if_true, Act.put, List.setIfInBounds_toArray, List.set_cons_zero, List.set_cons_succ]
       have HB := am Q_HB
       clear Q_HB
       have HO250 := am (Q_HO250 hb5_)
       clear Q_HO250
       have HA_HO250 := am (Q_HA_HO250 hb5_)
       clear Q_HA_HO250 hall hb2_ hb3_ hb4_ hb5_ hb7_ hb8_ hb9_ hb10_ hb11_
       obtain ⟨co30, eo30⟩ := HA_HO250.out
       clear HA_HO250
       subst eo30
       try go_wp2
       go_ret
       exact ⟨by first | rfl | (simp [errW_none, errW_some] <;> rfl) | (simp only [← hji20]; first | rfl | (simp [errW_none, errW_some] <;> rfl)) | (simp [*, errW_none, errW_some] <;> rfl), s10_1⟩
      ·rw [if_neg c23] at H
       exact absurd H (by simp)
     ·rw [if_neg c22] at H
      exact absurd H (by simp)
    ·rw [if_neg c21] at H
     exact absurd H (by simp)
   ·rw [if_neg c19] at H
    exact absurd H (by simp)
 ·replace c3 := Bool.eq_false_iff.mpr c3
  subst c3
  have H1 : (some (⟨#[]⟩ : ByteArray)) = some r := by rw [if_neg (show ¬ (false = true) by decide)] at H; exact H
  clear H
  have H := H1
  clear H1
  obtain rfl := oi H
  go_enter Tryd.func67, Tryd.ntmps67
  go_wp2_with (first | ((with_reducible refine gate_callee (f := 90) rfl ?_); refine goesL_ (some 5) rfl rfl Tryd.func90 (by kernel_rfl) rfl #[.int .i64 a0] rfl u10_2 ?_; (with_reducible refine (spec_IsMeasure.calls a0 false _ A2.out).mono ?_); rintro e w' ⟨rfl, ⟨nd, rfl⟩⟩; refine ⟨_, rfl, ?_⟩))
  go_ret
  exact ⟨by first | rfl | (simp [*] <;> rfl), s10_1⟩

/-! ### spec_FormatPlace: function 68 -/
def spec_FormatPlace.f (k : Nat) (a0_0 : Int) (a0_1 : Int) : Option (ByteArray) := (spec_IsPlace.f a0_0 a0_1).bind fun t253 => (if t253 = true then ((spec_FormatMeasure.f k a0_0).bind fun t254 => (if a0_1 ≥ 0 then (if t254.size + 1 ≤ 9223372036854775807 then ((spec_FormatMeasure.f k a0_1).bind fun t255 => (if (t254 ++ (⟨#[43]⟩ : ByteArray)).size + t255.size ≤ 9223372036854775807 then (if ((t254 ++ (⟨#[43]⟩ : ByteArray)) ++ t255).size + 1 ≤ 9223372036854775807 then (some (((t254 ++ (⟨#[43]⟩ : ByteArray)) ++ t255) ++ (⟨#[105]⟩ : ByteArray))) else (none)) else (none))) else (none)) else ((spec_FormatMeasure.f k a0_1).bind fun t256 => (if t254.size + t256.size ≤ 9223372036854775807 then (if (t254 ++ t256).size + 1 ≤ 9223372036854775807 then (some ((t254 ++ t256) ++ (⟨#[105]⟩ : ByteArray))) else (none)) else (none))))) else (some (⟨#[]⟩ : ByteArray)))
theorem spec_FormatPlace.mono : ∀ a0 a1 k, LeO (spec_FormatPlace.f k a0 a1) (spec_FormatPlace.f (k + 1) a0 a1) := by
 intro a0 a1 k
 unfold spec_FormatPlace.f
 repeat' first
   | (with_reducible exact spec_FormatMeasure.mono _ _)
   | (with_reducible exact LeO.refl _)
   | (with_reducible exact LeO.none _)
   | (with_reducible refine LeO.ite ?_ ?_)
   | (with_reducible refine LeO.bind ?_ (fun _ => ?_))
theorem spec_FormatPlace.calls (k : Nat) (a0_0 : Int) (a0_1 : Int) (r : ByteArray) (w : World) (h : spec_FormatPlace.f k a0_0 a0_1 = some r) :
  Calls Tryd.prog 68 #[.agg #[.int .i64 a0_0, .int .i64 a0_1]] w fun e w' => e = .returned (.string r) ∧ Below w.heap.size w w' := by
 have hu36 := Tryd.underlying36
 have HB := am (Below.refl w.heap.size w)
 have H : ((spec_IsPlace.f a0_0 a0_1).bind fun t253 => (if t253 = true then ((spec_FormatMeasure.f k a0_0).bind fun t254 => (if a0_1 ≥ 0 then (if t254.size + 1 ≤ 9223372036854775807 then ((spec_FormatMeasure.f k a0_1).bind fun t255 => (if (t254 ++ (⟨#[43]⟩ : ByteArray)).size + t255.size ≤ 9223372036854775807 then (if ((t254 ++ (⟨#[43]⟩ : ByteArray)) ++ t255).size + 1 ≤ 9223372036854775807 then (some (((t254 ++ (⟨#[43]⟩ : ByteArray)) ++ t255) ++ (⟨#[105]⟩ : ByteArray))) else (none)) else (none))) else (none)) else ((spec_FormatMeasure.f k a0_1).bind fun t256 => (if t254.size + t256.size ≤ 9223372036854775807 then (if (t254 ++ t256).size + 1 ≤ 9223372036854775807 then (some ((t254 ++ t256) ++ (⟨#[105]⟩ : ByteArray))) else (none)) else (none))))) else (some (⟨#[]⟩ : ByteArray)))) = some r := h
 clear h
 replace H := ob H
 obtain ⟨t253, A20, H⟩ := H
 replace H : (if t253 = true then ((spec_FormatMeasure.f k a0_0).bind fun t254 => (if a0_1 ≥ 0 then (if t254.size + 1 ≤ 9223372036854775807 then ((spec_FormatMeasure.f k a0_1).bind fun t255 => (if (t254 ++ (⟨#[43]⟩ : ByteArray)).size + t255.size ≤ 9223372036854775807 then (if ((t254 ++ (⟨#[43]⟩ : ByteArray)) ++ t255).size + 1 ≤ 9223372036854775807 then (some (((t254 ++ (⟨#[43]⟩ : ByteArray)) ++ t255) ++ (⟨#[105]⟩ : ByteArray))) else (none)) else (none))) else (none)) else ((spec_FormatMeasure.f k a0_1).bind fun t256 => (if t254.size + t256.size ≤ 9223372036854775807 then (if (t254 ++ t256).size + 1 ≤ 9223372036854775807 then (some ((t254 ++ t256) ++ (⟨#[105]⟩ : ByteArray))) else (none)) else (none))))) else (some (⟨#[]⟩ : ByteArray))) = some r := H
 have A2 := am A20
 clear A20
 by_cases c3 : t253 = true
 ·subst c3
  have H1 : ((spec_FormatMeasure.f k a0_0).bind fun t254 => (if a0_1 ≥ 0 then (if t254.size + 1 ≤ 9223372036854775807 then ((spec_FormatMeasure.f k a0_1).bind fun t255 => (if (t254 ++ (⟨#[43]⟩ : ByteArray)).size + t255.size ≤ 9223372036854775807 then (if ((t254 ++ (⟨#[43]⟩ : ByteArray)) ++ t255).size + 1 ≤ 9223372036854775807 then (some (((t254 ++ (⟨#[43]⟩ : ByteArray)) ++ t255) ++ (⟨#[105]⟩ : ByteArray))) else (none)) else (none))) else (none)) else ((spec_FormatMeasure.f k a0_1).bind fun t256 => (if t254.size + t256.size ≤ 9223372036854775807 then (if (t254 ++ t256).size + 1 ≤ 9223372036854775807 then (some ((t254 ++ t256) ++ (⟨#[105]⟩ : ByteArray))) else (none)) else (none))))) = some r := by rw [if_pos rfl] at H; exact H
  clear H
  have H := H1
  clear H1
  replace H := ob H
  obtain ⟨t254, A40, H⟩ := H
  replace H : (if a0_1 ≥ 0 then (if t254.size + 1 ≤ 9223372036854775807 then ((spec_FormatMeasure.f k a0_1).bind fun t255 => (if (t254 ++ (⟨#[43]⟩ : ByteArray)).size + t255.size ≤ 9223372036854775807 then (if ((t254 ++ (⟨#[43]⟩ : ByteArray)) ++ t255).size + 1 ≤ 9223372036854775807 then (some (((t254 ++ (⟨#[43]⟩ : ByteArray)) ++ t255) ++ (⟨#[105]⟩ : ByteArray))) else (none)) else (none))) else (none)) else ((spec_FormatMeasure.f k a0_1).bind fun t256 => (if t254.size + t256.size ≤ 9223372036854775807 then (if (t254 ++ t256).size + 1 ≤ 9223372036854775807 then (some ((t254 ++ t256) ++ (⟨#[105]⟩ : ByteArray))) else (none)) else (none)))) = some r := H
  have A4 := am A40
  clear A40
  by_cases c5 : a0_1 ≥ 0
  ·rw [if_pos c5] at H
   have c5b0 : decide (0 ≤ a0_1) = true := decide_eq_true c5
   clear c5
   by_cases c6 : t254.size + 1 ≤ 9223372036854775807
   ·rw [if_pos c6] at H
    have c6b0 := eq_true c6
    have c6b1 : decide (t254.size + 1 ≤ 9223372036854775807) = true := decide_eq_true c6
    try have c6b2 : (9223372036854775807 < t254.size + 1) = False := eq_false (Nat.not_lt.2 c6)
    replace H := ob H
    obtain ⟨t255, A70, H⟩ := H
    replace H : (if (t254 ++ (⟨#[43]⟩ : ByteArray)).size + t255.size ≤ 9223372036854775807 then (if ((t254 ++ (⟨#[43]⟩ : ByteArray)) ++ t255).size + 1 ≤ 9223372036854775807 then (some (((t254 ++ (⟨#[43]⟩ : ByteArray)) ++ t255) ++ (⟨#[105]⟩ : ByteArray))) else (none)) else (none)) = some r := H
    have A7 := am A70
    clear A70
    by_cases c8 : (t254 ++ (⟨#[43]⟩ : ByteArray)).size + t255.size ≤ 9223372036854775807
    ·rw [if_pos c8] at H
     have c8b0 := eq_true c8
     have c8b1 : decide ((t254 ++ (⟨#[43]⟩ : ByteArray)).size + t255.size ≤ 9223372036854775807) = true := decide_eq_true c8
     try have c8b2 : (9223372036854775807 < (t254 ++ (⟨#[43]⟩ : ByteArray)).size + t255.size) = False := eq_false (Nat.not_lt.2 c8)
     try have c8b8 : (t254.size + 1 + t255.size ≤ 9223372036854775807) = True := by have t_ := c8b0; first | (simp only [ByteArray.size_append, Nat.zero_add, Nat.add_zero] at t_; exact t_) | (have t2_ := of_eq_true t_; simp only [ByteArray.size_append] at t2_; exact eq_true u10_3)
     try have c8b9 : (9223372036854775807 < t254.size + 1 + t255.size) = False := by have t_ := c8b2; first | (simp only [ByteArray.size_append] at t_; exact t_) | (have t2_ := c8b8; exact eq_false (Nat.not_lt.2 (of_eq_true t2_)))
     by_cases c9 : ((t254 ++ (⟨#[43]⟩ : ByteArray)) ++ t255).size + 1 ≤ 9223372036854775807
     ·rw [if_pos c9] at H
      have c9b0 := eq_true c9
      have c9b1 : decide (((t254 ++ (⟨#[43]⟩ : ByteArray)) ++ t255).size + 1 ≤ 9223372036854775807) = true := decide_eq_true c9
      try have c9b2 : (9223372036854775807 < ((t254 ++ (⟨#[43]⟩ : ByteArray)) ++ t255).size + 1) = False := eq_false (Nat.not_lt.2 c9)
      try have c9b8 : (t254.size + 1 + t255.size + 1 ≤ 9223372036854775807) = True := by have t_ := c9b0; first | (simp only [ByteArray.size_append, Nat.zero_add, Nat.add_zero] at t_; exact t_) | (have t2_ := of_eq_true t_; simp only [ByteArray.size_append] at t2_; exact eq_true u10_3)
      try have c9b9 : (9223372036854775807 < t254.size + 1 + t255.size + 1) = False := by have t_ := c9b2; first | (simp only [ByteArray.size_append] at t_; exact t_) | (have t2_ := c9b8; exact eq_false (Nat.not_lt.2 (of_eq_true t2_)))
      obtain rfl := oi H
      go_enter Tryd.func68, Tryd.ntmps68
      go_wp2_with (first | ((with_reducible refine gate_dst (N := 1) rfl ?_); refine box_event ?hg (N := 1) ?hd (cs := #[.int .i64 a0_0, .int .i64 a0_1]) (t := 36) ?hr ?_; (case hd => rfl); (case hg => rfl); (case hr => exact gq); intro gb252 hg w10 hbox hb; have n0_ := am (below_step u10_0 hb); have n1_ := am (hbox); have n2_ := bsw w hg (below_size u10_0); have n3_ := bsw w hg (below_size u10_0); clear HB; have HB := n0_; have BK252 := n1_; have GW252 := n2_; have GE252 := n3_; clear n0_ n1_ n2_ n3_ hb hbox hg; obtain ⟨hcz11_0, hcz11_1, hfz11_0, hfz11_1⟩ := cf2 BK252.out) | ((with_reducible refine gate_callee (f := 60) rfl ?_); refine goesL_ (some 5) rfl rfl Tryd.func60 (by kernel_rfl) rfl #[.agg #[.int .i64 a0_0, .int .i64 a0_1]] rfl u10_2 ?_; (with_reducible refine (spec_IsPlace.calls a0_0 a0_1 true _ A2.out).mono ?_); rintro e w12 ⟨rfl, hb⟩; refine ⟨_, rfl, ?_⟩; have n0_ := am (blk_below (g := gb252) (o := zo2 a0_0 a0_1) u10_4 hb); have n1_ := am (below_step u10_1 hb); clear BK252 HB; have BK252 := n0_; have HB := n1_; clear n0_ n1_; (try clear hb); (try clear hb2); (try clear hk); (try clear hi); obtain ⟨hcz13_0, hcz13_1, hfz13_0, hfz13_1⟩ := cf2 BK252.out) | ((with_reducible refine gate_callee (f := 67) rfl ?_); refine goesL_ (some 9) rfl rfl Tryd.func67 (by kernel_rfl) rfl #[.int .i64 a0_0] rfl u10_2 ?_; (with_reducible refine (spec_FormatMeasure.calls k a0_0 t254 _ A4.out).mono ?_); rintro e w14 ⟨rfl, hb⟩; refine ⟨_, rfl, ?_⟩; have n0_ := am (blk_below (g := gb252) (o := zo2 a0_0 a0_1) u10_4 hb); have n1_ := am (below_step u10_1 hb); clear BK252 HB; have BK252 := n0_; have HB := n1_; clear n0_ n1_; (try clear hb); (try clear hb2); (try clear hk); (try clear hi); obtain ⟨hcz15_0, hcz15_1, hfz15_0, hfz15_1⟩ := cf2 BK252.out) | ((with_reducible refine gate_callee (f := 67) rfl ?_); refine goesL_ (some 18) rfl rfl Tryd.func67 (by kernel_rfl) rfl #[.int .i64 a0_1] rfl u10_2 ?_; (with_reducible refine (spec_FormatMeasure.calls k a0_1 t255 _ A7.out).mono ?_); rintro e w16 ⟨rfl, hb⟩; refine ⟨_, rfl, ?_⟩; have n0_ := am (blk_below (g := gb252) (o := zo2 a0_0 a0_1) u10_4 hb); have n1_ := am (below_step u10_1 hb); clear BK252 HB; have BK252 := n0_; have HB := n1_; clear n0_ n1_; (try clear hb); (try clear hb2); (try clear hk); (try clear hi)))
      go_ret
      exact ⟨by first | rfl | (simp [*] <;> rfl), s10_0⟩
     ·rw [if_neg c9] at H
      exact absurd H (by simp)
    ·rw [if_neg c8] at H
     exact absurd H (by simp)
   ·rw [if_neg c6] at H
    exact absurd H (by simp)
  ·rw [if_neg c5] at H
   have c5b0 : decide (0 ≤ a0_1) = false := decide_eq_false c5
   clear c5
   replace H := ob H
   obtain ⟨t256, A170, H⟩ := H
   replace H : (if t254.size + t256.size ≤ 9223372036854775807 then (if (t254 ++ t256).size + 1 ≤ 9223372036854775807 then (some ((t254 ++ t256) ++ (⟨#[105]⟩ : ByteArray))) else (none)) else (none)) = some r := H
   have A17 := am A170
   clear A170
   by_cases c18 : t254.size + t256.size ≤ 9223372036854775807
   ·rw [if_pos c18] at H
    have c18b0 := eq_true c18
    have c18b1 : decide (t254.size + t256.size ≤ 9223372036854775807) = true := decide_eq_true c18
    try have c18b2 : (9223372036854775807 < t254.size + t256.size) = False := eq_false (Nat.not_lt.2 c18)
    by_cases c19 : (t254 ++ t256).size + 1 ≤ 9223372036854775807
    ·rw [if_pos c19] at H
     have c19b0 := eq_true c19
     have c19b1 : decide ((t254 ++ t256).size + 1 ≤ 9223372036854775807) = true := decide_eq_true c19
     try have c19b2 : (9223372036854775807 < (t254 ++ t256).size + 1) = False := eq_false (Nat.not_lt.2 c19)
     try have c19b8 : (t254.size + t256.size + 1 ≤ 9223372036854775807) = True := by have t_ := c19b0; first | (simp only [ByteArray.size_append, Nat.zero_add, Nat.add_zero] at t_; exact t_) | (have t2_ := of_eq_true t_; simp only [ByteArray.size_append] at t2_; exact eq_true u10_3)
     try have c19b9 : (9223372036854775807 < t254.size + t256.size + 1) = False := by have t_ := c19b2; first | (simp only [ByteArray.size_append] at t_; exact t_) | (have t2_ := c19b8; exact eq_false (Nat.not_lt.2 (of_eq_true t2_)))
     obtain rfl := oi H
     go_enter Tryd.func68, Tryd.ntmps68
     go_wp2_with (first | ((with_reducible refine gate_dst (N := 1) rfl ?_); refine box_event ?hg (N := 1) ?hd (cs := #[.int .i64 a0_0, .int .i64 a0_1]) (t := 36) ?hr ?_; (case hd => rfl); (case hg => rfl); (case hr => exact gq); intro gb252 hg w20 hbox hb; have n0_ := am (below_step u10_0 hb); have n1_ := am (hbox); have n2_ := bsw w hg (below_size u10_0); have n3_ := bsw w hg (below_size u10_0); clear HB; have HB := n0_; have BK252 := n1_; have GW252 := n2_; have GE252 := n3_; clear n0_ n1_ n2_ n3_ hb hbox hg; obtain ⟨hcz21_0, hcz21_1, hfz21_0, hfz21_1⟩ := cf2 BK252.out) | ((with_reducible refine gate_callee (f := 60) rfl ?_); refine goesL_ (some 5) rfl rfl Tryd.func60 (by kernel_rfl) rfl #[.agg #[.int .i64 a0_0, .int .i64 a0_1]] rfl u10_2 ?_; (with_reducible refine (spec_IsPlace.calls a0_0 a0_1 true _ A2.out).mono ?_); rintro e w22 ⟨rfl, hb⟩; refine ⟨_, rfl, ?_⟩; have n0_ := am (blk_below (g := gb252) (o := zo2 a0_0 a0_1) u10_4 hb); have n1_ := am (below_step u10_1 hb); clear BK252 HB; have BK252 := n0_; have HB := n1_; clear n0_ n1_; (try clear hb); (try clear hb2); (try clear hk); (try clear hi); obtain ⟨hcz23_0, hcz23_1, hfz23_0, hfz23_1⟩ := cf2 BK252.out) | ((with_reducible refine gate_callee (f := 67) rfl ?_); refine goesL_ (some 9) rfl rfl Tryd.func67 (by kernel_rfl) rfl #[.int .i64 a0_0] rfl u10_2 ?_; (with_reducible refine (spec_FormatMeasure.calls k a0_0 t254 _ A4.out).mono ?_); rintro e w24 ⟨rfl, hb⟩; refine ⟨_, rfl, ?_⟩; have n0_ := am (blk_below (g := gb252) (o := zo2 a0_0 a0_1) u10_4 hb); have n1_ := am (below_step u10_1 hb); clear BK252 HB; have BK252 := n0_; have HB := n1_; clear n0_ n1_; (try clear hb); (try clear hb2); (try clear hk); (try clear hi); obtain ⟨hcz25_0, hcz25_1, hfz25_0, hfz25_1⟩ := cf2 BK252.out) | ((with_reducible refine gate_callee (f := 67) rfl ?_); refine goesL_ (some 18) rfl rfl Tryd.func67 (by kernel_rfl) rfl #[.int .i64 a0_1] rfl u10_2 ?_; (with_reducible refine (spec_FormatMeasure.calls k a0_1 t256 _ A17.out).mono ?_); rintro e w26 ⟨rfl, hb⟩; refine ⟨_, rfl, ?_⟩; have n0_ := am (blk_below (g := gb252) (o := zo2 a0_0 a0_1) u10_4 hb); have n1_ := am (below_step u10_1 hb); clear BK252 HB; have BK252 := n0_; have HB := n1_; clear n0_ n1_; (try clear hb); (try clear hb2); (try clear hk); (try clear hi)))
     go_ret
     exact ⟨by first | rfl | (simp [*] <;> rfl), s10_0⟩
    ·rw [if_neg c19] at H
     exact absurd H (by simp)
   ·rw [if_neg c18] at H
    exact absurd H (by simp)
 ·replace c3 := Bool.eq_false_iff.mpr c3
  subst c3
  have H1 : (some (⟨#[]⟩ : ByteArray)) = some r := by rw [if_neg (show ¬ (false = true) by decide)] at H; exact H
  clear H
  have H := H1
  clear H1
  obtain rfl := oi H
  go_enter Tryd.func68, Tryd.ntmps68
  go_wp2_with (first | ((with_reducible refine gate_dst (N := 1) rfl ?_); refine box_event ?hg (N := 1) ?hd (cs := #[.int .i64 a0_0, .int .i64 a0_1]) (t := 36) ?hr ?_; (case hd => rfl); (case hg => rfl); (case hr => exact gq); intro gb252 hg w27 hbox hb; have n0_ := am (below_step u10_0 hb); have n1_ := am (hbox); have n2_ := bsw w hg (below_size u10_0); have n3_ := bsw w hg (below_size u10_0); clear HB; have HB := n0_; have BK252 := n1_; have GW252 := n2_; have GE252 := n3_; clear n0_ n1_ n2_ n3_ hb hbox hg; obtain ⟨hcz28_0, hcz28_1, hfz28_0, hfz28_1⟩ := cf2 BK252.out) | ((with_reducible refine gate_callee (f := 60) rfl ?_); refine goesL_ (some 5) rfl rfl Tryd.func60 (by kernel_rfl) rfl #[.agg #[.int .i64 a0_0, .int .i64 a0_1]] rfl u10_2 ?_; (with_reducible refine (spec_IsPlace.calls a0_0 a0_1 false _ A2.out).mono ?_); rintro e w29 ⟨rfl, hb⟩; refine ⟨_, rfl, ?_⟩; have n0_ := am (blk_below (g := gb252) (o := zo2 a0_0 a0_1) u10_4 hb); have n1_ := am (below_step u10_1 hb); clear BK252 HB; have BK252 := n0_; have HB := n1_; clear n0_ n1_; (try clear hb); (try clear hb2); (try clear hk); (try clear hi)))
  go_ret
  exact ⟨by first | rfl | (simp [*] <;> rfl), s10_0⟩

end Go.Proofs.YthofcclbkihemaaDoor.MFnExactParseDevice
