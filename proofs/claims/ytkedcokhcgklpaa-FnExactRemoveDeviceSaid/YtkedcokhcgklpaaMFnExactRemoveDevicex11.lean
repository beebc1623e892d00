-- Written by a program for this claim.
import Derived.Test.YtkedcokhcgklpaaMFnExactRemoveDevicex0
import Derived.Test.YtkedcokhcgklpaaMFnExactRemoveDevicex3
namespace Go.Proofs.Ytkedcokhcgklpaa.MFnExactRemoveDevice
open Go.RowKit Go.Proofs.YtkedcokhcgklpaaW.PrintWords Go.Proofs.YtkedcokhcgklpaaW.PrintLast Go.Proofs.YtkedcokhcgklpaaW.PrintMore
attribute [local go_sem] max2_int min2_int max_two min_two max_three min_three max_four min_four   -- for this text's walks alone
set_option linter.unusedVariables false
set_option linter.unusedSimpArgs false

abbrev mk11_0 : Array Bool := #[false, false, false, false, false, false, false, false]
abbrev mk11_1 : Array Bool := #[true, false, false, false, false, false, false, false]
abbrev mk11_2 : Array Bool := #[true, true, false, false, false, false, false, false]
abbrev mk11_3 : Array Bool := #[true, true, true, false, false, false, false, false]
abbrev mk11_4 : Array Bool := #[true, true, true, true, false, false, false, false]
abbrev mk11_5 : Array Bool := #[true, true, true, true, false, true, false, false]
abbrev mk11_6 : Array Bool := #[true, true, true, true, true, true, false, false]
abbrev mk11_7 : Array Bool := #[true, true, true, true, true, true, true, false]
abbrev mk11_8 : Array Bool := #[true, true, true, true, true, true, true, true]
theorem u11_0 {p : Prop} (h : p := by repeat (first | (with_reducible first | exact HB.out | apply below_alloc | apply pw_below_drewN | apply below_drew1) | exact HB.out)) : p := h
theorem u11_1 {p : Prop} (h : p := by (try simp only [List.map_toArray, List.map_cons, List.map_nil]); first | done | rfl) : p := h
theorem u11_2 {p : Prop} (h : p := by assumption) : p := h
/-! ### laws_heldDeviceS: function 41 -/
def laws_heldDeviceS.l0 : Nat → List (S30) → Int → Int → Option (Int)
 | 0, _, _, _ => none
 | k + 1, x0, x1, x5 => if x5 < (x0.length : Int) then (if 0 ≤ x5 then ((laws_markText.f k x1).bind fun t273 => (if ((rd_T30 x0 x5).f0).toList = t273.toList then (if ((rd_T30 x0 x5).f1) = (wrap64 (x1 + 1)) then ((laws_markText.f k (wrap64 ((wrap64 (x1 + 1)) + 1))).bind fun t276 => (if ((rd_T30 x0 x5).f2).toList = t276.toList then (if ((rd_T30 x0 x5).f3.f0) = (wrap64 ((wrap64 ((wrap64 (x1 + 1)) + 1)) + 1)) then (if ((rd_T30 x0 x5).f3.f1) = (wrap64 ((wrap64 ((wrap64 ((wrap64 (x1 + 1)) + 1)) + 1)) + 1)) then (if ((rd_T30 x0 x5).f4) = (wrap64 ((wrap64 ((wrap64 ((wrap64 ((wrap64 (x1 + 1)) + 1)) + 1)) + 1)) + 1)) then (if ((rd_T30 x0 x5).f5) = (wrap64 ((wrap64 ((wrap64 ((wrap64 ((wrap64 ((wrap64 (x1 + 1)) + 1)) + 1)) + 1)) + 1)) + 1)) then (if ((rd_T30 x0 x5).f6) = (wrap64 ((wrap64 ((wrap64 ((wrap64 ((wrap64 ((wrap64 ((wrap64 (x1 + 1)) + 1)) + 1)) + 1)) + 1)) + 1)) + 1)) then (laws_heldDeviceS.l0 k x0 (wrap64 ((wrap64 ((wrap64 ((wrap64 ((wrap64 ((wrap64 ((wrap64 ((wrap64 (x1 + 1)) + 1)) + 1)) + 1)) + 1)) + 1)) + 1)) + 1)) (wrap64 (x5 + 1))) else (some (-1))) else (some (-1))) else (some (-1))) else (some (-1))) else (some (-1))) else (some (-1)))) else (some (-1))) else (some (-1)))) else (none)) else (some x1)
def laws_heldDeviceS.f (k : Nat) (l0 : List (S30)) (a1 : Int) : Option (Int) := laws_heldDeviceS.l0 k l0 a1 0
theorem laws_heldDeviceS.mono_l : ∀ k, (∀ y0 y1 y2, LeO (laws_heldDeviceS.l0 k y0 y1 y2) (laws_heldDeviceS.l0 (k + 1) y0 y1 y2))
 | 0 => fun _ _ _ r h => by simp [laws_heldDeviceS.l0] at h
 | k + 1 => by
  have ih0 := laws_heldDeviceS.mono_l k
  ·intro y0 y1 y2
   unfold laws_heldDeviceS.l0
   repeat' first
   | (with_reducible exact ih0 _ _ _)
   | (with_reducible exact laws_markText.mono _ _)
   | (with_reducible exact LeO.refl _)
   | (with_reducible exact LeO.none _)
   | (with_reducible refine LeO.ite ?_ ?_)
   | (with_reducible refine LeO.bind ?_ (fun _ => ?_))
   | exact ih0 _ _ _
   | exact laws_markText.mono _ _
   | exact LeO.none _
   | refine LeO.ite ?_ ?_
   | refine LeO.bind ?_ (fun _ => ?_)
theorem laws_heldDeviceS.mono : ∀ a0 a1 k, LeO (laws_heldDeviceS.f k a0 a1) (laws_heldDeviceS.f (k + 1) a0 a1) := by
 intro a0 a1 k
 have ih0 := laws_heldDeviceS.mono_l k
 unfold laws_heldDeviceS.f
 repeat' first
   | (with_reducible exact ih0 _ _ _)
   | (with_reducible exact laws_markText.mono _ _)
   | (with_reducible exact LeO.refl _)
   | (with_reducible exact LeO.none _)
   | (with_reducible refine LeO.ite ?_ ?_)
   | (with_reducible refine LeO.bind ?_ (fun _ => ?_))
   | exact ih0 _ _ _
   | exact laws_markText.mono _ _
   | exact LeO.none _
   | refine LeO.ite ?_ ?_
   | refine LeO.bind ?_ (fun _ => ?_)
def laws_heldDeviceS.T4 : Bool × List (List Nat × List Nat) := (true, [([], []), ([], []), ([0, 1], [0, 1]), ([2], [2]), ([3], [3]), ([], []), ([5], [5]), ([4, 6], [4, 6])])
def laws_heldDeviceS.B4 : List Nat := [0, 0, 3, 7, 15, 0, 32, 127]
theorem laws_heldDeviceS.tab4 : rtab .any (opsOf Try.f41 4) = laws_heldDeviceS.T4 := by kernel_rfl
theorem laws_heldDeviceS.bits4 : waitsOk laws_heldDeviceS.T4.2 laws_heldDeviceS.B4 = true := by kernel_rfl
def laws_heldDeviceS.T10 : Bool × List (List Nat × List Nat) := (true, [([], []), ([], []), ([0, 1], [0, 1]), ([2], [2]), ([3], [3]), ([], []), ([5], [5]), ([4, 6], [4, 6])])
def laws_heldDeviceS.B10 : List Nat := [0, 0, 3, 7, 15, 0, 32, 127]
theorem laws_heldDeviceS.tab10 : rtab .any (opsOf Try.f41 10) = laws_heldDeviceS.T10 := by kernel_rfl
theorem laws_heldDeviceS.bits10 : waitsOk laws_heldDeviceS.T10.2 laws_heldDeviceS.B10 = true := by kernel_rfl
set_option maxHeartbeats 8000000 in
set_option maxRecDepth 100000 in
theorem laws_heldDeviceS.calls (k : Nat) (A0 : Option Addr) (c0 : Nat) (l0 : List (S30)) (a1 : Int) (r : Int) (w : World) (hr0 : Kd.C k30 w A0 l0.length l0) (hc0 : l0.length ≤ c0) (h : laws_heldDeviceS.f k l0 a1 = some r) :
  Calls Try.prog 41 #[.slice A0 l0.length c0, .int .i64 a1] w fun e w' => e = .returned (.int .i64 r) ∧ Below w.heap.size w w' := by
 have HR0 := Aside0.mk hr0
 have HC0 := Aside0.mk hc0
 clear hr0 hc0
 have HB := Aside0.mk (Below.refl w.heap.size w)
 have H : (laws_heldDeviceS.l0 k l0 a1 0) = some r := h
 clear h
 have H' := Aside0.mk H
 clear H
 go_enter Try.func41, Try.ntmps41
 go_wp2
 go_loopg [1, 5] k (fun kq v1 v5 w' => ∃ (x1_1 : Int) (x5_1 : Int), v1 = .int .i64 x1_1 ∧ v5 = .int .i64 x5_1 ∧ Aside0 (laws_heldDeviceS.l0 kq l0 x1_1 x5_1 = some r) ∧ Aside0 (kq ≤ k) ∧ Aside0 (Below w.heap.size w w'))
 case atStart => exact ⟨(a1), (0), (by first | rfl | (simp; done) | (simp [*]; done)), (by first | rfl | (simp; done) | (simp [*]; done)), H', ⟨Nat.le_refl _⟩, ⟨by repeat (first | (with_reducible first | exact HB.out | apply below_alloc | apply pw_below_drewN | apply below_drew1) | exact HB.out)⟩⟩
 case round =>
  clear H'
  try clear p2
  obtain ⟨x1_1, x5_1, rfl, rfl, HA, HK1, HB⟩ := hrel
  cases gk with
  | zero => exact absurd HA.out (by simp [laws_heldDeviceS.l0])
  | succ k1 =>
   have H := HA.out
   clear HA
   simp only [laws_heldDeviceS.l0] at H
   by_cases c3 : x5_1 < (l0.length : Int)
   ·rw [if_pos c3] at H
    have c3b0 : decide (x5_1 < (l0.length : Int)) = true := decide_eq_true c3
    clear c3
    by_cases c4 : 0 ≤ x5_1
    ·rw [if_pos c4] at H
     have c4b0 : decide (0 ≤ x5_1) = true := decide_eq_true c4
     clear c4
     replace H := Option.bind_eq_some_iff.mp H
     obtain ⟨t273, A50, H⟩ := H
     replace H : (if ((rd_T30 l0 x5_1).f0).toList = t273.toList then (if ((rd_T30 l0 x5_1).f1) = (wrap64 (x1_1 + 1)) then ((laws_markText.f k1 (wrap64 ((wrap64 (x1_1 + 1)) + 1))).bind fun t276 => (if ((rd_T30 l0 x5_1).f2).toList = t276.toList then (if ((rd_T30 l0 x5_1).f3.f0) = (wrap64 ((wrap64 ((wrap64 (x1_1 + 1)) + 1)) + 1)) then (if ((rd_T30 l0 x5_1).f3.f1) = (wrap64 ((wrap64 ((wrap64 ((wrap64 (x1_1 + 1)) + 1)) + 1)) + 1)) then (if ((rd_T30 l0 x5_1).f4) = (wrap64 ((wrap64 ((wrap64 ((wrap64 ((wrap64 (x1_1 + 1)) + 1)) + 1)) + 1)) + 1)) then (if ((rd_T30 l0 x5_1).f5) = (wrap64 ((wrap64 ((wrap64 ((wrap64 ((wrap64 ((wrap64 (x1_1 + 1)) + 1)) + 1)) + 1)) + 1)) + 1)) then (if ((rd_T30 l0 x5_1).f6) = (wrap64 ((wrap64 ((wrap64 ((wrap64 ((wrap64 ((wrap64 ((wrap64 (x1_1 + 1)) + 1)) + 1)) + 1)) + 1)) + 1)) + 1)) then (laws_heldDeviceS.l0 k1 l0 (wrap64 ((wrap64 ((wrap64 ((wrap64 ((wrap64 ((wrap64 ((wrap64 ((wrap64 (x1_1 + 1)) + 1)) + 1)) + 1)) + 1)) + 1)) + 1)) + 1)) (wrap64 (x5_1 + 1))) else (some (-1))) else (some (-1))) else (some (-1))) else (some (-1))) else (some (-1))) else (some (-1)))) else (some (-1))) else (some (-1))) = some r := H
     have A5 := Aside0.mk A50
     clear A50
     by_cases c6 : ((rd_T30 l0 x5_1).f0).toList = t273.toList
     ·rw [if_pos c6] at H
      have c6b0 : (((rd_T30 l0 x5_1).f0).toList == t273.toList) = true := beq_iff_eq.mpr c6
      have c6b1 : (((rd_T30 l0 x5_1).f0).toList != t273.toList) = false := bne_eq_false_iff_eq.mpr c6
      clear c6
      by_cases c7 : ((rd_T30 l0 x5_1).f1) = (wrap64 (x1_1 + 1))
      ·rw [if_pos c7] at H
       have c7b0 : (((rd_T30 l0 x5_1).f1) == (wrap64 (x1_1 + 1))) = true := beq_iff_eq.mpr c7
       have c7b1 : (((rd_T30 l0 x5_1).f1) != (wrap64 (x1_1 + 1))) = false := bne_eq_false_iff_eq.mpr c7
       clear c7
       replace H := Option.bind_eq_some_iff.mp H
       obtain ⟨t276, A80, H⟩ := H
       replace H : (if ((rd_T30 l0 x5_1).f2).toList = t276.toList then (if ((rd_T30 l0 x5_1).f3.f0) = (wrap64 ((wrap64 ((wrap64 (x1_1 + 1)) + 1)) + 1)) then (if ((rd_T30 l0 x5_1).f3.f1) = (wrap64 ((wrap64 ((wrap64 ((wrap64 (x1_1 + 1)) + 1)) + 1)) + 1)) then (if ((rd_T30 l0 x5_1).f4) = (wrap64 ((wrap64 ((wrap64 ((wrap64 ((wrap64 (x1_1 + 1)) + 1)) + 1)) + 1)) + 1)) then (if ((rd_T30 l0 x5_1).f5) = (wrap64 ((wrap64 ((wrap64 ((wrap64 ((wrap64 ((wrap64 (x1_1 + 1)) + 1)) + 1)) + 1)) + 1)) + 1)) then (if ((rd_T30 l0 x5_1).f6) = (wrap64 ((wrap64 ((wrap64 ((wrap64 ((wrap64 ((wrap64 ((wrap64 (x1_1 + 1)) + 1)) + 1)) + 1)) + 1)) + 1)) + 1)) then (laws_heldDeviceS.l0 k1 l0 (wrap64 ((wrap64 ((wrap64 ((wrap64 ((wrap64 ((wrap64 ((wrap64 ((wrap64 (x1_1 + 1)) + 1)) + 1)) + 1)) + 1)) + 1)) + 1)) + 1)) (wrap64 (x5_1 + 1))) else (some (-1))) else (some (-1))) else (some (-1))) else (some (-1))) else (some (-1))) else (some (-1))) = some r := H
       have A8 := Aside0.mk A80
       clear A80
       by_cases c9 : ((rd_T30 l0 x5_1).f2).toList = t276.toList
       ·rw [if_pos c9] at H
        have c9b0 : (((rd_T30 l0 x5_1).f2).toList == t276.toList) = true := beq_iff_eq.mpr c9
        have c9b1 : (((rd_T30 l0 x5_1).f2).toList != t276.toList) = false := bne_eq_false_iff_eq.mpr c9
        clear c9
        by_cases c10 : ((rd_T30 l0 x5_1).f3.f0) = (wrap64 ((wrap64 ((wrap64 (x1_1 + 1)) + 1)) + 1))
        ·rw [if_pos c10] at H
         have c10b0 : (((rd_T30 l0 x5_1).f3.f0) == (wrap64 ((wrap64 ((wrap64 (x1_1 + 1)) + 1)) + 1))) = true := beq_iff_eq.mpr c10
         have c10b1 : (((rd_T30 l0 x5_1).f3.f0) != (wrap64 ((wrap64 ((wrap64 (x1_1 + 1)) + 1)) + 1))) = false := bne_eq_false_iff_eq.mpr c10
         clear c10
         by_cases c11 : ((rd_T30 l0 x5_1).f3.f1) = (wrap64 ((wrap64 ((wrap64 ((wrap64 (x1_1 + 1)) + 1)) + 1)) + 1))
         ·rw [if_pos c11] at H
          have c11b0 : (((rd_T30 l0 x5_1).f3.f1) == (wrap64 ((wrap64 ((wrap64 ((wrap64 (x1_1 + 1)) + 1)) + 1)) + 1))) = true := beq_iff_eq.mpr c11
          have c11b1 : (((rd_T30 l0 x5_1).f3.f1) != (wrap64 ((wrap64 ((wrap64 ((wrap64 (x1_1 + 1)) + 1)) + 1)) + 1))) = false := bne_eq_false_iff_eq.mpr c11
          clear c11
          by_cases c12 : ((rd_T30 l0 x5_1).f4) = (wrap64 ((wrap64 ((wrap64 ((wrap64 ((wrap64 (x1_1 + 1)) + 1)) + 1)) + 1)) + 1))
          ·rw [if_pos c12] at H
           have c12b0 : (((rd_T30 l0 x5_1).f4) == (wrap64 ((wrap64 ((wrap64 ((wrap64 ((wrap64 (x1_1 + 1)) + 1)) + 1)) + 1)) + 1))) = true := beq_iff_eq.mpr c12
           have c12b1 : (((rd_T30 l0 x5_1).f4) != (wrap64 ((wrap64 ((wrap64 ((wrap64 ((wrap64 (x1_1 + 1)) + 1)) + 1)) + 1)) + 1))) = false := bne_eq_false_iff_eq.mpr c12
           clear c12
           by_cases c13 : ((rd_T30 l0 x5_1).f5) = (wrap64 ((wrap64 ((wrap64 ((wrap64 ((wrap64 ((wrap64 (x1_1 + 1)) + 1)) + 1)) + 1)) + 1)) + 1))
           ·rw [if_pos c13] at H
            have c13b0 : (((rd_T30 l0 x5_1).f5) == (wrap64 ((wrap64 ((wrap64 ((wrap64 ((wrap64 ((wrap64 (x1_1 + 1)) + 1)) + 1)) + 1)) + 1)) + 1))) = true := beq_iff_eq.mpr c13
            have c13b1 : (((rd_T30 l0 x5_1).f5) != (wrap64 ((wrap64 ((wrap64 ((wrap64 ((wrap64 ((wrap64 (x1_1 + 1)) + 1)) + 1)) + 1)) + 1)) + 1))) = false := bne_eq_false_iff_eq.mpr c13
            clear c13
            by_cases c14 : ((rd_T30 l0 x5_1).f6) = (wrap64 ((wrap64 ((wrap64 ((wrap64 ((wrap64 ((wrap64 ((wrap64 (x1_1 + 1)) + 1)) + 1)) + 1)) + 1)) + 1)) + 1))
            ·rw [if_pos c14] at H
             have c14b0 : (((rd_T30 l0 x5_1).f6) == (wrap64 ((wrap64 ((wrap64 ((wrap64 ((wrap64 ((wrap64 ((wrap64 (x1_1 + 1)) + 1)) + 1)) + 1)) + 1)) + 1)) + 1))) = true := beq_iff_eq.mpr c14
             have c14b1 : (((rd_T30 l0 x5_1).f6) != (wrap64 ((wrap64 ((wrap64 ((wrap64 ((wrap64 ((wrap64 ((wrap64 (x1_1 + 1)) + 1)) + 1)) + 1)) + 1)) + 1)) + 1))) = false := bne_eq_false_iff_eq.mpr c14
             clear c14
             have H' := Aside0.mk H
             clear H
             try go_wp2
             have n0_ := Aside0.mk (below_drew1 HB.out)
             clear HB
             have HB := n0_
             clear n0_
             have p272 : 0 ≤ (x5_1 : Int) := of_decide_eq_true u11_2
             have q272 : x5_1 < (l0.length : Int) := of_decide_eq_true u11_2
             obtain ⟨ad272, e272, hx272_0, hx272_1, hx272_2, hx272_3, hx272_4, hx272_5, hx272_6, hx272_7⟩ := at_T30 HR0.out x5_1 p272 q272
             have hw272_7 := hx272_7
             have hw272_6 := hx272_6
             have hw272_5 := hx272_5
             have hw272_4 := hx272_4
             have hw272_3 := hx272_3
             have hw272_2 := hx272_2
             have hw272_1 := hx272_1
             have hw272_0 := hx272_0
             cases e272
             replace hx272_0 := bc HB.out hx272_0
             replace hx272_1 := bc HB.out hx272_1
             replace hx272_2 := bc HB.out hx272_2
             replace hx272_3 := bc HB.out hx272_3
             replace hx272_4 := bc HB.out hx272_4
             replace hx272_5 := bc HB.out hx272_5
             replace hx272_6 := bc HB.out hx272_6
             replace hx272_7 := bc HB.out hx272_7
             replace p272 := eq_true p272
             replace q272 := eq_true q272
             refine start_ (n := 8) (S := fun w' => w'.cell? (ad272.add ((x5_1).toNat * 8)) = some (.string ((rd_T30 l0 x5_1).f0)) ∧ w'.cell? ⟨(ad272.add ((x5_1).toNat * 8)).block, (ad272.add ((x5_1).toNat * 8)).off + 1, none⟩ = some (.int .i64 ((rd_T30 l0 x5_1).f1)) ∧ w'.cell? ⟨(ad272.add ((x5_1).toNat * 8)).block, (ad272.add ((x5_1).toNat * 8)).off + 2, none⟩ = some (.string ((rd_T30 l0 x5_1).f2)) ∧ w'.cell? ⟨(ad272.add ((x5_1).toNat * 8)).block, (ad272.add ((x5_1).toNat * 8)).off + 3, none⟩ = some (.int .i64 ((rd_T30 l0 x5_1).f3.f0)) ∧ w'.cell? ⟨(ad272.add ((x5_1).toNat * 8)).block, (ad272.add ((x5_1).toNat * 8)).off + 4, none⟩ = some (.int .i64 ((rd_T30 l0 x5_1).f3.f1)) ∧ w'.cell? ⟨(ad272.add ((x5_1).toNat * 8)).block, (ad272.add ((x5_1).toNat * 8)).off + 5, none⟩ = some (.int .i64 ((rd_T30 l0 x5_1).f4)) ∧ w'.cell? ⟨(ad272.add ((x5_1).toNat * 8)).block, (ad272.add ((x5_1).toNat * 8)).off + 6, none⟩ = some (.int .i64 ((rd_T30 l0 x5_1).f5)) ∧ w'.cell? ⟨(ad272.add ((x5_1).toNat * 8)).block, (ad272.add ((x5_1).toNat * 8)).off + 7, none⟩ = some (.int .i64 ((rd_T30 l0 x5_1).f6))) (ds := []) mk11_0 (by kernel_rfl) rfl rfl ⟨(bc HB.out hw272_0), (bc HB.out hw272_1), (bc HB.out hw272_2), (bc HB.out hw272_3), (bc HB.out hw272_4), (bc HB.out hw272_5), (bc HB.out hw272_6), (bc HB.out hw272_7)⟩ (fun hHeld => ?_); refine with_tabW laws_heldDeviceS.tab4 laws_heldDeviceS.bits4 (fun HT_ HW_ => ?_)
             generalize wr.drew = w15 at HB hx272_0 hx272_1 hx272_2 hx272_3 hx272_4 hx272_5 hx272_6 hx272_7 hHeld ⊢
             refine pure_ (i := 0) (N := some 12) (v := ?_) (a' := ?_) mk11_1 rfl rfl (any_of HT_.out (by kernel_rfl)) (fun _ _ _ h => h) (Or.inl ⟨by rfl, ?_⟩) ?_ ?_
             rotate_left
             ·intro w'
              go_simp
              first | (with_reducible rfl) | rfl
             rotate_left
             ·simp only [Act.put, List.setIfInBounds_toArray, List.set_cons_zero, List.set_cons_succ, i64_w, i32_w]
              rfl
             refine pure_ (i := 1) (N := some 13) (v := ?_) (a' := ?_) mk11_2 rfl rfl (any_of HT_.out (by kernel_rfl)) (fun _ _ _ h => h) (Or.inl ⟨by rfl, ?_⟩) ?_ ?_
             rotate_left
             ·intro w'
              go_simp
              first | (with_reducible rfl) | rfl
             rotate_left
             ·simp only [Act.put, List.setIfInBounds_toArray, List.set_cons_zero, List.set_cons_succ, i64_w, i32_w]
              rfl
             refine pure_ (i := 2) (N := some 14) (v := ?_) (a' := ?_) mk11_3 rfl rfl (any_of HT_.out (by kernel_rfl)) (fun _ _ _ h => h) (Or.inl ⟨by rfl, ?_⟩) ?_ ?_
             rotate_left
             ·intro w'
              go_simp
              first | (with_reducible rfl) | rfl
             rotate_left
             ·simp only [Act.put, List.setIfInBounds_toArray, List.set_cons_zero, List.set_cons_succ, i64_w, i32_w]
              rfl
             refine pure_ (i := 3) (N := some 15) (v := ?_) (a' := ?_) mk11_4 rfl rfl (any_of HT_.out (by kernel_rfl)) (fun _ _ _ h => h) (Or.inl ⟨by rfl, ?_⟩) ?_ ?_
             rotate_left
             ·intro w'
              go_simp
              first | (with_reducible rfl) | rfl
             rotate_left
             ·simp only [Act.put, List.setIfInBounds_toArray, List.set_cons_zero, List.set_cons_succ, i64_w, i32_w]
              rfl
             refine pure_ (i := 5) (N := some 17) (v := ?_) (a' := ?_) mk11_5 rfl rfl (any_of HT_.out (by kernel_rfl)) (fun _ _ _ h => h) (Or.inl ⟨by rfl, ?_⟩) ?_ ?_
             rotate_left
             ·intro w'
              go_simp
              first | (with_reducible rfl) | rfl
             rotate_left
             ·simp only [Act.put, List.setIfInBounds_toArray, List.set_cons_zero, List.set_cons_succ, i64_w, i32_w]
              rfl
             refine take_ (i := 4) (N := some 16) (v := ?_) (a' := ?_) mk11_6 rfl rfl (take_ofW HT_.out HW_.out (by kernel_rfl)) (fun _ _ _ h => h) (Or.inl ⟨by rfl, ?_⟩) hHeld ?_ ?_
             rotate_left
             ·rintro w' ⟨s0, s1, s2, s3, s4, s5, s6, s7⟩
              go_simp
              first | (with_reducible rfl) | rfl
             rotate_left
             ·simp only [Act.put, List.setIfInBounds_toArray, List.set_cons_zero, List.set_cons_succ, i64_w, i32_w]
              rfl
             refine one_ (i := 6) (N := some 18) mk11_7 rfl rfl (one_of HT_.out (by kernel_rfl)) (by decide) (fun K hK => ?_)
             refine goes_ Try.func68 (by kernel_rfl) rfl #[.int .i64 x1_1] (by rfl) rfl rfl u11_1 ?_
             with_reducible refine (laws_markText.calls k1 x1_1 t273 _ A5.out).mono ?_
             rintro e w16 ⟨rfl, hb⟩
             refine ⟨_, rfl, ?_⟩
             have n0_ := Aside0.mk (below_step u11_0 hb)
             clear HB
             have HB := n0_
             clear n0_
             (try clear hb)
             (try clear hb2)
             (try clear hk)
             (try clear hi)
             refine hK.out _ _ ⟨(bc HB.out hw272_0), (bc HB.out hw272_1), (bc HB.out hw272_2), (bc HB.out hw272_3), (bc HB.out hw272_4), (bc HB.out hw272_5), (bc HB.out hw272_6), (bc HB.out hw272_7)⟩ (fun hHeld => ?_)
             clear hK K
             refine norm_ (a' := ?_) ?_ ?_
             rotate_left
             ·show Act.put _ (some 18) _ = _
              simp only [Act.put, List.setIfInBounds_toArray, List.set_cons_zero, List.set_cons_succ, i64_w, i32_w]
              rfl
             refine pure_ (i := 7) (N := some 19) (v := ?_) (a' := ?_) mk11_8 rfl rfl (any_of HT_.out (by kernel_rfl)) (fun _ _ _ h => h) (Or.inl ⟨by rfl, ?_⟩) ?_ ?_
             rotate_left
             ·intro w'
              go_simp
              first | (with_reducible rfl) | rfl
             rotate_left
             ·simp only [Act.put, List.setIfInBounds_toArray, List.set_cons_zero, List.set_cons_succ, i64_w, i32_w]
              rfl
             refine done_ (done_of HT_.out (by kernel_rfl)) ?_
             have p274 : 0 ≤ (x5_1 : Int) := of_decide_eq_true u11_2
             have q274 : x5_1 < (l0.length : Int) := of_decide_eq_true u11_2
             obtain ⟨ad274, e274, hx274_0, hx274_1, hx274_2, hx274_3, hx274_4, hx274_5, hx274_6, hx274_7⟩ := at_T30 HR0.out x5_1 p274 q274
             obtain rfl : ad272 = ad274 := (by injection e274)
             replace hx274_0 := bc HB.out hx274_0
             replace hx274_1 := bc HB.out hx274_1
             replace hx274_2 := bc HB.out hx274_2
             replace hx274_3 := bc HB.out hx274_3
             replace hx274_4 := bc HB.out hx274_4
             replace hx274_5 := bc HB.out hx274_5
             replace hx274_6 := bc HB.out hx274_6
             replace hx274_7 := bc HB.out hx274_7
             replace p274 := eq_true p274
             replace q274 := eq_true q274
             try go_wp2
             have n0_ := Aside0.mk (below_drew1 HB.out)
             clear HB
             have HB := n0_
             clear n0_
             have p275 : 0 ≤ (x5_1 : Int) := of_decide_eq_true u11_2
             have q275 : x5_1 < (l0.length : Int) := of_decide_eq_true u11_2
             obtain ⟨ad275, e275, hx275_0, hx275_1, hx275_2, hx275_3, hx275_4, hx275_5, hx275_6, hx275_7⟩ := at_T30 HR0.out x5_1 p275 q275
             have hw275_7 := hx275_7
             have hw275_6 := hx275_6
             have hw275_5 := hx275_5
             have hw275_4 := hx275_4
             have hw275_3 := hx275_3
             have hw275_2 := hx275_2
             have hw275_1 := hx275_1
             have hw275_0 := hx275_0
             obtain rfl : ad272 = ad275 := (by injection e275)
             replace hx275_0 := bc HB.out hx275_0
             replace hx275_1 := bc HB.out hx275_1
             replace hx275_2 := bc HB.out hx275_2
             replace hx275_3 := bc HB.out hx275_3
             replace hx275_4 := bc HB.out hx275_4
             replace hx275_5 := bc HB.out hx275_5
             replace hx275_6 := bc HB.out hx275_6
             replace hx275_7 := bc HB.out hx275_7
             replace p275 := eq_true p275
             replace q275 := eq_true q275
             refine start_ (n := 8) (S := fun w' => w'.cell? (ad272.add ((x5_1).toNat * 8)) = some (.string ((rd_T30 l0 x5_1).f0)) ∧ w'.cell? ⟨(ad272.add ((x5_1).toNat * 8)).block, (ad272.add ((x5_1).toNat * 8)).off + 1, none⟩ = some (.int .i64 ((rd_T30 l0 x5_1).f1)) ∧ w'.cell? ⟨(ad272.add ((x5_1).toNat * 8)).block, (ad272.add ((x5_1).toNat * 8)).off + 2, none⟩ = some (.string ((rd_T30 l0 x5_1).f2)) ∧ w'.cell? ⟨(ad272.add ((x5_1).toNat * 8)).block, (ad272.add ((x5_1).toNat * 8)).off + 3, none⟩ = some (.int .i64 ((rd_T30 l0 x5_1).f3.f0)) ∧ w'.cell? ⟨(ad272.add ((x5_1).toNat * 8)).block, (ad272.add ((x5_1).toNat * 8)).off + 4, none⟩ = some (.int .i64 ((rd_T30 l0 x5_1).f3.f1)) ∧ w'.cell? ⟨(ad272.add ((x5_1).toNat * 8)).block, (ad272.add ((x5_1).toNat * 8)).off + 5, none⟩ = some (.int .i64 ((rd_T30 l0 x5_1).f4)) ∧ w'.cell? ⟨(ad272.add ((x5_1).toNat * 8)).block, (ad272.add ((x5_1).toNat * 8)).off + 6, none⟩ = some (.int .i64 ((rd_T30 l0 x5_1).f5)) ∧ w'.cell? ⟨(ad272.add ((x5_1).toNat * 8)).block, (ad272.add ((x5_1).toNat * 8)).off + 7, none⟩ = some (.int .i64 ((rd_T30 l0 x5_1).f6))) (ds := []) mk11_0 (by kernel_rfl) rfl rfl ⟨(bc HB.out hw275_0), (bc HB.out hw275_1), (bc HB.out hw275_2), (bc HB.out hw275_3), (bc HB.out hw275_4), (bc HB.out hw275_5), (bc HB.out hw275_6), (bc HB.out hw275_7)⟩ (fun hHeld => ?_); refine with_tabW laws_heldDeviceS.tab10 laws_heldDeviceS.bits10 (fun HT_ HW_ => ?_)
             generalize w16.drew = w17 at HB hx275_0 hx275_1 hx275_2 hx275_3 hx275_4 hx275_5 hx275_6 hx275_7 hHeld ⊢
             refine pure_ (i := 0) (N := some 31) (v := ?_) (a' := ?_) mk11_1 rfl rfl (any_of HT_.out (by kernel_rfl)) (fun _ _ _ h => h) (Or.inl ⟨by rfl, ?_⟩) ?_ ?_
             rotate_left
             ·intro w'
              go_simp
              first | (with_reducible rfl) | rfl
             rotate_left
             ·simp only [Act.put, List.setIfInBounds_toArray, List.set_cons_zero, List.set_cons_succ, i64_w, i32_w]
              rfl
             refine pure_ (i := 1) (N := some 32) (v := ?_) (a' := ?_) mk11_2 rfl rfl (any_of HT_.out (by kernel_rfl)) (fun _ _ _ h => h) (Or.inl ⟨by rfl, ?_⟩) ?_ ?_
             rotate_left
             ·intro w'
              go_simp
              first | (with_reducible rfl) | rfl
             rotate_left
             ·simp only [Act.put, List.setIfInBounds_toArray, List.set_cons_zero, List.set_cons_succ, i64_w, i32_w]
              rfl
             refine pure_ (i := 2) (N := some 33) (v := ?_) (a' := ?_) mk11_3 rfl rfl (any_of HT_.out (by kernel_rfl)) (fun _ _ _ h => h) (Or.inl ⟨by rfl, ?_⟩) ?_ ?_
             rotate_left
             ·intro w'
              go_simp
              first | (with_reducible rfl) | rfl
             rotate_left
             ·simp only [Act.put, List.setIfInBounds_toArray, List.set_cons_zero, List.set_cons_succ, i64_w, i32_w]
              rfl
             refine pure_ (i := 3) (N := some 34) (v := ?_) (a' := ?_) mk11_4 rfl rfl (any_of HT_.out (by kernel_rfl)) (fun _ _ _ h => h) (Or.inl ⟨by rfl, ?_⟩) ?_ ?_
             rotate_left
             ·intro w'
              go_simp
              first | (with_reducible rfl) | rfl
             rotate_left
             ·simp only [Act.put, List.setIfInBounds_toArray, List.set_cons_zero, List.set_cons_succ, i64_w, i32_w]
              rfl
             refine pure_ (i := 5) (N := some 36) (v := ?_) (a' := ?_) mk11_5 rfl rfl (any_of HT_.out (by kernel_rfl)) (fun _ _ _ h => h) (Or.inl ⟨by rfl, ?_⟩) ?_ ?_
             rotate_left
             ·intro w'
              go_simp
              first | (with_reducible rfl) | rfl
             rotate_left
             ·simp only [Act.put, List.setIfInBounds_toArray, List.set_cons_zero, List.set_cons_succ, i64_w, i32_w]
              rfl
             refine take_ (i := 4) (N := some 35) (v := ?_) (a' := ?_) mk11_6 rfl rfl (take_ofW HT_.out HW_.out (by kernel_rfl)) (fun _ _ _ h => h) (Or.inl ⟨by rfl, ?_⟩) hHeld ?_ ?_
             rotate_left
             ·rintro w' ⟨s0, s1, s2, s3, s4, s5, s6, s7⟩
              go_simp
              first | (with_reducible rfl) | rfl
             rotate_left
             ·simp only [Act.put, List.setIfInBounds_toArray, List.set_cons_zero, List.set_cons_succ, i64_w, i32_w]
              rfl
             refine one_ (i := 6) (N := some 37) mk11_7 rfl rfl (one_of HT_.out (by kernel_rfl)) (by decide) (fun K hK => ?_)
             refine goes_ Try.func68 (by kernel_rfl) rfl #[.int .i64 (wrap64 ((wrap64 (x1_1 + 1)) + 1))] (by rfl) rfl rfl u11_1 ?_
             with_reducible refine (laws_markText.calls k1 (wrap64 ((wrap64 (x1_1 + 1)) + 1)) t276 _ A8.out).mono ?_
             rintro e w18 ⟨rfl, hb⟩
             refine ⟨_, rfl, ?_⟩
             have n0_ := Aside0.mk (below_step u11_0 hb)
             clear HB
             have HB := n0_
             clear n0_
             (try clear hb)
             (try clear hb2)
             (try clear hk)
             (try clear hi)
             refine hK.out _ _ ⟨(bc HB.out hw275_0), (bc HB.out hw275_1), (bc HB.out hw275_2), (bc HB.out hw275_3), (bc HB.out hw275_4), (bc HB.out hw275_5), (bc HB.out hw275_6), (bc HB.out hw275_7)⟩ (fun hHeld => ?_)
             clear hK K
             refine norm_ (a' := ?_) ?_ ?_
             rotate_left
             ·show Act.put _ (some 37) _ = _
              simp only [Act.put, List.setIfInBounds_toArray, List.set_cons_zero, List.set_cons_succ, i64_w, i32_w]
              rfl
             refine pure_ (i := 7) (N := some 38) (v := ?_) (a' := ?_) mk11_8 rfl rfl (any_of HT_.out (by kernel_rfl)) (fun _ _ _ h => h) (Or.inl ⟨by rfl, ?_⟩) ?_ ?_
             rotate_left
             ·intro w'
              go_simp
              first | (with_reducible rfl) | rfl
             rotate_left
             ·simp only [Act.put, List.setIfInBounds_toArray, List.set_cons_zero, List.set_cons_succ, i64_w, i32_w]
              rfl
             refine done_ (done_of HT_.out (by kernel_rfl)) ?_
             have p277 : 0 ≤ (x5_1 : Int) := of_decide_eq_true u11_2
             have q277 : x5_1 < (l0.length : Int) := of_decide_eq_true u11_2
             obtain ⟨ad277, e277, hx277_0, hx277_1, hx277_2, hx277_3, hx277_4, hx277_5, hx277_6, hx277_7⟩ := at_T30 HR0.out x5_1 p277 q277
             obtain rfl : ad272 = ad277 := (by injection e277)
             replace hx277_0 := bc HB.out hx277_0
             replace hx277_1 := bc HB.out hx277_1
             replace hx277_2 := bc HB.out hx277_2
             replace hx277_3 := bc HB.out hx277_3
             replace hx277_4 := bc HB.out hx277_4
             replace hx277_5 := bc HB.out hx277_5
             replace hx277_6 := bc HB.out hx277_6
             replace hx277_7 := bc HB.out hx277_7
             replace p277 := eq_true p277
             replace q277 := eq_true q277
             have p278 : 0 ≤ (x5_1 : Int) := of_decide_eq_true u11_2
             have q278 : x5_1 < (l0.length : Int) := of_decide_eq_true u11_2
             obtain ⟨ad278, e278, hx278_0, hx278_1, hx278_2, hx278_3, hx278_4, hx278_5, hx278_6, hx278_7⟩ := at_T30 HR0.out x5_1 p278 q278
             obtain rfl : ad272 = ad278 := (by injection e278)
             replace hx278_0 := bc HB.out hx278_0
             replace hx278_1 := bc HB.out hx278_1
             replace hx278_2 := bc HB.out hx278_2
             replace hx278_3 := bc HB.out hx278_3
             replace hx278_4 := bc HB.out hx278_4
             replace hx278_5 := bc HB.out hx278_5
             replace hx278_6 := bc HB.out hx278_6
             replace hx278_7 := bc HB.out hx278_7
             replace p278 := eq_true p278
             replace q278 := eq_true q278
             have p279 : 0 ≤ (x5_1 : Int) := of_decide_eq_true u11_2
             have q279 : x5_1 < (l0.length : Int) := of_decide_eq_true u11_2
             obtain ⟨ad279, e279, hx279_0, hx279_1, hx279_2, hx279_3, hx279_4, hx279_5, hx279_6, hx279_7⟩ := at_T30 HR0.out x5_1 p279 q279
             obtain rfl : ad272 = ad279 := (by injection e279)
             replace hx279_0 := bc HB.out hx279_0
             replace hx279_1 := bc HB.out hx279_1
             replace hx279_2 := bc HB.out hx279_2
             replace hx279_3 := bc HB.out hx279_3
             replace hx279_4 := bc HB.out hx279_4
             replace hx279_5 := bc HB.out hx279_5
             replace hx279_6 := bc HB.out hx279_6
             replace hx279_7 := bc HB.out hx279_7
             replace p279 := eq_true p279
             replace q279 := eq_true q279
             have p280 : 0 ≤ (x5_1 : Int) := of_decide_eq_true u11_2
             have q280 : x5_1 < (l0.length : Int) := of_decide_eq_true u11_2
             obtain ⟨ad280, e280, hx280_0, hx280_1, hx280_2, hx280_3, hx280_4, hx280_5, hx280_6, hx280_7⟩ := at_T30 HR0.out x5_1 p280 q280
             obtain rfl : ad272 = ad280 := (by injection e280)
             replace hx280_0 := bc HB.out hx280_0
             replace hx280_1 := bc HB.out hx280_1
             replace hx280_2 := bc HB.out hx280_2
             replace hx280_3 := bc HB.out hx280_3
             replace hx280_4 := bc HB.out hx280_4
             replace hx280_5 := bc HB.out hx280_5
             replace hx280_6 := bc HB.out hx280_6
             replace hx280_7 := bc HB.out hx280_7
             replace p280 := eq_true p280
             replace q280 := eq_true q280
             have p281 : 0 ≤ (x5_1 : Int) := of_decide_eq_true u11_2
             have q281 : x5_1 < (l0.length : Int) := of_decide_eq_true u11_2
             obtain ⟨ad281, e281, hx281_0, hx281_1, hx281_2, hx281_3, hx281_4, hx281_5, hx281_6, hx281_7⟩ := at_T30 HR0.out x5_1 p281 q281
             obtain rfl : ad272 = ad281 := (by injection e281)
             replace hx281_0 := bc HB.out hx281_0
             replace hx281_1 := bc HB.out hx281_1
             replace hx281_2 := bc HB.out hx281_2
             replace hx281_3 := bc HB.out hx281_3
             replace hx281_4 := bc HB.out hx281_4
             replace hx281_5 := bc HB.out hx281_5
             replace hx281_6 := bc HB.out hx281_6
             replace hx281_7 := bc HB.out hx281_7
             replace p281 := eq_true p281
             replace q281 := eq_true q281
             try go_wp2
             go_roundg k1
             case measure => have := HK1.out; omega
             case rel => exact ⟨(wrap64 ((wrap64 ((wrap64 ((wrap64 ((wrap64 ((wrap64 ((wrap64 ((wrap64 (x1_1 + 1)) + 1)) + 1)) + 1)) + 1)) + 1)) + 1)) + 1)), (wrap64 (x5_1 + 1)), (by first | rfl | (simp; done) | (simp [*]; done)), (by first | rfl | (simp; done) | (simp [*]; done)), H', ⟨by have := HK1.out; omega⟩, ⟨by repeat (first | (with_reducible first | exact HB.out | apply below_alloc | apply pw_below_drewN | apply below_drew1) | exact HB.out)⟩⟩
            ·rw [if_neg c14] at H
             have c14b0 : (((rd_T30 l0 x5_1).f6) == (wrap64 ((wrap64 ((wrap64 ((wrap64 ((wrap64 ((wrap64 ((wrap64 (x1_1 + 1)) + 1)) + 1)) + 1)) + 1)) + 1)) + 1))) = false := beq_eq_false_iff_ne.mpr c14
             have c14b1 : (((rd_T30 l0 x5_1).f6) != (wrap64 ((wrap64 ((wrap64 ((wrap64 ((wrap64 ((wrap64 ((wrap64 (x1_1 + 1)) + 1)) + 1)) + 1)) + 1)) + 1)) + 1))) = true := bne_iff_ne.mpr c14
             obtain rfl := Option.some.inj H
             try go_wp2
             have n0_ := Aside0.mk (below_drew1 HB.out)
             clear HB
             have HB := n0_
             clear n0_
             have p272 : 0 ≤ (x5_1 : Int) := of_decide_eq_true u11_2
             have q272 : x5_1 < (l0.length : Int) := of_decide_eq_true u11_2
             obtain ⟨ad272, e272, hx272_0, hx272_1, hx272_2, hx272_3, hx272_4, hx272_5, hx272_6, hx272_7⟩ := at_T30 HR0.out x5_1 p272 q272
             have hw272_7 := hx272_7
             have hw272_6 := hx272_6
             have hw272_5 := hx272_5
             have hw272_4 := hx272_4
             have hw272_3 := hx272_3
             have hw272_2 := hx272_2
             have hw272_1 := hx272_1
             have hw272_0 := hx272_0
             cases e272
             replace hx272_0 := bc HB.out hx272_0
             replace hx272_1 := bc HB.out hx272_1
             replace hx272_2 := bc HB.out hx272_2
             replace hx272_3 := bc HB.out hx272_3
             replace hx272_4 := bc HB.out hx272_4
             replace hx272_5 := bc HB.out hx272_5
             replace hx272_6 := bc HB.out hx272_6
             replace hx272_7 := bc HB.out hx272_7
             replace p272 := eq_true p272
             replace q272 := eq_true q272
             refine start_ (n := 8) (S := fun w' => w'.cell? (ad272.add ((x5_1).toNat * 8)) = some (.string ((rd_T30 l0 x5_1).f0)) ∧ w'.cell? ⟨(ad272.add ((x5_1).toNat * 8)).block, (ad272.add ((x5_1).toNat * 8)).off + 1, none⟩ = some (.int .i64 ((rd_T30 l0 x5_1).f1)) ∧ w'.cell? ⟨(ad272.add ((x5_1).toNat * 8)).block, (ad272.add ((x5_1).toNat * 8)).off + 2, none⟩ = some (.string ((rd_T30 l0 x5_1).f2)) ∧ w'.cell? ⟨(ad272.add ((x5_1).toNat * 8)).block, (ad272.add ((x5_1).toNat * 8)).off + 3, none⟩ = some (.int .i64 ((rd_T30 l0 x5_1).f3.f0)) ∧ w'.cell? ⟨(ad272.add ((x5_1).toNat * 8)).block, (ad272.add ((x5_1).toNat * 8)).off + 4, none⟩ = some (.int .i64 ((rd_T30 l0 x5_1).f3.f1)) ∧ w'.cell? ⟨(ad272.add ((x5_1).toNat * 8)).block, (ad272.add ((x5_1).toNat * 8)).off + 5, none⟩ = some (.int .i64 ((rd_T30 l0 x5_1).f4)) ∧ w'.cell? ⟨(ad272.add ((x5_1).toNat * 8)).block, (ad272.add ((x5_1).toNat * 8)).off + 6, none⟩ = some (.int .i64 ((rd_T30 l0 x5_1).f5)) ∧ w'.cell? ⟨(ad272.add ((x5_1).toNat * 8)).block, (ad272.add ((x5_1).toNat * 8)).off + 7, none⟩ = some (.int .i64 ((rd_T30 l0 x5_1).f6))) (ds := []) mk11_0 (by kernel_rfl) rfl rfl ⟨(bc HB.out hw272_0), (bc HB.out hw272_1), (bc HB.out hw272_2), (bc HB.out hw272_3), (bc HB.out hw272_4), (bc HB.out hw272_5), (bc HB.out hw272_6), (bc HB.out hw272_7)⟩ (fun hHeld => ?_); refine with_tabW laws_heldDeviceS.tab4 laws_heldDeviceS.bits4 (fun HT_ HW_ => ?_)
             generalize wr.drew = w19 at HB hx272_0 hx272_1 hx272_2 hx272_3 hx272_4 hx272_5 hx272_6 hx272_7 hHeld ⊢
             refine pure_ (i := 0) (N := some 12) (v := ?_) (a' := ?_) mk11_1 rfl rfl (any_of HT_.out (by kernel_rfl)) (fun _ _ _ h => h) (Or.inl ⟨by rfl, ?_⟩) ?_ ?_
             rotate_left
             ·intro w'
              go_simp
              first | (with_reducible rfl) | rfl
             rotate_left
             ·simp only [Act.put, List.setIfInBounds_toArray, List.set_cons_zero, List.set_cons_succ, i64_w, i32_w]
              rfl
             refine pure_ (i := 1) (N := some 13) (v := ?_) (a' := ?_) mk11_2 rfl rfl (any_of HT_.out (by kernel_rfl)) (fun _ _ _ h => h) (Or.inl ⟨by rfl, ?_⟩) ?_ ?_
             rotate_left
             ·intro w'
              go_simp
              first | (with_reducible rfl) | rfl
             rotate_left
             ·simp only [Act.put, List.setIfInBounds_toArray, List.set_cons_zero, List.set_cons_succ, i64_w, i32_w]
              rfl
             refine pure_ (i := 2) (N := some 14) (v := ?_) (a' := ?_) mk11_3 rfl rfl (any_of HT_.out (by kernel_rfl)) (fun _ _ _ h => h) (Or.inl ⟨by rfl, ?_⟩) ?_ ?_
             rotate_left
             ·intro w'
              go_simp
              first | (with_reducible rfl) | rfl
             rotate_left
             ·simp only [Act.put, List.setIfInBounds_toArray, List.set_cons_zero, List.set_cons_succ, i64_w, i32_w]
              rfl
             refine pure_ (i := 3) (N := some 15) (v := ?_) (a' := ?_) mk11_4 rfl rfl (any_of HT_.out (by kernel_rfl)) (fun _ _ _ h => h) (Or.inl ⟨by rfl, ?_⟩) ?_ ?_
             rotate_left
             ·intro w'
              go_simp
              first | (with_reducible rfl) | rfl
             rotate_left
             ·simp only [Act.put, List.setIfInBounds_toArray, List.set_cons_zero, List.set_cons_succ, i64_w, i32_w]
              rfl
             refine pure_ (i := 5) (N := some 17) (v := ?_) (a' := ?_) mk11_5 rfl rfl (any_of HT_.out (by kernel_rfl)) (fun _ _ _ h => h) (Or.inl ⟨by rfl, ?_⟩) ?_ ?_
             rotate_left
             ·intro w'
              go_simp
              first | (with_reducible rfl) | rfl
             rotate_left
             ·simp only [Act.put, List.setIfInBounds_toArray, List.set_cons_zero, List.set_cons_succ, i64_w, i32_w]
              rfl
             refine take_ (i := 4) (N := some 16) (v := ?_) (a' := ?_) mk11_6 rfl rfl (take_ofW HT_.out HW_.out (by kernel_rfl)) (fun _ _ _ h => h) (Or.inl ⟨by rfl, ?_⟩) hHeld ?_ ?_
             rotate_left
             ·rintro w' ⟨s0, s1, s2, s3, s4, s5, s6, s7⟩
              go_simp
              first | (with_reducible rfl) | rfl
             rotate_left
             ·simp only [Act.put, List.setIfInBounds_toArray, List.set_cons_zero, List.set_cons_succ, i64_w, i32_w]
              rfl
             refine one_ (i := 6) (N := some 18) mk11_7 rfl rfl (one_of HT_.out (by kernel_rfl)) (by decide) (fun K hK => ?_)
             refine goes_ Try.func68 (by kernel_rfl) rfl #[.int .i64 x1_1] (by rfl) rfl rfl u11_1 ?_
             with_reducible refine (laws_markText.calls k1 x1_1 t273 _ A5.out).mono ?_
             rintro e w20 ⟨rfl, hb⟩
             refine ⟨_, rfl, ?_⟩
             have n0_ := Aside0.mk (below_step u11_0 hb)
             clear HB
             have HB := n0_
             clear n0_
             (try clear hb)
             (try clear hb2)
             (try clear hk)
             (try clear hi)
             refine hK.out _ _ ⟨(bc HB.out hw272_0), (bc HB.out hw272_1), (bc HB.out hw272_2), (bc HB.out hw272_3), (bc HB.out hw272_4), (bc HB.out hw272_5), (bc HB.out hw272_6), (bc HB.out hw272_7)⟩ (fun hHeld => ?_)
             clear hK K
             refine norm_ (a' := ?_) ?_ ?_
             rotate_left
             ·show Act.put _ (some 18) _ = _
              simp only [Act.put, List.setIfInBounds_toArray, List.set_cons_zero, List.set_cons_succ, i64_w, i32_w]
              rfl
             refine pure_ (i := 7) (N := some 19) (v := ?_) (a' := ?_) mk11_8 rfl rfl (any_of HT_.out (by kernel_rfl)) (fun _ _ _ h => h) (Or.inl ⟨by rfl, ?_⟩) ?_ ?_
             rotate_left
             ·intro w'
              go_simp
              first | (with_reducible rfl) | rfl
             rotate_left
             ·simp only [Act.put, List.setIfInBounds_toArray, List.set_cons_zero, List.set_cons_succ, i64_w, i32_w]
              rfl
             refine done_ (done_of HT_.out (by kernel_rfl)) ?_
             have p274 : 0 ≤ (x5_1 : Int) := of_decide_eq_true u11_2
             have q274 : x5_1 < (l0.length : Int) := of_decide_eq_true u11_2
             obtain ⟨ad274, e274, hx274_0, hx274_1, hx274_2, hx274_3, hx274_4, hx274_5, hx274_6, hx274_7⟩ := at_T30 HR0.out x5_1 p274 q274
             obtain rfl : ad272 = ad274 := (by injection e274)
             replace hx274_0 := bc HB.out hx274_0
             replace hx274_1 := bc HB.out hx274_1
             replace hx274_2 := bc HB.out hx274_2
             replace hx274_3 := bc HB.out hx274_3
             replace hx274_4 := bc HB.out hx274_4
             replace hx274_5 := bc HB.out hx274_5
             replace hx274_6 := bc HB.out hx274_6
             replace hx274_7 := bc HB.out hx274_7
             replace p274 := eq_true p274
             replace q274 := eq_true q274
             try go_wp2
             have n0_ := Aside0.mk (below_drew1 HB.out)
             clear HB
             have HB := n0_
             clear n0_
             have p275 : 0 ≤ (x5_1 : Int) := of_decide_eq_true u11_2
             have q275 : x5_1 < (l0.length : Int) := of_decide_eq_true u11_2
             obtain ⟨ad275, e275, hx275_0, hx275_1, hx275_2, hx275_3, hx275_4, hx275_5, hx275_6, hx275_7⟩ := at_T30 HR0.out x5_1 p275 q275
             have hw275_7 := hx275_7
             have hw275_6 := hx275_6
             have hw275_5 := hx275_5
             have hw275_4 := hx275_4
             have hw275_3 := hx275_3
             have hw275_2 := hx275_2
             have hw275_1 := hx275_1
             have hw275_0 := hx275_0
             obtain rfl : ad272 = ad275 := (by injection e275)
             replace hx275_0 := bc HB.out hx275_0
             replace hx275_1 := bc HB.out hx275_1
             replace hx275_2 := bc HB.out hx275_2
             replace hx275_3 := bc HB.out hx275_3
             replace hx275_4 := bc HB.out hx275_4
             replace hx275_5 := bc HB.out hx275_5
             replace hx275_6 := bc HB.out hx275_6
             replace hx275_7 := bc HB.out hx275_7
             replace p275 := eq_true p275
             replace q275 := eq_true q275
             refine start_ (n := 8) (S := fun w' => w'.cell? (ad272.add ((x5_1).toNat * 8)) = some (.string ((rd_T30 l0 x5_1).f0)) ∧ w'.cell? ⟨(ad272.add ((x5_1).toNat * 8)).block, (ad272.add ((x5_1).toNat * 8)).off + 1, none⟩ = some (.int .i64 ((rd_T30 l0 x5_1).f1)) ∧ w'.cell? ⟨(ad272.add ((x5_1).toNat * 8)).block, (ad272.add ((x5_1).toNat * 8)).off + 2, none⟩ = some (.string ((rd_T30 l0 x5_1).f2)) ∧ w'.cell? ⟨(ad272.add ((x5_1).toNat * 8)).block, (ad272.add ((x5_1).toNat * 8)).off + 3, none⟩ = some (.int .i64 ((rd_T30 l0 x5_1).f3.f0)) ∧ w'.cell? ⟨(ad272.add ((x5_1).toNat * 8)).block, (ad272.add ((x5_1).toNat * 8)).off + 4, none⟩ = some (.int .i64 ((rd_T30 l0 x5_1).f3.f1)) ∧ w'.cell? ⟨(ad272.add ((x5_1).toNat * 8)).block, (ad272.add ((x5_1).toNat * 8)).off + 5, none⟩ = some (.int .i64 ((rd_T30 l0 x5_1).f4)) ∧ w'.cell? ⟨(ad272.add ((x5_1).toNat * 8)).block, (ad272.add ((x5_1).toNat * 8)).off + 6, none⟩ = some (.int .i64 ((rd_T30 l0 x5_1).f5)) ∧ w'.cell? ⟨(ad272.add ((x5_1).toNat * 8)).block, (ad272.add ((x5_1).toNat * 8)).off + 7, none⟩ = some (.int .i64 ((rd_T30 l0 x5_1).f6))) (ds := []) mk11_0 (by kernel_rfl) rfl rfl ⟨(bc HB.out hw275_0), (bc HB.out hw275_1), (bc HB.out hw275_2), (bc HB.out hw275_3), (bc HB.out hw275_4), (bc HB.out hw275_5), (bc HB.out hw275_6), (bc HB.out hw275_7)⟩ (fun hHeld => ?_); refine with_tabW laws_heldDeviceS.tab10 laws_heldDeviceS.bits10 (fun HT_ HW_ => ?_)
             generalize w20.drew = w21 at HB hx275_0 hx275_1 hx275_2 hx275_3 hx275_4 hx275_5 hx275_6 hx275_7 hHeld ⊢
             refine pure_ (i := 0) (N := some 31) (v := ?_) (a' := ?_) mk11_1 rfl rfl (any_of HT_.out (by kernel_rfl)) (fun _ _ _ h => h) (Or.inl ⟨by rfl, ?_⟩) ?_ ?_
             rotate_left
             ·intro w'
              go_simp
              first | (with_reducible rfl) | rfl
             rotate_left
             ·simp only [Act.put, List.setIfInBounds_toArray, List.set_cons_zero, List.set_cons_succ, i64_w, i32_w]
              rfl
             refine pure_ (i := 1) (N := some 32) (v := ?_) (a' := ?_) mk11_2 rfl rfl (any_of HT_.out (by kernel_rfl)) (fun _ _ _ h => h) (Or.inl ⟨by rfl, ?_⟩) ?_ ?_
             rotate_left
             ·intro w'
              go_simp
              first | (with_reducible rfl) | rfl
             rotate_left
             ·simp only [Act.put, List.setIfInBounds_toArray, List.set_cons_zero, List.set_cons_succ, i64_w, i32_w]
              rfl
             refine pure_ (i := 2) (N := some 33) (v := ?_) (a' := ?_) mk11_3 rfl rfl (any_of HT_.out (by kernel_rfl)) (fun _ _ _ h => h) (Or.inl ⟨by rfl, ?_⟩) ?_ ?_
             rotate_left
             ·intro w'
              go_simp
              first | (with_reducible rfl) | rfl
             rotate_left
             ·simp only [Act.put, List.setIfInBounds_toArray, List.set_cons_zero, List.set_cons_succ, i64_w, i32_w]
              rfl
             refine pure_ (i := 3) (N := some 34) (v := ?_) (a' := ?_) mk11_4 rfl rfl (any_of HT_.out (by kernel_rfl)) (fun _ _ _ h => h) (Or.inl ⟨by rfl, ?_⟩) ?_ ?_
             rotate_left
             ·intro w'
              go_simp
              first | (with_reducible rfl) | rfl
             rotate_left
             ·simp only [Act.put, List.setIfInBounds_toArray, List.set_cons_zero, List.set_cons_succ, i64_w, i32_w]
              rfl
             refine pure_ (i := 5) (N := some 36) (v := ?_) (a' := ?_) mk11_5 rfl rfl (any_of HT_.out (by kernel_rfl)) (fun _ _ _ h => h) (Or.inl ⟨by rfl, ?_⟩) ?_ ?_
             rotate_left
             ·intro w'
              go_simp
              first | (with_reducible rfl) | rfl
             rotate_left
             ·simp only [Act.put, List.setIfInBounds_toArray, List.set_cons_zero, List.set_cons_succ, i64_w, i32_w]
              rfl
             refine take_ (i := 4) (N := some 35) (v := ?_) (a' := ?_) mk11_6 rfl rfl (take_ofW HT_.out HW_.out (by kernel_rfl)) (fun _ _ _ h => h) (Or.inl ⟨by rfl, ?_⟩) hHeld ?_ ?_
             rotate_left
             ·rintro w' ⟨s0, s1, s2, s3, s4, s5, s6, s7⟩
              go_simp
              first | (with_reducible rfl) | rfl
             rotate_left
             ·simp only [Act.put, List.setIfInBounds_toArray, List.set_cons_zero, List.set_cons_succ, i64_w, i32_w]
              rfl
             refine one_ (i := 6) (N := some 37) mk11_7 rfl rfl (one_of HT_.out (by kernel_rfl)) (by decide) (fun K hK => ?_)
             refine goes_ Try.func68 (by kernel_rfl) rfl #[.int .i64 (wrap64 ((wrap64 (x1_1 + 1)) + 1))] (by rfl) rfl rfl u11_1 ?_
             with_reducible refine (laws_markText.calls k1 (wrap64 ((wrap64 (x1_1 + 1)) + 1)) t276 _ A8.out).mono ?_
             rintro e w22 ⟨rfl, hb⟩
             refine ⟨_, rfl, ?_⟩
             have n0_ := Aside0.mk (below_step u11_0 hb)
             clear HB
             have HB := n0_
             clear n0_
             (try clear hb)
             (try clear hb2)
             (try clear hk)
             (try clear hi)
             refine hK.out _ _ ⟨(bc HB.out hw275_0), (bc HB.out hw275_1), (bc HB.out hw275_2), (bc HB.out hw275_3), (bc HB.out hw275_4), (bc HB.out hw275_5), (bc HB.out hw275_6), (bc HB.out hw275_7)⟩ (fun hHeld => ?_)
             clear hK K
             refine norm_ (a' := ?_) ?_ ?_
             rotate_left
             ·show Act.put _ (some 37) _ = _
              simp only [Act.put, List.setIfInBounds_toArray, List.set_cons_zero, List.set_cons_succ, i64_w, i32_w]
              rfl
             refine pure_ (i := 7) (N := some 38) (v := ?_) (a' := ?_) mk11_8 rfl rfl (any_of HT_.out (by kernel_rfl)) (fun _ _ _ h => h) (Or.inl ⟨by rfl, ?_⟩) ?_ ?_
             rotate_left
             ·intro w'
              go_simp
              first | (with_reducible rfl) | rfl
             rotate_left
             ·simp only [Act.put, List.setIfInBounds_toArray, List.set_cons_zero, List.set_cons_succ, i64_w, i32_w]
              rfl
             refine done_ (done_of HT_.out (by kernel_rfl)) ?_
             have p277 : 0 ≤ (x5_1 : Int) := of_decide_eq_true u11_2
             have q277 : x5_1 < (l0.length : Int) := of_decide_eq_true u11_2
             obtain ⟨ad277, e277, hx277_0, hx277_1, hx277_2, hx277_3, hx277_4, hx277_5, hx277_6, hx277_7⟩ := at_T30 HR0.out x5_1 p277 q277
             obtain rfl : ad272 = ad277 := (by injection e277)
             replace hx277_0 := bc HB.out hx277_0
             replace hx277_1 := bc HB.out hx277_1
             replace hx277_2 := bc HB.out hx277_2
             replace hx277_3 := bc HB.out hx277_3
             replace hx277_4 := bc HB.out hx277_4
             replace hx277_5 := bc HB.out hx277_5
             replace hx277_6 := bc HB.out hx277_6
             replace hx277_7 := bc HB.out hx277_7
             replace p277 := eq_true p277
             replace q277 := eq_true q277
             have p278 : 0 ≤ (x5_1 : Int) := of_decide_eq_true u11_2
             have q278 : x5_1 < (l0.length : Int) := of_decide_eq_true u11_2
             obtain ⟨ad278, e278, hx278_0, hx278_1, hx278_2, hx278_3, hx278_4, hx278_5, hx278_6, hx278_7⟩ := at_T30 HR0.out x5_1 p278 q278
             obtain rfl : ad272 = ad278 := (by injection e278)
             replace hx278_0 := bc HB.out hx278_0
             replace hx278_1 := bc HB.out hx278_1
             replace hx278_2 := bc HB.out hx278_2
             replace hx278_3 := bc HB.out hx278_3
             replace hx278_4 := bc HB.out hx278_4
             replace hx278_5 := bc HB.out hx278_5
             replace hx278_6 := bc HB.out hx278_6
             replace hx278_7 := bc HB.out hx278_7
             replace p278 := eq_true p278
             replace q278 := eq_true q278
             have p279 : 0 ≤ (x5_1 : Int) := of_decide_eq_true u11_2
             have q279 : x5_1 < (l0.length : Int) := of_decide_eq_true u11_2
             obtain ⟨ad279, e279, hx279_0, hx279_1, hx279_2, hx279_3, hx279_4, hx279_5, hx279_6, hx279_7⟩ := at_T30 HR0.out x5_1 p279 q279
             obtain rfl : ad272 = ad279 := (by injection e279)
             replace hx279_0 := bc HB.out hx279_0
             replace hx279_1 := bc HB.out hx279_1
             replace hx279_2 := bc HB.out hx279_2
             replace hx279_3 := bc HB.out hx279_3
             replace hx279_4 := bc HB.out hx279_4
             replace hx279_5 := bc HB.out hx279_5
             replace hx279_6 := bc HB.out hx279_6
             replace hx279_7 := bc HB.out hx279_7
             replace p279 := eq_true p279
             replace q279 := eq_true q279
             have p280 : 0 ≤ (x5_1 : Int) := of_decide_eq_true u11_2
             have q280 : x5_1 < (l0.length : Int) := of_decide_eq_true u11_2
             obtain ⟨ad280, e280, hx280_0, hx280_1, hx280_2, hx280_3, hx280_4, hx280_5, hx280_6, hx280_7⟩ := at_T30 HR0.out x5_1 p280 q280
             obtain rfl : ad272 = ad280 := (by injection e280)
             replace hx280_0 := bc HB.out hx280_0
             replace hx280_1 := bc HB.out hx280_1
             replace hx280_2 := bc HB.out hx280_2
             replace hx280_3 := bc HB.out hx280_3
             replace hx280_4 := bc HB.out hx280_4
             replace hx280_5 := bc HB.out hx280_5
             replace hx280_6 := bc HB.out hx280_6
             replace hx280_7 := bc HB.out hx280_7
             replace p280 := eq_true p280
             replace q280 := eq_true q280
             have p281 : 0 ≤ (x5_1 : Int) := of_decide_eq_true u11_2
             have q281 : x5_1 < (l0.length : Int) := of_decide_eq_true u11_2
             obtain ⟨ad281, e281, hx281_0, hx281_1, hx281_2, hx281_3, hx281_4, hx281_5, hx281_6, hx281_7⟩ := at_T30 HR0.out x5_1 p281 q281
             obtain rfl : ad272 = ad281 := (by injection e281)
             replace hx281_0 := bc HB.out hx281_0
             replace hx281_1 := bc HB.out hx281_1
             replace hx281_2 := bc HB.out hx281_2
             replace hx281_3 := bc HB.out hx281_3
             replace hx281_4 := bc HB.out hx281_4
             replace hx281_5 := bc HB.out hx281_5
             replace hx281_6 := bc HB.out hx281_6
             replace hx281_7 := bc HB.out hx281_7
             replace p281 := eq_true p281
             replace q281 := eq_true q281
             try go_wp2
             go_ret
             exact ⟨by first | rfl | (simp [*] <;> rfl), by repeat (first | (with_reducible first | exact HB.out | apply below_alloc | apply pw_below_drewN | apply below_drew1) | exact HB.out)⟩
           ·rw [if_neg c13] at H
            have c13b0 : (((rd_T30 l0 x5_1).f5) == (wrap64 ((wrap64 ((wrap64 ((wrap64 ((wrap64 ((wrap64 (x1_1 + 1)) + 1)) + 1)) + 1)) + 1)) + 1))) = false := beq_eq_false_iff_ne.mpr c13
            have c13b1 : (((rd_T30 l0 x5_1).f5) != (wrap64 ((wrap64 ((wrap64 ((wrap64 ((wrap64 ((wrap64 (x1_1 + 1)) + 1)) + 1)) + 1)) + 1)) + 1))) = true := bne_iff_ne.mpr c13
            obtain rfl := Option.some.inj H
            try go_wp2
            have n0_ := Aside0.mk (below_drew1 HB.out)
            clear HB
            have HB := n0_
            clear n0_
            have p272 : 0 ≤ (x5_1 : Int) := of_decide_eq_true u11_2
            have q272 : x5_1 < (l0.length : Int) := of_decide_eq_true u11_2
            obtain ⟨ad272, e272, hx272_0, hx272_1, hx272_2, hx272_3, hx272_4, hx272_5, hx272_6, hx272_7⟩ := at_T30 HR0.out x5_1 p272 q272
            have hw272_7 := hx272_7
            have hw272_6 := hx272_6
            have hw272_5 := hx272_5
            have hw272_4 := hx272_4
            have hw272_3 := hx272_3
            have hw272_2 := hx272_2
            have hw272_1 := hx272_1
            have hw272_0 := hx272_0
            cases e272
            replace hx272_0 := bc HB.out hx272_0
            replace hx272_1 := bc HB.out hx272_1
            replace hx272_2 := bc HB.out hx272_2
            replace hx272_3 := bc HB.out hx272_3
            replace hx272_4 := bc HB.out hx272_4
            replace hx272_5 := bc HB.out hx272_5
            replace hx272_6 := bc HB.out hx272_6
            replace hx272_7 := bc HB.out hx272_7
            replace p272 := eq_true p272
            replace q272 := eq_true q272
            refine start_ (n := 8) (S := fun w' => w'.cell? (ad272.add ((x5_1).toNat * 8)) = some (.string ((rd_T30 l0 x5_1).f0)) ∧ w'.cell? ⟨(ad272.add ((x5_1).toNat * 8)).block, (ad272.add ((x5_1).toNat * 8)).off + 1, none⟩ = some (.int .i64 ((rd_T30 l0 x5_1).f1)) ∧ w'.cell? ⟨(ad272.add ((x5_1).toNat * 8)).block, (ad272.add ((x5_1).toNat * 8)).off + 2, none⟩ = some (.string ((rd_T30 l0 x5_1).f2)) ∧ w'.cell? ⟨(ad272.add ((x5_1).toNat * 8)).block, (ad272.add ((x5_1).toNat * 8)).off + 3, none⟩ = some (.int .i64 ((rd_T30 l0 x5_1).f3.f0)) ∧ w'.cell? ⟨(ad272.add ((x5_1).toNat * 8)).block, (ad272.add ((x5_1).toNat * 8)).off + 4, none⟩ = some (.int .i64 ((rd_T30 l0 x5_1).f3.f1)) ∧ w'.cell? ⟨(ad272.add ((x5_1).toNat * 8)).block, (ad272.add ((x5_1).toNat * 8)).off + 5, none⟩ = some (.int .i64 ((rd_T30 l0 x5_1).f4)) ∧ w'.cell? ⟨(ad272.add ((x5_1).toNat * 8)).block, (ad272.add ((x5_1).toNat * 8)).off + 6, none⟩ = some (.int .i64 ((rd_T30 l0 x5_1).f5)) ∧ w'.cell? ⟨(ad272.add ((x5_1).toNat * 8)).block, (ad272.add ((x5_1).toNat * 8)).off + 7, none⟩ = some (.int .i64 ((rd_T30 l0 x5_1).f6))) (ds := []) mk11_0 (by kernel_rfl) rfl rfl ⟨(bc HB.out hw272_0), (bc HB.out hw272_1), (bc HB.out hw272_2), (bc HB.out hw272_3), (bc HB.out hw272_4), (bc HB.out hw272_5), (bc HB.out hw272_6), (bc HB.out hw272_7)⟩ (fun hHeld => ?_); refine with_tabW laws_heldDeviceS.tab4 laws_heldDeviceS.bits4 (fun HT_ HW_ => ?_)
            generalize wr.drew = w23 at HB hx272_0 hx272_1 hx272_2 hx272_3 hx272_4 hx272_5 hx272_6 hx272_7 hHeld ⊢
            refine pure_ (i := 0) (N := some 12) (v := ?_) (a' := ?_) mk11_1 rfl rfl (any_of HT_.out (by kernel_rfl)) (fun _ _ _ h => h) (Or.inl ⟨by rfl, ?_⟩) ?_ ?_
            rotate_left
            ·intro w'
             go_simp
             first | (with_reducible rfl) | rfl
            rotate_left
            ·simp only [Act.put, List.setIfInBounds_toArray, List.set_cons_zero, List.set_cons_succ, i64_w, i32_w]
             rfl
            refine pure_ (i := 1) (N := some 13) (v := ?_) (a' := ?_) mk11_2 rfl rfl (any_of HT_.out (by kernel_rfl)) (fun _ _ _ h => h) (Or.inl ⟨by rfl, ?_⟩) ?_ ?_
            rotate_left
            ·intro w'
             go_simp
             first | (with_reducible rfl) | rfl
            rotate_left
            ·simp only [Act.put, List.setIfInBounds_toArray, List.set_cons_zero, List.set_cons_succ, i64_w, i32_w]
             rfl
            refine pure_ (i := 2) (N := some 14) (v := ?_) (a' := ?_) mk11_3 rfl rfl (any_of HT_.out (by kernel_rfl)) (fun _ _ _ h => h) (Or.inl ⟨by rfl, ?_⟩) ?_ ?_
            rotate_left
            ·intro w'
             go_simp
             first | (with_reducible rfl) | rfl
            rotate_left
            ·simp only [Act.put, List.setIfInBounds_toArray, List.set_cons_zero, List.set_cons_succ, i64_w, i32_w]
             rfl
            refine pure_ (i := 3) (N := some 15) (v := ?_) (a' := ?_) mk11_4 rfl rfl (any_of HT_.out (by kernel_rfl)) (fun _ _ _ h => h) (Or.inl ⟨by rfl, ?_⟩) ?_ ?_
            rotate_left
            ·intro w'
             go_simp
             first | (with_reducible rfl) | rfl
            rotate_left
            ·simp only [Act.put, List.setIfInBounds_toArray, List.set_cons_zero, List.set_cons_succ, i64_w, i32_w]
             rfl
            refine pure_ (i := 5) (N := some 17) (v := ?_) (a' := ?_) mk11_5 rfl rfl (any_of HT_.out (by kernel_rfl)) (fun _ _ _ h => h) (Or.inl ⟨by rfl, ?_⟩) ?_ ?_
            rotate_left
            ·intro w'
             go_simp
             first | (with_reducible rfl) | rfl
            rotate_left
            ·simp only [Act.put, List.setIfInBounds_toArray, List.set_cons_zero, List.set_cons_succ, i64_w, i32_w]
             rfl
            refine take_ (i := 4) (N := some 16) (v := ?_) (a' := ?_) mk11_6 rfl rfl (take_ofW HT_.out HW_.out (by kernel_rfl)) (fun _ _ _ h => h) (Or.inl ⟨by rfl, ?_⟩) hHeld ?_ ?_
            rotate_left
            ·rintro w' ⟨s0, s1, s2, s3, s4, s5, s6, s7⟩
             go_simp
             first | (with_reducible rfl) | rfl
            rotate_left
            ·simp only [Act.put, List.setIfInBounds_toArray, List.set_cons_zero, List.set_cons_succ, i64_w, i32_w]
             rfl
            refine one_ (i := 6) (N := some 18) mk11_7 rfl rfl (one_of HT_.out (by kernel_rfl)) (by decide) (fun K hK => ?_)
            refine goes_ Try.func68 (by kernel_rfl) rfl #[.int .i64 x1_1] (by rfl) rfl rfl u11_1 ?_
            with_reducible refine (laws_markText.calls k1 x1_1 t273 _ A5.out).mono ?_
            rintro e w24 ⟨rfl, hb⟩
            refine ⟨_, rfl, ?_⟩
            have n0_ := Aside0.mk (below_step u11_0 hb)
            clear HB
            have HB := n0_
            clear n0_
            (try clear hb)
            (try clear hb2)
            (try clear hk)
            (try clear hi)
            refine hK.out _ _ ⟨(bc HB.out hw272_0), (bc HB.out hw272_1), (bc HB.out hw272_2), (bc HB.out hw272_3), (bc HB.out hw272_4), (bc HB.out hw272_5), (bc HB.out hw272_6), (bc HB.out hw272_7)⟩ (fun hHeld => ?_)
            clear hK K
            refine norm_ (a' := ?_) ?_ ?_
            rotate_left
            ·show Act.put _ (some 18) _ = _
             simp only [Act.put, List.setIfInBounds_toArray, List.set_cons_zero, List.set_cons_succ, i64_w, i32_w]
             rfl
            refine pure_ (i := 7) (N := some 19) (v := ?_) (a' := ?_) mk11_8 rfl rfl (any_of HT_.out (by kernel_rfl)) (fun _ _ _ h => h) (Or.inl ⟨by rfl, ?_⟩) ?_ ?_
            rotate_left
            ·intro w'
             go_simp
             first | (with_reducible rfl) | rfl
            rotate_left
            ·simp only [Act.put, List.setIfInBounds_toArray, List.set_cons_zero, List.set_cons_succ, i64_w, i32_w]
             rfl
            refine done_ (done_of HT_.out (by kernel_rfl)) ?_
            have p274 : 0 ≤ (x5_1 : Int) := of_decide_eq_true u11_2
            have q274 : x5_1 < (l0.length : Int) := of_decide_eq_true u11_2
            obtain ⟨ad274, e274, hx274_0, hx274_1, hx274_2, hx274_3, hx274_4, hx274_5, hx274_6, hx274_7⟩ := at_T30 HR0.out x5_1 p274 q274
            obtain rfl : ad272 = ad274 := (by injection e274)
            replace hx274_0 := bc HB.out hx274_0
            replace hx274_1 := bc HB.out hx274_1
            replace hx274_2 := bc HB.out hx274_2
            replace hx274_3 := bc HB.out hx274_3
            replace hx274_4 := bc HB.out hx274_4
            replace hx274_5 := bc HB.out hx274_5
            replace hx274_6 := bc HB.out hx274_6
            replace hx274_7 := bc HB.out hx274_7
            replace p274 := eq_true p274
            replace q274 := eq_true q274
            try go_wp2
            have n0_ := Aside0.mk (below_drew1 HB.out)
            clear HB
            have HB := n0_
            clear n0_
            have p275 : 0 ≤ (x5_1 : Int) := of_decide_eq_true u11_2
            have q275 : x5_1 < (l0.length : Int) := of_decide_eq_true u11_2
            obtain ⟨ad275, e275, hx275_0, hx275_1, hx275_2, hx275_3, hx275_4, hx275_5, hx275_6, hx275_7⟩ := at_T30 HR0.out x5_1 p275 q275
            have hw275_7 := hx275_7
            have hw275_6 := hx275_6
            have hw275_5 := hx275_5
            have hw275_4 := hx275_4
            have hw275_3 := hx275_3
            have hw275_2 := hx275_2
            have hw275_1 := hx275_1
            have hw275_0 := hx275_0
            obtain rfl : ad272 = ad275 := (by injection e275)
            replace hx275_0 := bc HB.out hx275_0
            replace hx275_1 := bc HB.out hx275_1
            replace hx275_2 := bc HB.out hx275_2
            replace hx275_3 := bc HB.out hx275_3
            replace hx275_4 := bc HB.out hx275_4
            replace hx275_5 := bc HB.out hx275_5
            replace hx275_6 := bc HB.out hx275_6
            replace hx275_7 := bc HB.out hx275_7
            replace p275 := eq_true p275
            replace q275 := eq_true q275
            refine start_ (n := 8) (S := fun w' => w'.cell? (ad272.add ((x5_1).toNat * 8)) = some (.string ((rd_T30 l0 x5_1).f0)) ∧ w'.cell? ⟨(ad272.add ((x5_1).toNat * 8)).block, (ad272.add ((x5_1).toNat * 8)).off + 1, none⟩ = some (.int .i64 ((rd_T30 l0 x5_1).f1)) ∧ w'.cell? ⟨(ad272.add ((x5_1).toNat * 8)).block, (ad272.add ((x5_1).toNat * 8)).off + 2, none⟩ = some (.string ((rd_T30 l0 x5_1).f2)) ∧ w'.cell? ⟨(ad272.add ((x5_1).toNat * 8)).block, (ad272.add ((x5_1).toNat * 8)).off + 3, none⟩ = some (.int .i64 ((rd_T30 l0 x5_1).f3.f0)) ∧ w'.cell? ⟨(ad272.add ((x5_1).toNat * 8)).block, (ad272.add ((x5_1).toNat * 8)).off + 4, none⟩ = some (.int .i64 ((rd_T30 l0 x5_1).f3.f1)) ∧ w'.cell? ⟨(ad272.add ((x5_1).toNat * 8)).block, (ad272.add ((x5_1).toNat * 8)).off + 5, none⟩ = some (.int .i64 ((rd_T30 l0 x5_1).f4)) ∧ w'.cell? ⟨(ad272.add ((x5_1).toNat * 8)).block, (ad272.add ((x5_1).toNat * 8)).off + 6, none⟩ = some (.int .i64 ((rd_T30 l0 x5_1).f5)) ∧ w'.cell? ⟨(ad272.add ((x5_1).toNat * 8)).block, (ad272.add ((x5_1).toNat * 8)).off + 7, none⟩ = some (.int .i64 ((rd_T30 l0 x5_1).f6))) (ds := []) mk11_0 (by kernel_rfl) rfl rfl ⟨(bc HB.out hw275_0), (bc HB.out hw275_1), (bc HB.out hw275_2), (bc HB.out hw275_3), (bc HB.out hw275_4), (bc HB.out hw275_5), (bc HB.out hw275_6), (bc HB.out hw275_7)⟩ (fun hHeld => ?_); refine with_tabW laws_heldDeviceS.tab10 laws_heldDeviceS.bits10 (fun HT_ HW_ => ?_)
            generalize w24.drew = w25 at HB hx275_0 hx275_1 hx275_2 hx275_3 hx275_4 hx275_5 hx275_6 hx275_7 hHeld ⊢
            refine pure_ (i := 0) (N := some 31) (v := ?_) (a' := ?_) mk11_1 rfl rfl (any_of HT_.out (by kernel_rfl)) (fun _ _ _ h => h) (Or.inl ⟨by rfl, ?_⟩) ?_ ?_
            rotate_left
            ·intro w'
             go_simp
             first | (with_reducible rfl) | rfl
            rotate_left
            ·simp only [Act.put, List.setIfInBounds_toArray, List.set_cons_zero, List.set_cons_succ, i64_w, i32_w]
             rfl
            refine pure_ (i := 1) (N := some 32) (v := ?_) (a' := ?_) mk11_2 rfl rfl (any_of HT_.out (by kernel_rfl)) (fun _ _ _ h => h) (Or.inl ⟨by rfl, ?_⟩) ?_ ?_
            rotate_left
            ·intro w'
             go_simp
             first | (with_reducible rfl) | rfl
            rotate_left
            ·simp only [Act.put, List.setIfInBounds_toArray, List.set_cons_zero, List.set_cons_succ, i64_w, i32_w]
             rfl
            refine pure_ (i := 2) (N := some 33) (v := ?_) (a' := ?_) mk11_3 rfl rfl (any_of HT_.out (by kernel_rfl)) (fun _ _ _ h => h) (Or.inl ⟨by rfl, ?_⟩) ?_ ?_
            rotate_left
            ·intro w'
             go_simp
             first | (with_reducible rfl) | rfl
            rotate_left
            ·simp only [Act.put, List.setIfInBounds_toArray, List.set_cons_zero, List.set_cons_succ, i64_w, i32_w]
             rfl
            refine pure_ (i := 3) (N := some 34) (v := ?_) (a' := ?_) mk11_4 rfl rfl (any_of HT_.out (by kernel_rfl)) (fun _ _ _ h => h) (Or.inl ⟨by rfl, ?_⟩) ?_ ?_
            rotate_left
            ·intro w'
             go_simp
             first | (with_reducible rfl) | rfl
            rotate_left
            ·simp only [Act.put, List.setIfInBounds_toArray, List.set_cons_zero, List.set_cons_succ, i64_w, i32_w]
             rfl
            refine pure_ (i := 5) (N := some 36) (v := ?_) (a' := ?_) mk11_5 rfl rfl (any_of HT_.out (by kernel_rfl)) (fun _ _ _ h => h) (Or.inl ⟨by rfl, ?_⟩) ?_ ?_
            rotate_left
            ·intro w'
             go_simp
             first | (with_reducible rfl) | rfl
            rotate_left
            ·simp only [Act.put, List.setIfInBounds_toArray, List.set_cons_zero, List.set_cons_succ, i64_w, i32_w]
             rfl
            refine take_ (i := 4) (N := some 35) (v := ?_) (a' := ?_) mk11_6 rfl rfl (take_ofW HT_.out HW_.out (by kernel_rfl)) (fun _ _ _ h => h) (Or.inl ⟨by rfl, ?_⟩) hHeld ?_ ?_
            rotate_left
            ·rintro w' ⟨s0, s1, s2, s3, s4, s5, s6, s7⟩
             go_simp
             first | (with_reducible rfl) | rfl
            rotate_left
            ·simp only [Act.put, List.setIfInBounds_toArray, List.set_cons_zero, List.set_cons_succ, i64_w, i32_w]
             rfl
            refine one_ (i := 6) (N := some 37) mk11_7 rfl rfl (one_of HT_.out (by kernel_rfl)) (by decide) (fun K hK => ?_)
            refine goes_ Try.func68 (by kernel_rfl) rfl #[.int .i64 (wrap64 ((wrap64 (x1_1 + 1)) + 1))] (by rfl) rfl rfl u11_1 ?_
            with_reducible refine (laws_markText.calls k1 (wrap64 ((wrap64 (x1_1 + 1)) + 1)) t276 _ A8.out).mono ?_
            rintro e w26 ⟨rfl, hb⟩
            refine ⟨_, rfl, ?_⟩
            have n0_ := Aside0.mk (below_step u11_0 hb)
            clear HB
            have HB := n0_
            clear n0_
            (try clear hb)
            (try clear hb2)
            (try clear hk)
            (try clear hi)
            refine hK.out _ _ ⟨(bc HB.out hw275_0), (bc HB.out hw275_1), (bc HB.out hw275_2), (bc HB.out hw275_3), (bc HB.out hw275_4), (bc HB.out hw275_5), (bc HB.out hw275_6), (bc HB.out hw275_7)⟩ (fun hHeld => ?_)
            clear hK K
            refine norm_ (a' := ?_) ?_ ?_
            rotate_left
            ·show Act.put _ (some 37) _ = _
             simp only [Act.put, List.setIfInBounds_toArray, List.set_cons_zero, List.set_cons_succ, i64_w, i32_w]
             rfl
            refine pure_ (i := 7) (N := some 38) (v := ?_) (a' := ?_) mk11_8 rfl rfl (any_of HT_.out (by kernel_rfl)) (fun _ _ _ h => h) (Or.inl ⟨by rfl, ?_⟩) ?_ ?_
            rotate_left
            ·intro w'
             go_simp
             first | (with_reducible rfl) | rfl
            rotate_left
            ·simp only [Act.put, List.setIfInBounds_toArray, List.set_cons_zero, List.set_cons_succ, i64_w, i32_w]
             rfl
            refine done_ (done_of HT_.out (by kernel_rfl)) ?_
            have p277 : 0 ≤ (x5_1 : Int) := of_decide_eq_true u11_2
            have q277 : x5_1 < (l0.length : Int) := of_decide_eq_true u11_2
            obtain ⟨ad277, e277, hx277_0, hx277_1, hx277_2, hx277_3, hx277_4, hx277_5, hx277_6, hx277_7⟩ := at_T30 HR0.out x5_1 p277 q277
            obtain rfl : ad272 = ad277 := (by injection e277)
            replace hx277_0 := bc HB.out hx277_0
            replace hx277_1 := bc HB.out hx277_1
            replace hx277_2 := bc HB.out hx277_2
            replace hx277_3 := bc HB.out hx277_3
            replace hx277_4 := bc HB.out hx277_4
            replace hx277_5 := bc HB.out hx277_5
            replace hx277_6 := bc HB.out hx277_6
            replace hx277_7 := bc HB.out hx277_7
            replace p277 := eq_true p277
            replace q277 := eq_true q277
            have p278 : 0 ≤ (x5_1 : Int) := of_decide_eq_true u11_2
            have q278 : x5_1 < (l0.length : Int) := of_decide_eq_true u11_2
            obtain ⟨ad278, e278, hx278_0, hx278_1, hx278_2, hx278_3, hx278_4, hx278_5, hx278_6, hx278_7⟩ := at_T30 HR0.out x5_1 p278 q278
            obtain rfl : ad272 = ad278 := (by injection e278)
            replace hx278_0 := bc HB.out hx278_0
            replace hx278_1 := bc HB.out hx278_1
            replace hx278_2 := bc HB.out hx278_2
            replace hx278_3 := bc HB.out hx278_3
            replace hx278_4 := bc HB.out hx278_4
            replace hx278_5 := bc HB.out hx278_5
            replace hx278_6 := bc HB.out hx278_6
            replace hx278_7 := bc HB.out hx278_7
            replace p278 := eq_true p278
            replace q278 := eq_true q278
            have p279 : 0 ≤ (x5_1 : Int) := of_decide_eq_true u11_2
            have q279 : x5_1 < (l0.length : Int) := of_decide_eq_true u11_2
            obtain ⟨ad279, e279, hx279_0, hx279_1, hx279_2, hx279_3, hx279_4, hx279_5, hx279_6, hx279_7⟩ := at_T30 HR0.out x5_1 p279 q279
            obtain rfl : ad272 = ad279 := (by injection e279)
            replace hx279_0 := bc HB.out hx279_0
            replace hx279_1 := bc HB.out hx279_1
            replace hx279_2 := bc HB.out hx279_2
            replace hx279_3 := bc HB.out hx279_3
            replace hx279_4 := bc HB.out hx279_4
            replace hx279_5 := bc HB.out hx279_5
            replace hx279_6 := bc HB.out hx279_6
            replace hx279_7 := bc HB.out hx279_7
            replace p279 := eq_true p279
            replace q279 := eq_true q279
            have p280 : 0 ≤ (x5_1 : Int) := of_decide_eq_true u11_2
            have q280 : x5_1 < (l0.length : Int) := of_decide_eq_true u11_2
            obtain ⟨ad280, e280, hx280_0, hx280_1, hx280_2, hx280_3, hx280_4, hx280_5, hx280_6, hx280_7⟩ := at_T30 HR0.out x5_1 p280 q280
            obtain rfl : ad272 = ad280 := (by injection e280)
            replace hx280_0 := bc HB.out hx280_0
            replace hx280_1 := bc HB.out hx280_1
            replace hx280_2 := bc HB.out hx280_2
            replace hx280_3 := bc HB.out hx280_3
            replace hx280_4 := bc HB.out hx280_4
            replace hx280_5 := bc HB.out hx280_5
            replace hx280_6 := bc HB.out hx280_6
            replace hx280_7 := bc HB.out hx280_7
            replace p280 := eq_true p280
            replace q280 := eq_true q280
            try go_wp2
            go_ret
            exact ⟨by first | rfl | (simp [*] <;> rfl), by repeat (first | (with_reducible first | exact HB.out | apply below_alloc | apply pw_below_drewN | apply below_drew1) | exact HB.out)⟩
          ·rw [if_neg c12] at H
           have c12b0 : (((rd_T30 l0 x5_1).f4) == (wrap64 ((wrap64 ((wrap64 ((wrap64 ((wrap64 (x1_1 + 1)) + 1)) + 1)) + 1)) + 1))) = false := beq_eq_false_iff_ne.mpr c12
           have c12b1 : (((rd_T30 l0 x5_1).f4) != (wrap64 ((wrap64 ((wrap64 ((wrap64 ((wrap64 (x1_1 + 1)) + 1)) + 1)) + 1)) + 1))) = true := bne_iff_ne.mpr c12
           obtain rfl := Option.some.inj H
           try go_wp2
           have n0_ := Aside0.mk (below_drew1 HB.out)
           clear HB
           have HB := n0_
           clear n0_
           have p272 : 0 ≤ (x5_1 : Int) := of_decide_eq_true u11_2
           have q272 : x5_1 < (l0.length : Int) := of_decide_eq_true u11_2
           obtain ⟨ad272, e272, hx272_0, hx272_1, hx272_2, hx272_3, hx272_4, hx272_5, hx272_6, hx272_7⟩ := at_T30 HR0.out x5_1 p272 q272
           have hw272_7 := hx272_7
           have hw272_6 := hx272_6
           have hw272_5 := hx272_5
           have hw272_4 := hx272_4
           have hw272_3 := hx272_3
           have hw272_2 := hx272_2
           have hw272_1 := hx272_1
           have hw272_0 := hx272_0
           cases e272
           replace hx272_0 := bc HB.out hx272_0
           replace hx272_1 := bc HB.out hx272_1
           replace hx272_2 := bc HB.out hx272_2
           replace hx272_3 := bc HB.out hx272_3
           replace hx272_4 := bc HB.out hx272_4
           replace hx272_5 := bc HB.out hx272_5
           replace hx272_6 := bc HB.out hx272_6
           replace hx272_7 := bc HB.out hx272_7
           replace p272 := eq_true p272
           replace q272 := eq_true q272
           refine start_ (n := 8) (S := fun w' => w'.cell? (ad272.add ((x5_1).toNat * 8)) = some (.string ((rd_T30 l0 x5_1).f0)) ∧ w'.cell? ⟨(ad272.add ((x5_1).toNat * 8)).block, (ad272.add ((x5_1).toNat * 8)).off + 1, none⟩ = some (.int .i64 ((rd_T30 l0 x5_1).f1)) ∧ w'.cell? ⟨(ad272.add ((x5_1).toNat * 8)).block, (ad272.add ((x5_1).toNat * 8)).off + 2, none⟩ = some (.string ((rd_T30 l0 x5_1).f2)) ∧ w'.cell? ⟨(ad272.add ((x5_1).toNat * 8)).block, (ad272.add ((x5_1).toNat * 8)).off + 3, none⟩ = some (.int .i64 ((rd_T30 l0 x5_1).f3.f0)) ∧ w'.cell? ⟨(ad272.add ((x5_1).toNat * 8)).block, (ad272.add ((x5_1).toNat * 8)).off + 4, none⟩ = some (.int .i64 ((rd_T30 l0 x5_1).f3.f1)) ∧ w'.cell? ⟨(ad272.add ((x5_1).toNat * 8)).block, (ad272.add ((x5_1).toNat * 8)).off + 5, none⟩ = some (.int .i64 ((rd_T30 l0 x5_1).f4)) ∧ w'.cell? ⟨(ad272.add ((x5_1).toNat * 8)).block, (ad272.add ((x5_1).toNat * 8)).off + 6, none⟩ = some (.int .i64 ((rd_T30 l0 x5_1).f5)) ∧ w'.cell? ⟨(ad272.add ((x5_1).toNat * 8)).block, (ad272.add ((x5_1).toNat * 8)).off + 7, none⟩ = some (.int .i64 ((rd_T30 l0 x5_1).f6))) (ds := []) mk11_0 (by kernel_rfl) rfl rfl ⟨(bc HB.out hw272_0), (bc HB.out hw272_1), (bc HB.out hw272_2), (bc HB.out hw272_3), (bc HB.out hw272_4), (bc HB.out hw272_5), (bc HB.out hw272_6), (bc HB.out hw272_7)⟩ (fun hHeld => ?_); refine with_tabW laws_heldDeviceS.tab4 laws_heldDeviceS.bits4 (fun HT_ HW_ => ?_)
           generalize wr.drew = w27 at HB hx272_0 hx272_1 hx272_2 hx272_3 hx272_4 hx272_5 hx272_6 hx272_7 hHeld ⊢
           refine pure_ (i := 0) (N := some 12) (v := ?_) (a' := ?_) mk11_1 rfl rfl (any_of HT_.out (by kernel_rfl)) (fun _ _ _ h => h) (Or.inl ⟨by rfl, ?_⟩) ?_ ?_
           rotate_left
           ·intro w'
            go_simp
            first | (with_reducible rfl) | rfl
           rotate_left
           ·simp only [Act.put, List.setIfInBounds_toArray, List.set_cons_zero, List.set_cons_succ, i64_w, i32_w]
            rfl
           refine pure_ (i := 1) (N := some 13) (v := ?_) (a' := ?_) mk11_2 rfl rfl (any_of HT_.out (by kernel_rfl)) (fun _ _ _ h => h) (Or.inl ⟨by rfl, ?_⟩) ?_ ?_
           rotate_left
           ·intro w'
            go_simp
            first | (with_reducible rfl) | rfl
           rotate_left
           ·simp only [Act.put, List.setIfInBounds_toArray, List.set_cons_zero, List.set_cons_succ, i64_w, i32_w]
            rfl
           refine pure_ (i := 2) (N := some 14) (v := ?_) (a' := ?_) mk11_3 rfl rfl (any_of HT_.out (by kernel_rfl)) (fun _ _ _ h => h) (Or.inl ⟨by rfl, ?_⟩) ?_ ?_
           rotate_left
           ·intro w'
            go_simp
            first | (with_reducible rfl) | rfl
           rotate_left
           ·simp only [Act.put, List.setIfInBounds_toArray, List.set_cons_zero, List.set_cons_succ, i64_w, i32_w]
            rfl
           refine pure_ (i := 3) (N := some 15) (v := ?_) (a' := ?_) mk11_4 rfl rfl (any_of HT_.out (by kernel_rfl)) (fun _ _ _ h => h) (Or.inl ⟨by rfl, ?_⟩) ?_ ?_
           rotate_left
           ·intro w'
            go_simp
            first | (with_reducible rfl) | rfl
           rotate_left
           ·simp only [Act.put, List.setIfInBounds_toArray, List.set_cons_zero, List.set_cons_succ, i64_w, i32_w]
            rfl
           refine pure_ (i := 5) (N := some 17) (v := ?_) (a' := ?_) mk11_5 rfl rfl (any_of HT_.out (by kernel_rfl)) (fun _ _ _ h => h) (Or.inl ⟨by rfl, ?_⟩) ?_ ?_
           rotate_left
           ·intro w'
            go_simp
            first | (with_reducible rfl) | rfl
           rotate_left
           ·simp only [Act.put, List.setIfInBounds_toArray, List.set_cons_zero, List.set_cons_succ, i64_w, i32_w]
            rfl
           refine take_ (i := 4) (N := some 16) (v := ?_) (a' := ?_) mk11_6 rfl rfl (take_ofW HT_.out HW_.out (by kernel_rfl)) (fun _ _ _ h => h) (Or.inl ⟨by rfl, ?_⟩) hHeld ?_ ?_
           rotate_left
           ·rintro w' ⟨s0, s1, s2, s3, s4, s5, s6, s7⟩
            go_simp
            first | (with_reducible rfl) | rfl
           rotate_left
           ·simp only [Act.put, List.setIfInBounds_toArray, List.set_cons_zero, List.set_cons_succ, i64_w, i32_w]
            rfl
           refine one_ (i := 6) (N := some 18) mk11_7 rfl rfl (one_of HT_.out (by kernel_rfl)) (by decide) (fun K hK => ?_)
           refine goes_ Try.func68 (by kernel_rfl) rfl #[.int .i64 x1_1] (by rfl) rfl rfl u11_1 ?_
           with_reducible refine (laws_markText.calls k1 x1_1 t273 _ A5.out).mono ?_
           rintro e w28 ⟨rfl, hb⟩
           refine ⟨_, rfl, ?_⟩
           have n0_ := Aside0.mk (below_step u11_0 hb)
           clear HB
           have HB := n0_
           clear n0_
           (try clear hb)
           (try clear hb2)
           (try clear hk)
           (try clear hi)
           refine hK.out _ _ ⟨(bc HB.out hw272_0), (bc HB.out hw272_1), (bc HB.out hw272_2), (bc HB.out hw272_3), (bc HB.out hw272_4), (bc HB.out hw272_5), (bc HB.out hw272_6), (bc HB.out hw272_7)⟩ (fun hHeld => ?_)
           clear hK K
           refine norm_ (a' := ?_) ?_ ?_
           rotate_left
           ·show Act.put _ (some 18) _ = _
            simp only [Act.put, List.setIfInBounds_toArray, List.set_cons_zero, List.set_cons_succ, i64_w, i32_w]
            rfl
           refine pure_ (i := 7) (N := some 19) (v := ?_) (a' := ?_) mk11_8 rfl rfl (any_of HT_.out (by kernel_rfl)) (fun _ _ _ h => h) (Or.inl ⟨by rfl, ?_⟩) ?_ ?_
           rotate_left
           ·intro w'
            go_simp
            first | (with_reducible rfl) | rfl
           rotate_left
           ·simp only [Act.put, List.setIfInBounds_toArray, List.set_cons_zero, List.set_cons_succ, i64_w, i32_w]
            rfl
           refine done_ (done_of HT_.out (by kernel_rfl)) ?_
           have p274 : 0 ≤ (x5_1 : Int) := of_decide_eq_true u11_2
           have q274 : x5_1 < (l0.length : Int) := of_decide_eq_true u11_2
           obtain ⟨ad274, e274, hx274_0, hx274_1, hx274_2, hx274_3, hx274_4, hx274_5, hx274_6, hx274_7⟩ := at_T30 HR0.out x5_1 p274 q274
           obtain rfl : ad272 = ad274 := (by injection e274)
           replace hx274_0 := bc HB.out hx274_0
           replace hx274_1 := bc HB.out hx274_1
           replace hx274_2 := bc HB.out hx274_2
           replace hx274_3 := bc HB.out hx274_3
           replace hx274_4 := bc HB.out hx274_4
           replace hx274_5 := bc HB.out hx274_5
           replace hx274_6 := bc HB.out hx274_6
           replace hx274_7 := bc HB.out hx274_7
           replace p274 := eq_true p274
           replace q274 := eq_true q274
           try go_wp2
           have n0_ := Aside0.mk (below_drew1 HB.out)
           clear HB
           have HB := n0_
           clear n0_
           have p275 : 0 ≤ (x5_1 : Int) := of_decide_eq_true u11_2
           have q275 : x5_1 < (l0.length : Int) := of_decide_eq_true u11_2
           obtain ⟨ad275, e275, hx275_0, hx275_1, hx275_2, hx275_3, hx275_4, hx275_5, hx275_6, hx275_7⟩ := at_T30 HR0.out x5_1 p275 q275
           have hw275_7 := hx275_7
           have hw275_6 := hx275_6
           have hw275_5 := hx275_5
           have hw275_4 := hx275_4
           have hw275_3 := hx275_3
           have hw275_2 := hx275_2
           have hw275_1 := hx275_1
           have hw275_0 := hx275_0
           obtain rfl : ad272 = ad275 := (by injection e275)
           replace hx275_0 := bc HB.out hx275_0
           replace hx275_1 := bc HB.out hx275_1
           replace hx275_2 := bc HB.out hx275_2
           replace hx275_3 := bc HB.out hx275_3
           replace hx275_4 := bc HB.out hx275_4
           replace hx275_5 := bc HB.out hx275_5
           replace hx275_6 := bc HB.out hx275_6
           replace hx275_7 := bc HB.out hx275_7
           replace p275 := eq_true p275
           replace q275 := eq_true q275
           refine start_ (n := 8) (S := fun w' => w'.cell? (ad272.add ((x5_1).toNat * 8)) = some (.string ((rd_T30 l0 x5_1).f0)) ∧ w'.cell? ⟨(ad272.add ((x5_1).toNat * 8)).block, (ad272.add ((x5_1).toNat * 8)).off + 1, none⟩ = some (.int .i64 ((rd_T30 l0 x5_1).f1)) ∧ w'.cell? ⟨(ad272.add ((x5_1).toNat * 8)).block, (ad272.add ((x5_1).toNat * 8)).off + 2, none⟩ = some (.string ((rd_T30 l0 x5_1).f2)) ∧ w'.cell? ⟨(ad272.add ((x5_1).toNat * 8)).block, (ad272.add ((x5_1).toNat * 8)).off + 3, none⟩ = some (.int .i64 ((rd_T30 l0 x5_1).f3.f0)) ∧ w'.cell? ⟨(ad272.add ((x5_1).toNat * 8)).block, (ad272.add ((x5_1).toNat * 8)).off + 4, none⟩ = some (.int .i64 ((rd_T30 l0 x5_1).f3.f1)) ∧ w'.cell? ⟨(ad272.add ((x5_1).toNat * 8)).block, (ad272.add ((x5_1).toNat * 8)).off + 5, none⟩ = some (.int .i64 ((rd_T30 l0 x5_1).f4)) ∧ w'.cell? ⟨(ad272.add ((x5_1).toNat * 8)).block, (ad272.add ((x5_1).toNat * 8)).off + 6, none⟩ = some (.int .i64 ((rd_T30 l0 x5_1).f5)) ∧ w'.cell? ⟨(ad272.add ((x5_1).toNat * 8)).block, (ad272.add ((x5_1).toNat * 8)).off + 7, none⟩ = some (.int .i64 ((rd_T30 l0 x5_1).f6))) (ds := []) mk11_0 (by kernel_rfl) rfl rfl ⟨(bc HB.out hw275_0), (bc HB.out hw275_1), (bc HB.out hw275_2), (bc HB.out hw275_3), (bc HB.out hw275_4), (bc HB.out hw275_5), (bc HB.out hw275_6), (bc HB.out hw275_7)⟩ (fun hHeld => ?_); refine with_tabW laws_heldDeviceS.tab10 laws_heldDeviceS.bits10 (fun HT_ HW_ => ?_)
           generalize w28.drew = w29 at HB hx275_0 hx275_1 hx275_2 hx275_3 hx275_4 hx275_5 hx275_6 hx275_7 hHeld ⊢
           refine pure_ (i := 0) (N := some 31) (v := ?_) (a' := ?_) mk11_1 rfl rfl (any_of HT_.out (by kernel_rfl)) (fun _ _ _ h => h) (Or.inl ⟨by rfl, ?_⟩) ?_ ?_
           rotate_left
           ·intro w'
            go_simp
            first | (with_reducible rfl) | rfl
           rotate_left
           ·simp only [Act.put, List.setIfInBounds_toArray, List.set_cons_zero, List.set_cons_succ, i64_w, i32_w]
            rfl
           refine pure_ (i := 1) (N := some 32) (v := ?_) (a' := ?_) mk11_2 rfl rfl (any_of HT_.out (by kernel_rfl)) (fun _ _ _ h => h) (Or.inl ⟨by rfl, ?_⟩) ?_ ?_
           rotate_left
           ·intro w'
            go_simp
            first | (with_reducible rfl) | rfl
           rotate_left
           ·simp only [Act.put, List.setIfInBounds_toArray, List.set_cons_zero, List.set_cons_succ, i64_w, i32_w]
            rfl
           refine pure_ (i := 2) (N := some 33) (v := ?_) (a' := ?_) mk11_3 rfl rfl (any_of HT_.out (by kernel_rfl)) (fun _ _ _ h => h) (Or.inl ⟨by rfl, ?_⟩) ?_ ?_
           rotate_left
           ·intro w'
            go_simp
            first | (with_reducible rfl) | rfl
           rotate_left
           ·simp only [Act.put, List.setIfInBounds_toArray, List.set_cons_zero, List.set_cons_succ, i64_w, i32_w]
            rfl
           refine pure_ (i := 3) (N := some 34) (v := ?_) (a' := ?_) mk11_4 rfl rfl (any_of HT_.out (by kernel_rfl)) (fun _ _ _ h => h) (Or.inl ⟨by rfl, ?_⟩) ?_ ?_
           rotate_left
           ·intro w'
            go_simp
            first | (with_reducible rfl) | rfl
           rotate_left
           ·simp only [Act.put, List.setIfInBounds_toArray, List.set_cons_zero, List.set_cons_succ, i64_w, i32_w]
            rfl
           refine pure_ (i := 5) (N := some 36) (v := ?_) (a' := ?_) mk11_5 rfl rfl (any_of HT_.out (by kernel_rfl)) (fun _ _ _ h => h) (Or.inl ⟨by rfl, ?_⟩) ?_ ?_
           rotate_left
           ·intro w'
            go_simp
            first | (with_reducible rfl) | rfl
           rotate_left
           ·simp only [Act.put, List.setIfInBounds_toArray, List.set_cons_zero, List.set_cons_succ, i64_w, i32_w]
            rfl
           refine take_ (i := 4) (N := some 35) (v := ?_) (a' := ?_) mk11_6 rfl rfl (take_ofW HT_.out HW_.out (by kernel_rfl)) (fun _ _ _ h => h) (Or.inl ⟨by rfl, ?_⟩) hHeld ?_ ?_
           rotate_left
           ·rintro w' ⟨s0, s1, s2, s3, s4, s5, s6, s7⟩
            go_simp
            first | (with_reducible rfl) | rfl
           rotate_left
           ·simp only [Act.put, List.setIfInBounds_toArray, List.set_cons_zero, List.set_cons_succ, i64_w, i32_w]
            rfl
           refine one_ (i := 6) (N := some 37) mk11_7 rfl rfl (one_of HT_.out (by kernel_rfl)) (by decide) (fun K hK => ?_)
           refine goes_ Try.func68 (by kernel_rfl) rfl #[.int .i64 (wrap64 ((wrap64 (x1_1 + 1)) + 1))] (by rfl) rfl rfl u11_1 ?_
           with_reducible refine (laws_markText.calls k1 (wrap64 ((wrap64 (x1_1 + 1)) + 1)) t276 _ A8.out).mono ?_
           rintro e w30 ⟨rfl, hb⟩
           refine ⟨_, rfl, ?_⟩
           have n0_ := Aside0.mk (below_step u11_0 hb)
           clear HB
           have HB := n0_
           clear n0_
           (try clear hb)
           (try clear hb2)
           (try clear hk)
           (try clear hi)
           refine hK.out _ _ ⟨(bc HB.out hw275_0), (bc HB.out hw275_1), (bc HB.out hw275_2), (bc HB.out hw275_3), (bc HB.out hw275_4), (bc HB.out hw275_5), (bc HB.out hw275_6), (bc HB.out hw275_7)⟩ (fun hHeld => ?_)
           clear hK K
           refine norm_ (a' := ?_) ?_ ?_
           rotate_left
           ·show Act.put _ (some 37) _ = _
            simp only [Act.put, List.setIfInBounds_toArray, List.set_cons_zero, List.set_cons_succ, i64_w, i32_w]
            rfl
           refine pure_ (i := 7) (N := some 38) (v := ?_) (a' := ?_) mk11_8 rfl rfl (any_of HT_.out (by kernel_rfl)) (fun _ _ _ h => h) (Or.inl ⟨by rfl, ?_⟩) ?_ ?_
           rotate_left
           ·intro w'
            go_simp
            first | (with_reducible rfl) | rfl
           rotate_left
           ·simp only [Act.put, List.setIfInBounds_toArray, List.set_cons_zero, List.set_cons_succ, i64_w, i32_w]
            rfl
           refine done_ (done_of HT_.out (by kernel_rfl)) ?_
           have p277 : 0 ≤ (x5_1 : Int) := of_decide_eq_true u11_2
           have q277 : x5_1 < (l0.length : Int) := of_decide_eq_true u11_2
           obtain ⟨ad277, e277, hx277_0, hx277_1, hx277_2, hx277_3, hx277_4, hx277_5, hx277_6, hx277_7⟩ := at_T30 HR0.out x5_1 p277 q277
           obtain rfl : ad272 = ad277 := (by injection e277)
           replace hx277_0 := bc HB.out hx277_0
           replace hx277_1 := bc HB.out hx277_1
           replace hx277_2 := bc HB.out hx277_2
           replace hx277_3 := bc HB.out hx277_3
           replace hx277_4 := bc HB.out hx277_4
           replace hx277_5 := bc HB.out hx277_5
           replace hx277_6 := bc HB.out hx277_6
           replace hx277_7 := bc HB.out hx277_7
           replace p277 := eq_true p277
           replace q277 := eq_true q277
           have p278 : 0 ≤ (x5_1 : Int) := of_decide_eq_true u11_2
           have q278 : x5_1 < (l0.length : Int) := of_decide_eq_true u11_2
           obtain ⟨ad278, e278, hx278_0, hx278_1, hx278_2, hx278_3, hx278_4, hx278_5, hx278_6, hx278_7⟩ := at_T30 HR0.out x5_1 p278 q278
           obtain rfl : ad272 = ad278 := (by injection e278)
           replace hx278_0 := bc HB.out hx278_0
           replace hx278_1 := bc HB.out hx278_1
           replace hx278_2 := bc HB.out hx278_2
           replace hx278_3 := bc HB.out hx278_3
           replace hx278_4 := bc HB.out hx278_4
           replace hx278_5 := bc HB.out hx278_5
           replace hx278_6 := bc HB.out hx278_6
           replace hx278_7 := bc HB.out hx278_7
           replace p278 := eq_true p278
           replace q278 := eq_true q278
           have p279 : 0 ≤ (x5_1 : Int) := of_decide_eq_true u11_2
           have q279 : x5_1 < (l0.length : Int) := of_decide_eq_true u11_2
           obtain ⟨ad279, e279, hx279_0, hx279_1, hx279_2, hx279_3, hx279_4, hx279_5, hx279_6, hx279_7⟩ := at_T30 HR0.out x5_1 p279 q279
           obtain rfl : ad272 = ad279 := (by injection e279)
           replace hx279_0 := bc HB.out hx279_0
           replace hx279_1 := bc HB.out hx279_1
           replace hx279_2 := bc HB.out hx279_2
           replace hx279_3 := bc HB.out hx279_3
           replace hx279_4 := bc HB.out hx279_4
           replace hx279_5 := bc HB.out hx279_5
           replace hx279_6 := bc HB.out hx279_6
           replace hx279_7 := bc HB.out hx279_7
           replace p279 := eq_true p279
           replace q279 := eq_true q279
           try go_wp2
           go_ret
           exact ⟨by first | rfl | (simp [*] <;> rfl), by repeat (first | (with_reducible first | exact HB.out | apply below_alloc | apply pw_below_drewN | apply below_drew1) | exact HB.out)⟩
         ·rw [if_neg c11] at H
          have c11b0 : (((rd_T30 l0 x5_1).f3.f1) == (wrap64 ((wrap64 ((wrap64 ((wrap64 (x1_1 + 1)) + 1)) + 1)) + 1))) = false := beq_eq_false_iff_ne.mpr c11
          have c11b1 : (((rd_T30 l0 x5_1).f3.f1) != (wrap64 ((wrap64 ((wrap64 ((wrap64 (x1_1 + 1)) + 1)) + 1)) + 1))) = true := bne_iff_ne.mpr c11
          obtain rfl := Option.some.inj H
          try go_wp2
          have n0_ := Aside0.mk (below_drew1 HB.out)
          clear HB
          have HB := n0_
          clear n0_
          have p272 : 0 ≤ (x5_1 : Int) := of_decide_eq_true u11_2
          have q272 : x5_1 < (l0.length : Int) := of_decide_eq_true u11_2
          obtain ⟨ad272, e272, hx272_0, hx272_1, hx272_2, hx272_3, hx272_4, hx272_5, hx272_6, hx272_7⟩ := at_T30 HR0.out x5_1 p272 q272
          have hw272_7 := hx272_7
          have hw272_6 := hx272_6
          have hw272_5 := hx272_5
          have hw272_4 := hx272_4
          have hw272_3 := hx272_3
          have hw272_2 := hx272_2
          have hw272_1 := hx272_1
          have hw272_0 := hx272_0
          cases e272
          replace hx272_0 := bc HB.out hx272_0
          replace hx272_1 := bc HB.out hx272_1
          replace hx272_2 := bc HB.out hx272_2
          replace hx272_3 := bc HB.out hx272_3
          replace hx272_4 := bc HB.out hx272_4
          replace hx272_5 := bc HB.out hx272_5
          replace hx272_6 := bc HB.out hx272_6
          replace hx272_7 := bc HB.out hx272_7
          replace p272 := eq_true p272
          replace q272 := eq_true q272
          refine start_ (n := 8) (S := fun w' => w'.cell? (ad272.add ((x5_1).toNat * 8)) = some (.string ((rd_T30 l0 x5_1).f0)) ∧ w'.cell? ⟨(ad272.add ((x5_1).toNat * 8)).block, (ad272.add ((x5_1).toNat * 8)).off + 1, none⟩ = some (.int .i64 ((rd_T30 l0 x5_1).f1)) ∧ w'.cell? ⟨(ad272.add ((x5_1).toNat * 8)).block, (ad272.add ((x5_1).toNat * 8)).off + 2, none⟩ = some (.string ((rd_T30 l0 x5_1).f2)) ∧ w'.cell? ⟨(ad272.add ((x5_1).toNat * 8)).block, (ad272.add ((x5_1).toNat * 8)).off + 3, none⟩ = some (.int .i64 ((rd_T30 l0 x5_1).f3.f0)) ∧ w'.cell? ⟨(ad272.add ((x5_1).toNat * 8)).block, (ad272.add ((x5_1).toNat * 8)).off + 4, none⟩ = some (.int .i64 ((rd_T30 l0 x5_1).f3.f1)) ∧ w'.cell? ⟨(ad272.add ((x5_1).toNat * 8)).block, (ad272.add ((x5_1).toNat * 8)).off + 5, none⟩ = some (.int .i64 ((rd_T30 l0 x5_1).f4)) ∧ w'.cell? ⟨(ad272.add ((x5_1).toNat * 8)).block, (ad272.add ((x5_1).toNat * 8)).off + 6, none⟩ = some (.int .i64 ((rd_T30 l0 x5_1).f5)) ∧ w'.cell? ⟨(ad272.add ((x5_1).toNat * 8)).block, (ad272.add ((x5_1).toNat * 8)).off + 7, none⟩ = some (.int .i64 ((rd_T30 l0 x5_1).f6))) (ds := []) mk11_0 (by kernel_rfl) rfl rfl ⟨(bc HB.out hw272_0), (bc HB.out hw272_1), (bc HB.out hw272_2), (bc HB.out hw272_3), (bc HB.out hw272_4), (bc HB.out hw272_5), (bc HB.out hw272_6), (bc HB.out hw272_7)⟩ (fun hHeld => ?_); refine with_tabW laws_heldDeviceS.tab4 laws_heldDeviceS.bits4 (fun HT_ HW_ => ?_)
          generalize wr.drew = w31 at HB hx272_0 hx272_1 hx272_2 hx272_3 hx272_4 hx272_5 hx272_6 hx272_7 hHeld ⊢
          refine pure_ (i := 0) (N := some 12) (v := ?_) (a' := ?_) mk11_1 rfl rfl (any_of HT_.out (by kernel_rfl)) (fun _ _ _ h => h) (Or.inl ⟨by rfl, ?_⟩) ?_ ?_
          rotate_left
          ·intro w'
           go_simp
           first | (with_reducible rfl) | rfl
          rotate_left
          ·simp only [Act.put, List.setIfInBounds_toArray, List.set_cons_zero, List.set_cons_succ, i64_w, i32_w]
           rfl
          refine pure_ (i := 1) (N := some 13) (v := ?_) (a' := ?_) mk11_2 rfl rfl (any_of HT_.out (by kernel_rfl)) (fun _ _ _ h => h) (Or.inl ⟨by rfl, ?_⟩) ?_ ?_
          rotate_left
          ·intro w'
           go_simp
           first | (with_reducible rfl) | rfl
          rotate_left
          ·simp only [Act.put, List.setIfInBounds_toArray, List.set_cons_zero, List.set_cons_succ, i64_w, i32_w]
           rfl
          refine pure_ (i := 2) (N := some 14) (v := ?_) (a' := ?_) mk11_3 rfl rfl (any_of HT_.out (by kernel_rfl)) (fun _ _ _ h => h) (Or.inl ⟨by rfl, ?_⟩) ?_ ?_
          rotate_left
          ·intro w'
           go_simp
           first | (with_reducible rfl) | rfl
          rotate_left
          ·simp only [Act.put, List.setIfInBounds_toArray, List.set_cons_zero, List.set_cons_succ, i64_w, i32_w]
           rfl
          refine pure_ (i := 3) (N := some 15) (v := ?_) (a' := ?_) mk11_4 rfl rfl (any_of HT_.out (by kernel_rfl)) (fun _ _ _ h => h) (Or.inl ⟨by rfl, ?_⟩) ?_ ?_
          rotate_left
          ·intro w'
           go_simp
           first | (with_reducible rfl) | rfl
          rotate_left
          ·simp only [Act.put, List.setIfInBounds_toArray, List.set_cons_zero, List.set_cons_succ, i64_w, i32_w]
           rfl
          refine pure_ (i := 5) (N := some 17) (v := ?_) (a' := ?_) mk11_5 rfl rfl (any_of HT_.out (by kernel_rfl)) (fun _ _ _ h => h) (Or.inl ⟨by rfl, ?_⟩) ?_ ?_
          rotate_left
          ·intro w'
           go_simp
           first | (with_reducible rfl) | rfl
          rotate_left
          ·simp only [Act.put, List.setIfInBounds_toArray, List.set_cons_zero, List.set_cons_succ, i64_w, i32_w]
           rfl
          refine take_ (i := 4) (N := some 16) (v := ?_) (a' := ?_) mk11_6 rfl rfl (take_ofW HT_.out HW_.out (by kernel_rfl)) (fun _ _ _ h => h) (Or.inl ⟨by rfl, ?_⟩) hHeld ?_ ?_
          rotate_left
          ·rintro w' ⟨s0, s1, s2, s3, s4, s5, s6, s7⟩
           go_simp
           first | (with_reducible rfl) | rfl
          rotate_left
          ·simp only [Act.put, List.setIfInBounds_toArray, List.set_cons_zero, List.set_cons_succ, i64_w, i32_w]
           rfl
          refine one_ (i := 6) (N := some 18) mk11_7 rfl rfl (one_of HT_.out (by kernel_rfl)) (by decide) (fun K hK => ?_)
          refine goes_ Try.func68 (by kernel_rfl) rfl #[.int .i64 x1_1] (by rfl) rfl rfl u11_1 ?_
          with_reducible refine (laws_markText.calls k1 x1_1 t273 _ A5.out).mono ?_
          rintro e w32 ⟨rfl, hb⟩
          refine ⟨_, rfl, ?_⟩
          have n0_ := Aside0.mk (below_step u11_0 hb)
          clear HB
          have HB := n0_
          clear n0_
          (try clear hb)
          (try clear hb2)
          (try clear hk)
          (try clear hi)
          refine hK.out _ _ ⟨(bc HB.out hw272_0), (bc HB.out hw272_1), (bc HB.out hw272_2), (bc HB.out hw272_3), (bc HB.out hw272_4), (bc HB.out hw272_5), (bc HB.out hw272_6), (bc HB.out hw272_7)⟩ (fun hHeld => ?_)
          clear hK K
          refine norm_ (a' := ?_) ?_ ?_
          rotate_left
          ·show Act.put _ (some 18) _ = _
           simp only [Act.put, List.setIfInBounds_toArray, List.set_cons_zero, List.set_cons_succ, i64_w, i32_w]
           rfl
          refine pure_ (i := 7) (N := some 19) (v := ?_) (a' := ?_) mk11_8 rfl rfl (any_of HT_.out (by kernel_rfl)) (fun _ _ _ h => h) (Or.inl ⟨by rfl, ?_⟩) ?_ ?_
          rotate_left
          ·intro w'
           go_simp
           first | (with_reducible rfl) | rfl
          rotate_left
          ·simp only [Act.put, List.setIfInBounds_toArray, List.set_cons_zero, List.set_cons_succ, i64_w, i32_w]
           rfl
          refine done_ (done_of HT_.out (by kernel_rfl)) ?_
          have p274 : 0 ≤ (x5_1 : Int) := of_decide_eq_true u11_2
          have q274 : x5_1 < (l0.length : Int) := of_decide_eq_true u11_2
          obtain ⟨ad274, e274, hx274_0, hx274_1, hx274_2, hx274_3, hx274_4, hx274_5, hx274_6, hx274_7⟩ := at_T30 HR0.out x5_1 p274 q274
          obtain rfl : ad272 = ad274 := (by injection e274)
          replace hx274_0 := bc HB.out hx274_0
          replace hx274_1 := bc HB.out hx274_1
          replace hx274_2 := bc HB.out hx274_2
          replace hx274_3 := bc HB.out hx274_3
          replace hx274_4 := bc HB.out hx274_4
          replace hx274_5 := bc HB.out hx274_5
          replace hx274_6 := bc HB.out hx274_6
          replace hx274_7 := bc HB.out hx274_7
          replace p274 := eq_true p274
          replace q274 := eq_true q274
          try go_wp2
          have n0_ := Aside0.mk (below_drew1 HB.out)
          clear HB
          have HB := n0_
          clear n0_
          have p275 : 0 ≤ (x5_1 : Int) := of_decide_eq_true u11_2
          have q275 : x5_1 < (l0.length : Int) := of_decide_eq_true u11_2
          obtain ⟨ad275, e275, hx275_0, hx275_1, hx275_2, hx275_3, hx275_4, hx275_5, hx275_6, hx275_7⟩ := at_T30 HR0.out x5_1 p275 q275
          have hw275_7 := hx275_7
          have hw275_6 := hx275_6
          have hw275_5 := hx275_5
          have hw275_4 := hx275_4
          have hw275_3 := hx275_3
          have hw275_2 := hx275_2
          have hw275_1 := hx275_1
          have hw275_0 := hx275_0
          obtain rfl : ad272 = ad275 := (by injection e275)
          replace hx275_0 := bc HB.out hx275_0
          replace hx275_1 := bc HB.out hx275_1
          replace hx275_2 := bc HB.out hx275_2
          replace hx275_3 := bc HB.out hx275_3
          replace hx275_4 := bc HB.out hx275_4
          replace hx275_5 := bc HB.out hx275_5
          replace hx275_6 := bc HB.out hx275_6
          replace hx275_7 := bc HB.out hx275_7
          replace p275 := eq_true p275
          replace q275 := eq_true q275
          refine start_ (n := 8) (S := fun w' => w'.cell? (ad272.add ((x5_1).toNat * 8)) = some (.string ((rd_T30 l0 x5_1).f0)) ∧ w'.cell? ⟨(ad272.add ((x5_1).toNat * 8)).block, (ad272.add ((x5_1).toNat * 8)).off + 1, none⟩ = some (.int .i64 ((rd_T30 l0 x5_1).f1)) ∧ w'.cell? ⟨(ad272.add ((x5_1).toNat * 8)).block, (ad272.add ((x5_1).toNat * 8)).off + 2, none⟩ = some (.string ((rd_T30 l0 x5_1).f2)) ∧ w'.cell? ⟨(ad272.add ((x5_1).toNat * 8)).block, (ad272.add ((x5_1).toNat * 8)).off + 3, none⟩ = some (.int .i64 ((rd_T30 l0 x5_1).f3.f0)) ∧ w'.cell? ⟨(ad272.add ((x5_1).toNat * 8)).block, (ad272.add ((x5_1).toNat * 8)).off + 4, none⟩ = some (.int .i64 ((rd_T30 l0 x5_1).f3.f1)) ∧ w'.cell? ⟨(ad272.add ((x5_1).toNat * 8)).block, (ad272.add ((x5_1).toNat * 8)).off + 5, none⟩ = some (.int .i64 ((rd_T30 l0 x5_1).f4)) ∧ w'.cell? ⟨(ad272.add ((x5_1).toNat * 8)).block, (ad272.add ((x5_1).toNat * 8)).off + 6, none⟩ = some (.int .i64 ((rd_T30 l0 x5_1).f5)) ∧ w'.cell? ⟨(ad272.add ((x5_1).toNat * 8)).block, (ad272.add ((x5_1).toNat * 8)).off + 7, none⟩ = some (.int .i64 ((rd_T30 l0 x5_1).f6))) (ds := []) mk11_0 (by kernel_rfl) rfl rfl ⟨(bc HB.out hw275_0), (bc HB.out hw275_1), (bc HB.out hw275_2), (bc HB.out hw275_3), (bc HB.out hw275_4), (bc HB.out hw275_5), (bc HB.out hw275_6), (bc HB.out hw275_7)⟩ (fun hHeld => ?_); refine with_tabW laws_heldDeviceS.tab10 laws_heldDeviceS.bits10 (fun HT_ HW_ => ?_)
          generalize w32.drew = w33 at HB hx275_0 hx275_1 hx275_2 hx275_3 hx275_4 hx275_5 hx275_6 hx275_7 hHeld ⊢
          refine pure_ (i := 0) (N := some 31) (v := ?_) (a' := ?_) mk11_1 rfl rfl (any_of HT_.out (by kernel_rfl)) (fun _ _ _ h => h) (Or.inl ⟨by rfl, ?_⟩) ?_ ?_
          rotate_left
          ·intro w'
           go_simp
           first | (with_reducible rfl) | rfl
          rotate_left
          ·simp only [Act.put, List.setIfInBounds_toArray, List.set_cons_zero, List.set_cons_succ, i64_w, i32_w]
           rfl
          refine pure_ (i := 1) (N := some 32) (v := ?_) (a' := ?_) mk11_2 rfl rfl (any_of HT_.out (by kernel_rfl)) (fun _ _ _ h => h) (Or.inl ⟨by rfl, ?_⟩) ?_ ?_
          rotate_left
          ·intro w'
           go_simp
           first | (with_reducible rfl) | rfl
          rotate_left
          ·simp only [Act.put, List.setIfInBounds_toArray, List.set_cons_zero, List.set_cons_succ, i64_w, i32_w]
           rfl
          refine pure_ (i := 2) (N := some 33) (v := ?_) (a' := ?_) mk11_3 rfl rfl (any_of HT_.out (by kernel_rfl)) (fun _ _ _ h => h) (Or.inl ⟨by rfl, ?_⟩) ?_ ?_
          rotate_left
          ·intro w'
           go_simp
           first | (with_reducible rfl) | rfl
          rotate_left
          ·simp only [Act.put, List.setIfInBounds_toArray, List.set_cons_zero, List.set_cons_succ, i64_w, i32_w]
           rfl
          refine pure_ (i := 3) (N := some 34) (v := ?_) (a' := ?_) mk11_4 rfl rfl (any_of HT_.out (by kernel_rfl)) (fun _ _ _ h => h) (Or.inl ⟨by rfl, ?_⟩) ?_ ?_
          rotate_left
          ·intro w'
           go_simp
           first | (with_reducible rfl) | rfl
          rotate_left
          ·simp only [Act.put, List.setIfInBounds_toArray, List.set_cons_zero, List.set_cons_succ, i64_w, i32_w]
           rfl
          refine pure_ (i := 5) (N := some 36) (v := ?_) (a' := ?_) mk11_5 rfl rfl (any_of HT_.out (by kernel_rfl)) (fun _ _ _ h => h) (Or.inl ⟨by rfl, ?_⟩) ?_ ?_
          rotate_left
          ·intro w'
           go_simp
           first | (with_reducible rfl) | rfl
          rotate_left
          ·simp only [Act.put, List.setIfInBounds_toArray, List.set_cons_zero, List.set_cons_succ, i64_w, i32_w]
           rfl
          refine take_ (i := 4) (N := some 35) (v := ?_) (a' := ?_) mk11_6 rfl rfl (take_ofW HT_.out HW_.out (by kernel_rfl)) (fun _ _ _ h => h) (Or.inl ⟨by rfl, ?_⟩) hHeld ?_ ?_
          rotate_left
          ·rintro w' ⟨s0, s1, s2, s3, s4, s5, s6, s7⟩
           go_simp
           first | (with_reducible rfl) | rfl
          rotate_left
          ·simp only [Act.put, List.setIfInBounds_toArray, List.set_cons_zero, List.set_cons_succ, i64_w, i32_w]
           rfl
          refine one_ (i := 6) (N := some 37) mk11_7 rfl rfl (one_of HT_.out (by kernel_rfl)) (by decide) (fun K hK => ?_)
          refine goes_ Try.func68 (by kernel_rfl) rfl #[.int .i64 (wrap64 ((wrap64 (x1_1 + 1)) + 1))] (by rfl) rfl rfl u11_1 ?_
          with_reducible refine (laws_markText.calls k1 (wrap64 ((wrap64 (x1_1 + 1)) + 1)) t276 _ A8.out).mono ?_
          rintro e w34 ⟨rfl, hb⟩
          refine ⟨_, rfl, ?_⟩
          have n0_ := Aside0.mk (below_step u11_0 hb)
          clear HB
          have HB := n0_
          clear n0_
          (try clear hb)
          (try clear hb2)
          (try clear hk)
          (try clear hi)
          refine hK.out _ _ ⟨(bc HB.out hw275_0), (bc HB.out hw275_1), (bc HB.out hw275_2), (bc HB.out hw275_3), (bc HB.out hw275_4), (bc HB.out hw275_5), (bc HB.out hw275_6), (bc HB.out hw275_7)⟩ (fun hHeld => ?_)
          clear hK K
          refine norm_ (a' := ?_) ?_ ?_
          rotate_left
          ·show Act.put _ (some 37) _ = _
           simp only [Act.put, List.setIfInBounds_toArray, List.set_cons_zero, List.set_cons_succ, i64_w, i32_w]
           rfl
          refine pure_ (i := 7) (N := some 38) (v := ?_) (a' := ?_) mk11_8 rfl rfl (any_of HT_.out (by kernel_rfl)) (fun _ _ _ h => h) (Or.inl ⟨by rfl, ?_⟩) ?_ ?_
          rotate_left
          ·intro w'
           go_simp
           first | (with_reducible rfl) | rfl
          rotate_left
          ·simp only [Act.put, List.setIfInBounds_toArray, List.set_cons_zero, List.set_cons_succ, i64_w, i32_w]
           rfl
          refine done_ (done_of HT_.out (by kernel_rfl)) ?_
          have p277 : 0 ≤ (x5_1 : Int) := of_decide_eq_true u11_2
          have q277 : x5_1 < (l0.length : Int) := of_decide_eq_true u11_2
          obtain ⟨ad277, e277, hx277_0, hx277_1, hx277_2, hx277_3, hx277_4, hx277_5, hx277_6, hx277_7⟩ := at_T30 HR0.out x5_1 p277 q277
          obtain rfl : ad272 = ad277 := (by injection e277)
          replace hx277_0 := bc HB.out hx277_0
          replace hx277_1 := bc HB.out hx277_1
          replace hx277_2 := bc HB.out hx277_2
          replace hx277_3 := bc HB.out hx277_3
          replace hx277_4 := bc HB.out hx277_4
          replace hx277_5 := bc HB.out hx277_5
          replace hx277_6 := bc HB.out hx277_6
          replace hx277_7 := bc HB.out hx277_7
          replace p277 := eq_true p277
          replace q277 := eq_true q277
          have p278 : 0 ≤ (x5_1 : Int) := of_decide_eq_true u11_2
          have q278 : x5_1 < (l0.length : Int) := of_decide_eq_true u11_2
          obtain ⟨ad278, e278, hx278_0, hx278_1, hx278_2, hx278_3, hx278_4, hx278_5, hx278_6, hx278_7⟩ := at_T30 HR0.out x5_1 p278 q278
          obtain rfl : ad272 = ad278 := (by injection e278)
          replace hx278_0 := bc HB.out hx278_0
          replace hx278_1 := bc HB.out hx278_1
          replace hx278_2 := bc HB.out hx278_2
          replace hx278_3 := bc HB.out hx278_3
          replace hx278_4 := bc HB.out hx278_4
          replace hx278_5 := bc HB.out hx278_5
          replace hx278_6 := bc HB.out hx278_6
          replace hx278_7 := bc HB.out hx278_7
          replace p278 := eq_true p278
          replace q278 := eq_true q278
          try go_wp2
          go_ret
          exact ⟨by first | rfl | (simp [*] <;> rfl), by repeat (first | (with_reducible first | exact HB.out | apply below_alloc | apply pw_below_drewN | apply below_drew1) | exact HB.out)⟩
        ·rw [if_neg c10] at H
         have c10b0 : (((rd_T30 l0 x5_1).f3.f0) == (wrap64 ((wrap64 ((wrap64 (x1_1 + 1)) + 1)) + 1))) = false := beq_eq_false_iff_ne.mpr c10
         have c10b1 : (((rd_T30 l0 x5_1).f3.f0) != (wrap64 ((wrap64 ((wrap64 (x1_1 + 1)) + 1)) + 1))) = true := bne_iff_ne.mpr c10
         obtain rfl := Option.some.inj H
         try go_wp2
         have n0_ := Aside0.mk (below_drew1 HB.out)
         clear HB
         have HB := n0_
         clear n0_
         have p272 : 0 ≤ (x5_1 : Int) := of_decide_eq_true u11_2
         have q272 : x5_1 < (l0.length : Int) := of_decide_eq_true u11_2
         obtain ⟨ad272, e272, hx272_0, hx272_1, hx272_2, hx272_3, hx272_4, hx272_5, hx272_6, hx272_7⟩ := at_T30 HR0.out x5_1 p272 q272
         have hw272_7 := hx272_7
         have hw272_6 := hx272_6
         have hw272_5 := hx272_5
         have hw272_4 := hx272_4
         have hw272_3 := hx272_3
         have hw272_2 := hx272_2
         have hw272_1 := hx272_1
         have hw272_0 := hx272_0
         cases e272
         replace hx272_0 := bc HB.out hx272_0
         replace hx272_1 := bc HB.out hx272_1
         replace hx272_2 := bc HB.out hx272_2
         replace hx272_3 := bc HB.out hx272_3
         replace hx272_4 := bc HB.out hx272_4
         replace hx272_5 := bc HB.out hx272_5
         replace hx272_6 := bc HB.out hx272_6
         replace hx272_7 := bc HB.out hx272_7
         replace p272 := eq_true p272
         replace q272 := eq_true q272
         refine start_ (n := 8) (S := fun w' => w'.cell? (ad272.add ((x5_1).toNat * 8)) = some (.string ((rd_T30 l0 x5_1).f0)) ∧ w'.cell? ⟨(ad272.add ((x5_1).toNat * 8)).block, (ad272.add ((x5_1).toNat * 8)).off + 1, none⟩ = some (.int .i64 ((rd_T30 l0 x5_1).f1)) ∧ w'.cell? ⟨(ad272.add ((x5_1).toNat * 8)).block, (ad272.add ((x5_1).toNat * 8)).off + 2, none⟩ = some (.string ((rd_T30 l0 x5_1).f2)) ∧ w'.cell? ⟨(ad272.add ((x5_1).toNat * 8)).block, (ad272.add ((x5_1).toNat * 8)).off + 3, none⟩ = some (.int .i64 ((rd_T30 l0 x5_1).f3.f0)) ∧ w'.cell? ⟨(ad272.add ((x5_1).toNat * 8)).block, (ad272.add ((x5_1).toNat * 8)).off + 4, none⟩ = some (.int .i64 ((rd_T30 l0 x5_1).f3.f1)) ∧ w'.cell? ⟨(ad272.add ((x5_1).toNat * 8)).block, (ad272.add ((x5_1).toNat * 8)).off + 5, none⟩ = some (.int .i64 ((rd_T30 l0 x5_1).f4)) ∧ w'.cell? ⟨(ad272.add ((x5_1).toNat * 8)).block, (ad272.add ((x5_1).toNat * 8)).off + 6, none⟩ = some (.int .i64 ((rd_T30 l0 x5_1).f5)) ∧ w'.cell? ⟨(ad272.add ((x5_1).toNat * 8)).block, (ad272.add ((x5_1).toNat * 8)).off + 7, none⟩ = some (.int .i64 ((rd_T30 l0 x5_1).f6))) (ds := []) mk11_0 (by kernel_rfl) rfl rfl ⟨(bc HB.out hw272_0), (bc HB.out hw272_1), (bc HB.out hw272_2), (bc HB.out hw272_3), (bc HB.out hw272_4), (bc HB.out hw272_5), (bc HB.out hw272_6), (bc HB.out hw272_7)⟩ (fun hHeld => ?_); refine with_tabW laws_heldDeviceS.tab4 laws_heldDeviceS.bits4 (fun HT_ HW_ => ?_)
         generalize wr.drew = w35 at HB hx272_0 hx272_1 hx272_2 hx272_3 hx272_4 hx272_5 hx272_6 hx272_7 hHeld ⊢
         refine pure_ (i := 0) (N := some 12) (v := ?_) (a' := ?_) mk11_1 rfl rfl (any_of HT_.out (by kernel_rfl)) (fun _ _ _ h => h) (Or.inl ⟨by rfl, ?_⟩) ?_ ?_
         rotate_left
         ·intro w'
          go_simp
          first | (with_reducible rfl) | rfl
         rotate_left
         ·simp only [Act.put, List.setIfInBounds_toArray, List.set_cons_zero, List.set_cons_succ, i64_w, i32_w]
          rfl
         refine pure_ (i := 1) (N := some 13) (v := ?_) (a' := ?_) mk11_2 rfl rfl (any_of HT_.out (by kernel_rfl)) (fun _ _ _ h => h) (Or.inl ⟨by rfl, ?_⟩) ?_ ?_
         rotate_left
         ·intro w'
          go_simp
          first | (with_reducible rfl) | rfl
         rotate_left
         ·simp only [Act.put, List.setIfInBounds_toArray, List.set_cons_zero, List.set_cons_succ, i64_w, i32_w]
          rfl
         refine pure_ (i := 2) (N := some 14) (v := ?_) (a' := ?_) mk11_3 rfl rfl (any_of HT_.out (by kernel_rfl)) (fun _ _ _ h => h) (Or.inl ⟨by rfl, ?_⟩) ?_ ?_
         rotate_left
         ·intro w'
          go_simp
          first | (with_reducible rfl) | rfl
         rotate_left
         ·simp only [Act.put, List.setIfInBounds_toArray, List.set_cons_zero, List.set_cons_succ, i64_w, i32_w]
          rfl
         refine pure_ (i := 3) (N := some 15) (v := ?_) (a' := ?_) mk11_4 rfl rfl (any_of HT_.out (by kernel_rfl)) (fun _ _ _ h => h) (Or.inl ⟨by rfl, ?_⟩) ?_ ?_
         rotate_left
         ·intro w'
          go_simp
          first | (with_reducible rfl) | rfl
         rotate_left
         ·simp only [Act.put, List.setIfInBounds_toArray, List.set_cons_zero, List.set_cons_succ, i64_w, i32_w]
          rfl
         refine pure_ (i := 5) (N := some 17) (v := ?_) (a' := ?_) mk11_5 rfl rfl (any_of HT_.out (by kernel_rfl)) (fun _ _ _ h => h) (Or.inl ⟨by rfl, ?_⟩) ?_ ?_
         rotate_left
         ·intro w'
          go_simp
          first | (with_reducible rfl) | rfl
         rotate_left
         ·simp only [Act.put, List.setIfInBounds_toArray, List.set_cons_zero, List.set_cons_succ, i64_w, i32_w]
          rfl
         refine take_ (i := 4) (N := some 16) (v := ?_) (a' := ?_) mk11_6 rfl rfl (take_ofW HT_.out HW_.out (by kernel_rfl)) (fun _ _ _ h => h) (Or.inl ⟨by rfl, ?_⟩) hHeld ?_ ?_
         rotate_left
         ·rintro w' ⟨s0, s1, s2, s3, s4, s5, s6, s7⟩
          go_simp
          first | (with_reducible rfl) | rfl
         rotate_left
         ·simp only [Act.put, List.setIfInBounds_toArray, List.set_cons_zero, List.set_cons_succ, i64_w, i32_w]
          rfl
         refine one_ (i := 6) (N := some 18) mk11_7 rfl rfl (one_of HT_.out (by kernel_rfl)) (by decide) (fun K hK => ?_)
         refine goes_ Try.func68 (by kernel_rfl) rfl #[.int .i64 x1_1] (by rfl) rfl rfl u11_1 ?_
         with_reducible refine (laws_markText.calls k1 x1_1 t273 _ A5.out).mono ?_
         rintro e w36 ⟨rfl, hb⟩
         refine ⟨_, rfl, ?_⟩
         have n0_ := Aside0.mk (below_step u11_0 hb)
         clear HB
         have HB := n0_
         clear n0_
         (try clear hb)
         (try clear hb2)
         (try clear hk)
         (try clear hi)
         refine hK.out _ _ ⟨(bc HB.out hw272_0), (bc HB.out hw272_1), (bc HB.out hw272_2), (bc HB.out hw272_3), (bc HB.out hw272_4), (bc HB.out hw272_5), (bc HB.out hw272_6), (bc HB.out hw272_7)⟩ (fun hHeld => ?_)
         clear hK K
         refine norm_ (a' := ?_) ?_ ?_
         rotate_left
         ·show Act.put _ (some 18) _ = _
          simp only [Act.put, List.setIfInBounds_toArray, List.set_cons_zero, List.set_cons_succ, i64_w, i32_w]
          rfl
         refine pure_ (i := 7) (N := some 19) (v := ?_) (a' := ?_) mk11_8 rfl rfl (any_of HT_.out (by kernel_rfl)) (fun _ _ _ h => h) (Or.inl ⟨by rfl, ?_⟩) ?_ ?_
         rotate_left
         ·intro w'
          go_simp
          first | (with_reducible rfl) | rfl
         rotate_left
         ·simp only [Act.put, List.setIfInBounds_toArray, List.set_cons_zero, List.set_cons_succ, i64_w, i32_w]
          rfl
         refine done_ (done_of HT_.out (by kernel_rfl)) ?_
         have p274 : 0 ≤ (x5_1 : Int) := of_decide_eq_true u11_2
         have q274 : x5_1 < (l0.length : Int) := of_decide_eq_true u11_2
         obtain ⟨ad274, e274, hx274_0, hx274_1, hx274_2, hx274_3, hx274_4, hx274_5, hx274_6, hx274_7⟩ := at_T30 HR0.out x5_1 p274 q274
         obtain rfl : ad272 = ad274 := (by injection e274)
         replace hx274_0 := bc HB.out hx274_0
         replace hx274_1 := bc HB.out hx274_1
         replace hx274_2 := bc HB.out hx274_2
         replace hx274_3 := bc HB.out hx274_3
         replace hx274_4 := bc HB.out hx274_4
         replace hx274_5 := bc HB.out hx274_5
         replace hx274_6 := bc HB.out hx274_6
         replace hx274_7 := bc HB.out hx274_7
         replace p274 := eq_true p274
         replace q274 := eq_true q274
         try go_wp2
         have n0_ := Aside0.mk (below_drew1 HB.out)
         clear HB
         have HB := n0_
         clear n0_
         have p275 : 0 ≤ (x5_1 : Int) := of_decide_eq_true u11_2
         have q275 : x5_1 < (l0.length : Int) := of_decide_eq_true u11_2
         obtain ⟨ad275, e275, hx275_0, hx275_1, hx275_2, hx275_3, hx275_4, hx275_5, hx275_6, hx275_7⟩ := at_T30 HR0.out x5_1 p275 q275
         have hw275_7 := hx275_7
         have hw275_6 := hx275_6
         have hw275_5 := hx275_5
         have hw275_4 := hx275_4
         have hw275_3 := hx275_3
         have hw275_2 := hx275_2
         have hw275_1 := hx275_1
         have hw275_0 := hx275_0
         obtain rfl : ad272 = ad275 := (by injection e275)
         replace hx275_0 := bc HB.out hx275_0
         replace hx275_1 := bc HB.out hx275_1
         replace hx275_2 := bc HB.out hx275_2
         replace hx275_3 := bc HB.out hx275_3
         replace hx275_4 := bc HB.out hx275_4
         replace hx275_5 := bc HB.out hx275_5
         replace hx275_6 := bc HB.out hx275_6
         replace hx275_7 := bc HB.out hx275_7
         replace p275 := eq_true p275
         replace q275 := eq_true q275
         refine start_ (n := 8) (S := fun w' => w'.cell? (ad272.add ((x5_1).toNat * 8)) = some (.string ((rd_T30 l0 x5_1).f0)) ∧ w'.cell? ⟨(ad272.add ((x5_1).toNat * 8)).block, (ad272.add ((x5_1).toNat * 8)).off + 1, none⟩ = some (.int .i64 ((rd_T30 l0 x5_1).f1)) ∧ w'.cell? ⟨(ad272.add ((x5_1).toNat * 8)).block, (ad272.add ((x5_1).toNat * 8)).off + 2, none⟩ = some (.string ((rd_T30 l0 x5_1).f2)) ∧ w'.cell? ⟨(ad272.add ((x5_1).toNat * 8)).block, (ad272.add ((x5_1).toNat * 8)).off + 3, none⟩ = some (.int .i64 ((rd_T30 l0 x5_1).f3.f0)) ∧ w'.cell? ⟨(ad272.add ((x5_1).toNat * 8)).block, (ad272.add ((x5_1).toNat * 8)).off + 4, none⟩ = some (.int .i64 ((rd_T30 l0 x5_1).f3.f1)) ∧ w'.cell? ⟨(ad272.add ((x5_1).toNat * 8)).block, (ad272.add ((x5_1).toNat * 8)).off + 5, none⟩ = some (.int .i64 ((rd_T30 l0 x5_1).f4)) ∧ w'.cell? ⟨(ad272.add ((x5_1).toNat * 8)).block, (ad272.add ((x5_1).toNat * 8)).off + 6, none⟩ = some (.int .i64 ((rd_T30 l0 x5_1).f5)) ∧ w'.cell? ⟨(ad272.add ((x5_1).toNat * 8)).block, (ad272.add ((x5_1).toNat * 8)).off + 7, none⟩ = some (.int .i64 ((rd_T30 l0 x5_1).f6))) (ds := []) mk11_0 (by kernel_rfl) rfl rfl ⟨(bc HB.out hw275_0), (bc HB.out hw275_1), (bc HB.out hw275_2), (bc HB.out hw275_3), (bc HB.out hw275_4), (bc HB.out hw275_5), (bc HB.out hw275_6), (bc HB.out hw275_7)⟩ (fun hHeld => ?_); refine with_tabW laws_heldDeviceS.tab10 laws_heldDeviceS.bits10 (fun HT_ HW_ => ?_)
         generalize w36.drew = w37 at HB hx275_0 hx275_1 hx275_2 hx275_3 hx275_4 hx275_5 hx275_6 hx275_7 hHeld ⊢
         refine pure_ (i := 0) (N := some 31) (v := ?_) (a' := ?_) mk11_1 rfl rfl (any_of HT_.out (by kernel_rfl)) (fun _ _ _ h => h) (Or.inl ⟨by rfl, ?_⟩) ?_ ?_
         rotate_left
         ·intro w'
          go_simp
          first | (with_reducible rfl) | rfl
         rotate_left
         ·simp only [Act.put, List.setIfInBounds_toArray, List.set_cons_zero, List.set_cons_succ, i64_w, i32_w]
          rfl
         refine pure_ (i := 1) (N := some 32) (v := ?_) (a' := ?_) mk11_2 rfl rfl (any_of HT_.out (by kernel_rfl)) (fun _ _ _ h => h) (Or.inl ⟨by rfl, ?_⟩) ?_ ?_
         rotate_left
         ·intro w'
          go_simp
          first | (with_reducible rfl) | rfl
         rotate_left
         ·simp only [Act.put, List.setIfInBounds_toArray, List.set_cons_zero, List.set_cons_succ, i64_w, i32_w]
          rfl
         refine pure_ (i := 2) (N := some 33) (v := ?_) (a' := ?_) mk11_3 rfl rfl (any_of HT_.out (by kernel_rfl)) (fun _ _ _ h => h) (Or.inl ⟨by rfl, ?_⟩) ?_ ?_
         rotate_left
         ·intro w'
          go_simp
          first | (with_reducible rfl) | rfl
         rotate_left
         ·simp only [Act.put, List.setIfInBounds_toArray, List.set_cons_zero, List.set_cons_succ, i64_w, i32_w]
          rfl
         refine pure_ (i := 3) (N := some 34) (v := ?_) (a' := ?_) mk11_4 rfl rfl (any_of HT_.out (by kernel_rfl)) (fun _ _ _ h => h) (Or.inl ⟨by rfl, ?_⟩) ?_ ?_
         rotate_left
         ·intro w'
          go_simp
          first | (with_reducible rfl) | rfl
         rotate_left
         ·simp only [Act.put, List.setIfInBounds_toArray, List.set_cons_zero, List.set_cons_succ, i64_w, i32_w]
          rfl
         refine pure_ (i := 5) (N := some 36) (v := ?_) (a' := ?_) mk11_5 rfl rfl (any_of HT_.out (by kernel_rfl)) (fun _ _ _ h => h) (Or.inl ⟨by rfl, ?_⟩) ?_ ?_
         rotate_left
         ·intro w'
          go_simp
          first | (with_reducible rfl) | rfl
         rotate_left
         ·simp only [Act.put, List.setIfInBounds_toArray, List.set_cons_zero, List.set_cons_succ, i64_w, i32_w]
          rfl
         refine take_ (i := 4) (N := some 35) (v := ?_) (a' := ?_) mk11_6 rfl rfl (take_ofW HT_.out HW_.out (by kernel_rfl)) (fun _ _ _ h => h) (Or.inl ⟨by rfl, ?_⟩) hHeld ?_ ?_
         rotate_left
         ·rintro w' ⟨s0, s1, s2, s3, s4, s5, s6, s7⟩
          go_simp
          first | (with_reducible rfl) | rfl
         rotate_left
         ·simp only [Act.put, List.setIfInBounds_toArray, List.set_cons_zero, List.set_cons_succ, i64_w, i32_w]
          rfl
         refine one_ (i := 6) (N := some 37) mk11_7 rfl rfl (one_of HT_.out (by kernel_rfl)) (by decide) (fun K hK => ?_)
         refine goes_ Try.func68 (by kernel_rfl) rfl #[.int .i64 (wrap64 ((wrap64 (x1_1 + 1)) + 1))] (by rfl) rfl rfl u11_1 ?_
         with_reducible refine (laws_markText.calls k1 (wrap64 ((wrap64 (x1_1 + 1)) + 1)) t276 _ A8.out).mono ?_
         rintro e w38 ⟨rfl, hb⟩
         refine ⟨_, rfl, ?_⟩
         have n0_ := Aside0.mk (below_step u11_0 hb)
         clear HB
         have HB := n0_
         clear n0_
         (try clear hb)
         (try clear hb2)
         (try clear hk)
         (try clear hi)
         refine hK.out _ _ ⟨(bc HB.out hw275_0), (bc HB.out hw275_1), (bc HB.out hw275_2), (bc HB.out hw275_3), (bc HB.out hw275_4), (bc HB.out hw275_5), (bc HB.out hw275_6), (bc HB.out hw275_7)⟩ (fun hHeld => ?_)
         clear hK K
         refine norm_ (a' := ?_) ?_ ?_
         rotate_left
         ·show Act.put _ (some 37) _ = _
          simp only [Act.put, List.setIfInBounds_toArray, List.set_cons_zero, List.set_cons_succ, i64_w, i32_w]
          rfl
         refine pure_ (i := 7) (N := some 38) (v := ?_) (a' := ?_) mk11_8 rfl rfl (any_of HT_.out (by kernel_rfl)) (fun _ _ _ h => h) (Or.inl ⟨by rfl, ?_⟩) ?_ ?_
         rotate_left
         ·intro w'
          go_simp
          first | (with_reducible rfl) | rfl
         rotate_left
         ·simp only [Act.put, List.setIfInBounds_toArray, List.set_cons_zero, List.set_cons_succ, i64_w, i32_w]
          rfl
         refine done_ (done_of HT_.out (by kernel_rfl)) ?_
         have p277 : 0 ≤ (x5_1 : Int) := of_decide_eq_true u11_2
         have q277 : x5_1 < (l0.length : Int) := of_decide_eq_true u11_2
         obtain ⟨ad277, e277, hx277_0, hx277_1, hx277_2, hx277_3, hx277_4, hx277_5, hx277_6, hx277_7⟩ := at_T30 HR0.out x5_1 p277 q277
         obtain rfl : ad272 = ad277 := (by injection e277)
         replace hx277_0 := bc HB.out hx277_0
         replace hx277_1 := bc HB.out hx277_1
         replace hx277_2 := bc HB.out hx277_2
         replace hx277_3 := bc HB.out hx277_3
         replace hx277_4 := bc HB.out hx277_4
         replace hx277_5 := bc HB.out hx277_5
         replace hx277_6 := bc HB.out hx277_6
         replace hx277_7 := bc HB.out hx277_7
         replace p277 := eq_true p277
         replace q277 := eq_true q277
         try go_wp2
         go_ret
         exact ⟨by first | rfl | (simp [*] <;> rfl), by repeat (first | (with_reducible first | exact HB.out | apply below_alloc | apply pw_below_drewN | apply below_drew1) | exact HB.out)⟩
       ·rw [if_neg c9] at H
        have c9b0 : (((rd_T30 l0 x5_1).f2).toList == t276.toList) = false := beq_eq_false_iff_ne.mpr c9
        have c9b1 : (((rd_T30 l0 x5_1).f2).toList != t276.toList) = true := bne_iff_ne.mpr c9
        obtain rfl := Option.some.inj H
        try go_wp2
        have n0_ := Aside0.mk (below_drew1 HB.out)
        clear HB
        have HB := n0_
        clear n0_
        have p272 : 0 ≤ (x5_1 : Int) := of_decide_eq_true u11_2
        have q272 : x5_1 < (l0.length : Int) := of_decide_eq_true u11_2
        obtain ⟨ad272, e272, hx272_0, hx272_1, hx272_2, hx272_3, hx272_4, hx272_5, hx272_6, hx272_7⟩ := at_T30 HR0.out x5_1 p272 q272
        have hw272_7 := hx272_7
        have hw272_6 := hx272_6
        have hw272_5 := hx272_5
        have hw272_4 := hx272_4
        have hw272_3 := hx272_3
        have hw272_2 := hx272_2
        have hw272_1 := hx272_1
        have hw272_0 := hx272_0
        cases e272
        replace hx272_0 := bc HB.out hx272_0
        replace hx272_1 := bc HB.out hx272_1
        replace hx272_2 := bc HB.out hx272_2
        replace hx272_3 := bc HB.out hx272_3
        replace hx272_4 := bc HB.out hx272_4
        replace hx272_5 := bc HB.out hx272_5
        replace hx272_6 := bc HB.out hx272_6
        replace hx272_7 := bc HB.out hx272_7
        replace p272 := eq_true p272
        replace q272 := eq_true q272
        refine start_ (n := 8) (S := fun w' => w'.cell? (ad272.add ((x5_1).toNat * 8)) = some (.string ((rd_T30 l0 x5_1).f0)) ∧ w'.cell? ⟨(ad272.add ((x5_1).toNat * 8)).block, (ad272.add ((x5_1).toNat * 8)).off + 1, none⟩ = some (.int .i64 ((rd_T30 l0 x5_1).f1)) ∧ w'.cell? ⟨(ad272.add ((x5_1).toNat * 8)).block, (ad272.add ((x5_1).toNat * 8)).off + 2, none⟩ = some (.string ((rd_T30 l0 x5_1).f2)) ∧ w'.cell? ⟨(ad272.add ((x5_1).toNat * 8)).block, (ad272.add ((x5_1).toNat * 8)).off + 3, none⟩ = some (.int .i64 ((rd_T30 l0 x5_1).f3.f0)) ∧ w'.cell? ⟨(ad272.add ((x5_1).toNat * 8)).block, (ad272.add ((x5_1).toNat * 8)).off + 4, none⟩ = some (.int .i64 ((rd_T30 l0 x5_1).f3.f1)) ∧ w'.cell? ⟨(ad272.add ((x5_1).toNat * 8)).block, (ad272.add ((x5_1).toNat * 8)).off + 5, none⟩ = some (.int .i64 ((rd_T30 l0 x5_1).f4)) ∧ w'.cell? ⟨(ad272.add ((x5_1).toNat * 8)).block, (ad272.add ((x5_1).toNat * 8)).off + 6, none⟩ = some (.int .i64 ((rd_T30 l0 x5_1).f5)) ∧ w'.cell? ⟨(ad272.add ((x5_1).toNat * 8)).block, (ad272.add ((x5_1).toNat * 8)).off + 7, none⟩ = some (.int .i64 ((rd_T30 l0 x5_1).f6))) (ds := []) mk11_0 (by kernel_rfl) rfl rfl ⟨(bc HB.out hw272_0), (bc HB.out hw272_1), (bc HB.out hw272_2), (bc HB.out hw272_3), (bc HB.out hw272_4), (bc HB.out hw272_5), (bc HB.out hw272_6), (bc HB.out hw272_7)⟩ (fun hHeld => ?_); refine with_tabW laws_heldDeviceS.tab4 laws_heldDeviceS.bits4 (fun HT_ HW_ => ?_)
        generalize wr.drew = w39 at HB hx272_0 hx272_1 hx272_2 hx272_3 hx272_4 hx272_5 hx272_6 hx272_7 hHeld ⊢
        refine pure_ (i := 0) (N := some 12) (v := ?_) (a' := ?_) mk11_1 rfl rfl (any_of HT_.out (by kernel_rfl)) (fun _ _ _ h => h) (Or.inl ⟨by rfl, ?_⟩) ?_ ?_
        rotate_left
        ·intro w'
         go_simp
         first | (with_reducible rfl) | rfl
        rotate_left
        ·simp only [Act.put, List.setIfInBounds_toArray, List.set_cons_zero, List.set_cons_succ, i64_w, i32_w]
         rfl
        refine pure_ (i := 1) (N := some 13) (v := ?_) (a' := ?_) mk11_2 rfl rfl (any_of HT_.out (by kernel_rfl)) (fun _ _ _ h => h) (Or.inl ⟨by rfl, ?_⟩) ?_ ?_
        rotate_left
        ·intro w'
         go_simp
         first | (with_reducible rfl) | rfl
        rotate_left
        ·simp only [Act.put, List.setIfInBounds_toArray, List.set_cons_zero, List.set_cons_succ, i64_w, i32_w]
         rfl
        refine pure_ (i := 2) (N := some 14) (v := ?_) (a' := ?_) mk11_3 rfl rfl (any_of HT_.out (by kernel_rfl)) (fun _ _ _ h => h) (Or.inl ⟨by rfl, ?_⟩) ?_ ?_
        rotate_left
        ·intro w'
         go_simp
         first | (with_reducible rfl) | rfl
        rotate_left
        ·simp only [Act.put, List.setIfInBounds_toArray, List.set_cons_zero, List.set_cons_succ, i64_w, i32_w]
         rfl
        refine pure_ (i := 3) (N := some 15) (v := ?_) (a' := ?_) mk11_4 rfl rfl (any_of HT_.out (by kernel_rfl)) (fun _ _ _ h => h) (Or.inl ⟨by rfl, ?_⟩) ?_ ?_
        rotate_left
        ·intro w'
         go_simp
         first | (with_reducible rfl) | rfl
        rotate_left
        ·simp only [Act.put, List.setIfInBounds_toArray, List.set_cons_zero, List.set_cons_succ, i64_w, i32_w]
         rfl
        refine pure_ (i := 5) (N := some 17) (v := ?_) (a' := ?_) mk11_5 rfl rfl (any_of HT_.out (by kernel_rfl)) (fun _ _ _ h => h) (Or.inl ⟨by rfl, ?_⟩) ?_ ?_
        rotate_left
        ·intro w'
         go_simp
         first | (with_reducible rfl) | rfl
        rotate_left
        ·simp only [Act.put, List.setIfInBounds_toArray, List.set_cons_zero, List.set_cons_succ, i64_w, i32_w]
         rfl
        refine take_ (i := 4) (N := some 16) (v := ?_) (a' := ?_) mk11_6 rfl rfl (take_ofW HT_.out HW_.out (by kernel_rfl)) (fun _ _ _ h => h) (Or.inl ⟨by rfl, ?_⟩) hHeld ?_ ?_
        rotate_left
        ·rintro w' ⟨s0, s1, s2, s3, s4, s5, s6, s7⟩
         go_simp
         first | (with_reducible rfl) | rfl
        rotate_left
        ·simp only [Act.put, List.setIfInBounds_toArray, List.set_cons_zero, List.set_cons_succ, i64_w, i32_w]
         rfl
        refine one_ (i := 6) (N := some 18) mk11_7 rfl rfl (one_of HT_.out (by kernel_rfl)) (by decide) (fun K hK => ?_)
        refine goes_ Try.func68 (by kernel_rfl) rfl #[.int .i64 x1_1] (by rfl) rfl rfl u11_1 ?_
        with_reducible refine (laws_markText.calls k1 x1_1 t273 _ A5.out).mono ?_
        rintro e w40 ⟨rfl, hb⟩
        refine ⟨_, rfl, ?_⟩
        have n0_ := Aside0.mk (below_step u11_0 hb)
        clear HB
        have HB := n0_
        clear n0_
        (try clear hb)
        (try clear hb2)
        (try clear hk)
        (try clear hi)
        refine hK.out _ _ ⟨(bc HB.out hw272_0), (bc HB.out hw272_1), (bc HB.out hw272_2), (bc HB.out hw272_3), (bc HB.out hw272_4), (bc HB.out hw272_5), (bc HB.out hw272_6), (bc HB.out hw272_7)⟩ (fun hHeld => ?_)
        clear hK K
        refine norm_ (a' := ?_) ?_ ?_
        rotate_left
        ·show Act.put _ (some 18) _ = _
         simp only [Act.put, List.setIfInBounds_toArray, List.set_cons_zero, List.set_cons_succ, i64_w, i32_w]
         rfl
        refine pure_ (i := 7) (N := some 19) (v := ?_) (a' := ?_) mk11_8 rfl rfl (any_of HT_.out (by kernel_rfl)) (fun _ _ _ h => h) (Or.inl ⟨by rfl, ?_⟩) ?_ ?_
        rotate_left
        ·intro w'
         go_simp
         first | (with_reducible rfl) | rfl
        rotate_left
        ·simp only [Act.put, List.setIfInBounds_toArray, List.set_cons_zero, List.set_cons_succ, i64_w, i32_w]
         rfl
        refine done_ (done_of HT_.out (by kernel_rfl)) ?_
        have p274 : 0 ≤ (x5_1 : Int) := of_decide_eq_true u11_2
        have q274 : x5_1 < (l0.length : Int) := of_decide_eq_true u11_2
        obtain ⟨ad274, e274, hx274_0, hx274_1, hx274_2, hx274_3, hx274_4, hx274_5, hx274_6, hx274_7⟩ := at_T30 HR0.out x5_1 p274 q274
        obtain rfl : ad272 = ad274 := (by injection e274)
        replace hx274_0 := bc HB.out hx274_0
        replace hx274_1 := bc HB.out hx274_1
        replace hx274_2 := bc HB.out hx274_2
        replace hx274_3 := bc HB.out hx274_3
        replace hx274_4 := bc HB.out hx274_4
        replace hx274_5 := bc HB.out hx274_5
        replace hx274_6 := bc HB.out hx274_6
        replace hx274_7 := bc HB.out hx274_7
        replace p274 := eq_true p274
        replace q274 := eq_true q274
        try go_wp2
        have n0_ := Aside0.mk (below_drew1 HB.out)
        clear HB
        have HB := n0_
        clear n0_
        have p275 : 0 ≤ (x5_1 : Int) := of_decide_eq_true u11_2
        have q275 : x5_1 < (l0.length : Int) := of_decide_eq_true u11_2
        obtain ⟨ad275, e275, hx275_0, hx275_1, hx275_2, hx275_3, hx275_4, hx275_5, hx275_6, hx275_7⟩ := at_T30 HR0.out x5_1 p275 q275
        have hw275_7 := hx275_7
        have hw275_6 := hx275_6
        have hw275_5 := hx275_5
        have hw275_4 := hx275_4
        have hw275_3 := hx275_3
        have hw275_2 := hx275_2
        have hw275_1 := hx275_1
        have hw275_0 := hx275_0
        obtain rfl : ad272 = ad275 := (by injection e275)
        replace hx275_0 := bc HB.out hx275_0
        replace hx275_1 := bc HB.out hx275_1
        replace hx275_2 := bc HB.out hx275_2
        replace hx275_3 := bc HB.out hx275_3
        replace hx275_4 := bc HB.out hx275_4
        replace hx275_5 := bc HB.out hx275_5
        replace hx275_6 := bc HB.out hx275_6
        replace hx275_7 := bc HB.out hx275_7
        replace p275 := eq_true p275
        replace q275 := eq_true q275
        refine start_ (n := 8) (S := fun w' => w'.cell? (ad272.add ((x5_1).toNat * 8)) = some (.string ((rd_T30 l0 x5_1).f0)) ∧ w'.cell? ⟨(ad272.add ((x5_1).toNat * 8)).block, (ad272.add ((x5_1).toNat * 8)).off + 1, none⟩ = some (.int .i64 ((rd_T30 l0 x5_1).f1)) ∧ w'.cell? ⟨(ad272.add ((x5_1).toNat * 8)).block, (ad272.add ((x5_1).toNat * 8)).off + 2, none⟩ = some (.string ((rd_T30 l0 x5_1).f2)) ∧ w'.cell? ⟨(ad272.add ((x5_1).toNat * 8)).block, (ad272.add ((x5_1).toNat * 8)).off + 3, none⟩ = some (.int .i64 ((rd_T30 l0 x5_1).f3.f0)) ∧ w'.cell? ⟨(ad272.add ((x5_1).toNat * 8)).block, (ad272.add ((x5_1).toNat * 8)).off + 4, none⟩ = some (.int .i64 ((rd_T30 l0 x5_1).f3.f1)) ∧ w'.cell? ⟨(ad272.add ((x5_1).toNat * 8)).block, (ad272.add ((x5_1).toNat * 8)).off + 5, none⟩ = some (.int .i64 ((rd_T30 l0 x5_1).f4)) ∧ w'.cell? ⟨(ad272.add ((x5_1).toNat * 8)).block, (ad272.add ((x5_1).toNat * 8)).off + 6, none⟩ = some (.int .i64 ((rd_T30 l0 x5_1).f5)) ∧ w'.cell? ⟨(ad272.add ((x5_1).toNat * 8)).block, (ad272.add ((x5_1).toNat * 8)).off + 7, none⟩ = some (.int .i64 ((rd_T30 l0 x5_1).f6))) (ds := []) mk11_0 (by kernel_rfl) rfl rfl ⟨(bc HB.out hw275_0), (bc HB.out hw275_1), (bc HB.out hw275_2), (bc HB.out hw275_3), (bc HB.out hw275_4), (bc HB.out hw275_5), (bc HB.out hw275_6), (bc HB.out hw275_7)⟩ (fun hHeld => ?_); refine with_tabW laws_heldDeviceS.tab10 laws_heldDeviceS.bits10 (fun HT_ HW_ => ?_)
        generalize w40.drew = w41 at HB hx275_0 hx275_1 hx275_2 hx275_3 hx275_4 hx275_5 hx275_6 hx275_7 hHeld ⊢
        refine pure_ (i := 0) (N := some 31) (v := ?_) (a' := ?_) mk11_1 rfl rfl (any_of HT_.out (by kernel_rfl)) (fun _ _ _ h => h) (Or.inl ⟨by rfl, ?_⟩) ?_ ?_
        rotate_left
        ·intro w'
         go_simp
         first | (with_reducible rfl) | rfl
        rotate_left
        ·simp only [Act.put, List.setIfInBounds_toArray, List.set_cons_zero, List.set_cons_succ, i64_w, i32_w]
         rfl
        refine pure_ (i := 1) (N := some 32) (v := ?_) (a' := ?_) mk11_2 rfl rfl (any_of HT_.out (by kernel_rfl)) (fun _ _ _ h => h) (Or.inl ⟨by rfl, ?_⟩) ?_ ?_
        rotate_left
        ·intro w'
         go_simp
         first | (with_reducible rfl) | rfl
        rotate_left
        ·simp only [Act.put, List.setIfInBounds_toArray, List.set_cons_zero, List.set_cons_succ, i64_w, i32_w]
         rfl
        refine pure_ (i := 2) (N := some 33) (v := ?_) (a' := ?_) mk11_3 rfl rfl (any_of HT_.out (by kernel_rfl)) (fun _ _ _ h => h) (Or.inl ⟨by rfl, ?_⟩) ?_ ?_
        rotate_left
        ·intro w'
         go_simp
         first | (with_reducible rfl) | rfl
        rotate_left
        ·simp only [Act.put, List.setIfInBounds_toArray, List.set_cons_zero, List.set_cons_succ, i64_w, i32_w]
         rfl
        refine pure_ (i := 3) (N := some 34) (v := ?_) (a' := ?_) mk11_4 rfl rfl (any_of HT_.out (by kernel_rfl)) (fun _ _ _ h => h) (Or.inl ⟨by rfl, ?_⟩) ?_ ?_
        rotate_left
        ·intro w'
         go_simp
         first | (with_reducible rfl) | rfl
        rotate_left
        ·simp only [Act.put, List.setIfInBounds_toArray, List.set_cons_zero, List.set_cons_succ, i64_w, i32_w]
         rfl
        refine pure_ (i := 5) (N := some 36) (v := ?_) (a' := ?_) mk11_5 rfl rfl (any_of HT_.out (by kernel_rfl)) (fun _ _ _ h => h) (Or.inl ⟨by rfl, ?_⟩) ?_ ?_
        rotate_left
        ·intro w'
         go_simp
         first | (with_reducible rfl) | rfl
        rotate_left
        ·simp only [Act.put, List.setIfInBounds_toArray, List.set_cons_zero, List.set_cons_succ, i64_w, i32_w]
         rfl
        refine take_ (i := 4) (N := some 35) (v := ?_) (a' := ?_) mk11_6 rfl rfl (take_ofW HT_.out HW_.out (by kernel_rfl)) (fun _ _ _ h => h) (Or.inl ⟨by rfl, ?_⟩) hHeld ?_ ?_
        rotate_left
        ·rintro w' ⟨s0, s1, s2, s3, s4, s5, s6, s7⟩
         go_simp
         first | (with_reducible rfl) | rfl
        rotate_left
        ·simp only [Act.put, List.setIfInBounds_toArray, List.set_cons_zero, List.set_cons_succ, i64_w, i32_w]
         rfl
        refine one_ (i := 6) (N := some 37) mk11_7 rfl rfl (one_of HT_.out (by kernel_rfl)) (by decide) (fun K hK => ?_)
        refine goes_ Try.func68 (by kernel_rfl) rfl #[.int .i64 (wrap64 ((wrap64 (x1_1 + 1)) + 1))] (by rfl) rfl rfl u11_1 ?_
        with_reducible refine (laws_markText.calls k1 (wrap64 ((wrap64 (x1_1 + 1)) + 1)) t276 _ A8.out).mono ?_
        rintro e w42 ⟨rfl, hb⟩
        refine ⟨_, rfl, ?_⟩
        have n0_ := Aside0.mk (below_step u11_0 hb)
        clear HB
        have HB := n0_
        clear n0_
        (try clear hb)
        (try clear hb2)
        (try clear hk)
        (try clear hi)
        refine hK.out _ _ ⟨(bc HB.out hw275_0), (bc HB.out hw275_1), (bc HB.out hw275_2), (bc HB.out hw275_3), (bc HB.out hw275_4), (bc HB.out hw275_5), (bc HB.out hw275_6), (bc HB.out hw275_7)⟩ (fun hHeld => ?_)
        clear hK K
        refine norm_ (a' := ?_) ?_ ?_
        rotate_left
        ·show Act.put _ (some 37) _ = _
         simp only [Act.put, List.setIfInBounds_toArray, List.set_cons_zero, List.set_cons_succ, i64_w, i32_w]
         rfl
        refine pure_ (i := 7) (N := some 38) (v := ?_) (a' := ?_) mk11_8 rfl rfl (any_of HT_.out (by kernel_rfl)) (fun _ _ _ h => h) (Or.inl ⟨by rfl, ?_⟩) ?_ ?_
        rotate_left
        ·intro w'
         go_simp
         first | (with_reducible rfl) | rfl
        rotate_left
        ·simp only [Act.put, List.setIfInBounds_toArray, List.set_cons_zero, List.set_cons_succ, i64_w, i32_w]
         rfl
        refine done_ (done_of HT_.out (by kernel_rfl)) ?_
        try go_wp2
        go_ret
        exact ⟨by first | rfl | (simp [*] <;> rfl), by repeat (first | (with_reducible first | exact HB.out | apply below_alloc | apply pw_below_drewN | apply below_drew1) | exact HB.out)⟩
      ·rw [if_neg c7] at H
       have c7b0 : (((rd_T30 l0 x5_1).f1) == (wrap64 (x1_1 + 1))) = false := beq_eq_false_iff_ne.mpr c7
       have c7b1 : (((rd_T30 l0 x5_1).f1) != (wrap64 (x1_1 + 1))) = true := bne_iff_ne.mpr c7
       obtain rfl := Option.some.inj H
       try go_wp2
       have n0_ := Aside0.mk (below_drew1 HB.out)
       clear HB
       have HB := n0_
       clear n0_
       have p272 : 0 ≤ (x5_1 : Int) := of_decide_eq_true u11_2
       have q272 : x5_1 < (l0.length : Int) := of_decide_eq_true u11_2
       obtain ⟨ad272, e272, hx272_0, hx272_1, hx272_2, hx272_3, hx272_4, hx272_5, hx272_6, hx272_7⟩ := at_T30 HR0.out x5_1 p272 q272
       have hw272_7 := hx272_7
       have hw272_6 := hx272_6
       have hw272_5 := hx272_5
       have hw272_4 := hx272_4
       have hw272_3 := hx272_3
       have hw272_2 := hx272_2
       have hw272_1 := hx272_1
       have hw272_0 := hx272_0
       cases e272
       replace hx272_0 := bc HB.out hx272_0
       replace hx272_1 := bc HB.out hx272_1
       replace hx272_2 := bc HB.out hx272_2
       replace hx272_3 := bc HB.out hx272_3
       replace hx272_4 := bc HB.out hx272_4
       replace hx272_5 := bc HB.out hx272_5
       replace hx272_6 := bc HB.out hx272_6
       replace hx272_7 := bc HB.out hx272_7
       replace p272 := eq_true p272
       replace q272 := eq_true q272
       refine start_ (n := 8) (S := fun w' => w'.cell? (ad272.add ((x5_1).toNat * 8)) = some (.string ((rd_T30 l0 x5_1).f0)) ∧ w'.cell? ⟨(ad272.add ((x5_1).toNat * 8)).block, (ad272.add ((x5_1).toNat * 8)).off + 1, none⟩ = some (.int .i64 ((rd_T30 l0 x5_1).f1)) ∧ w'.cell? ⟨(ad272.add ((x5_1).toNat * 8)).block, (ad272.add ((x5_1).toNat * 8)).off + 2, none⟩ = some (.string ((rd_T30 l0 x5_1).f2)) ∧ w'.cell? ⟨(ad272.add ((x5_1).toNat * 8)).block, (ad272.add ((x5_1).toNat * 8)).off + 3, none⟩ = some (.int .i64 ((rd_T30 l0 x5_1).f3.f0)) ∧ w'.cell? ⟨(ad272.add ((x5_1).toNat * 8)).block, (ad272.add ((x5_1).toNat * 8)).off + 4, none⟩ = some (.int .i64 ((rd_T30 l0 x5_1).f3.f1)) ∧ w'.cell? ⟨(ad272.add ((x5_1).toNat * 8)).block, (ad272.add ((x5_1).toNat * 8)).off + 5, none⟩ = some (.int .i64 ((rd_T30 l0 x5_1).f4)) ∧ w'.cell? ⟨(ad272.add ((x5_1).toNat * 8)).block, (ad272.add ((x5_1).toNat * 8)).off + 6, none⟩ = some (.int .i64 ((rd_T30 l0 x5_1).f5)) ∧ w'.cell? ⟨(ad272.add ((x5_1).toNat * 8)).block, (ad272.add ((x5_1).toNat * 8)).off + 7, none⟩ = some (.int .i64 ((rd_T30 l0 x5_1).f6))) (ds := []) mk11_0 (by kernel_rfl) rfl rfl ⟨(bc HB.out hw272_0), (bc HB.out hw272_1), (bc HB.out hw272_2), (bc HB.out hw272_3), (bc HB.out hw272_4), (bc HB.out hw272_5), (bc HB.out hw272_6), (bc HB.out hw272_7)⟩ (fun hHeld => ?_); refine with_tabW laws_heldDeviceS.tab4 laws_heldDeviceS.bits4 (fun HT_ HW_ => ?_)
       generalize wr.drew = w43 at HB hx272_0 hx272_1 hx272_2 hx272_3 hx272_4 hx272_5 hx272_6 hx272_7 hHeld ⊢
       refine pure_ (i := 0) (N := some 12) (v := ?_) (a' := ?_) mk11_1 rfl rfl (any_of HT_.out (by kernel_rfl)) (fun _ _ _ h => h) (Or.inl ⟨by rfl, ?_⟩) ?_ ?_
       rotate_left
       ·intro w'
        go_simp
        first | (with_reducible rfl) | rfl
       rotate_left
       ·simp only [Act.put, List.setIfInBounds_toArray, List.set_cons_zero, List.set_cons_succ, i64_w, i32_w]
        rfl
       refine pure_ (i := 1) (N := some 13) (v := ?_) (a' := ?_) mk11_2 rfl rfl (any_of HT_.out (by kernel_rfl)) (fun _ _ _ h => h) (Or.inl ⟨by rfl, ?_⟩) ?_ ?_
       rotate_left
       ·intro w'
        go_simp
        first | (with_reducible rfl) | rfl
       rotate_left
       ·simp only [Act.put, List.setIfInBounds_toArray, List.set_cons_zero, List.set_cons_succ, i64_w, i32_w]
        rfl
       refine pure_ (i := 2) (N := some 14) (v := ?_) (a' := ?_) mk11_3 rfl rfl (any_of HT_.out (by kernel_rfl)) (fun _ _ _ h => h) (Or.inl ⟨by rfl, ?_⟩) ?_ ?_
       rotate_left
       ·intro w'
        go_simp
        first | (with_reducible rfl) | rfl
       rotate_left
       ·simp only [Act.put, List.setIfInBounds_toArray, List.set_cons_zero, List.set_cons_succ, i64_w, i32_w]
        rfl
       refine pure_ (i := 3) (N := some 15) (v := ?_) (a' := ?_) mk11_4 rfl rfl (any_of HT_.out (by kernel_rfl)) (fun _ _ _ h => h) (Or.inl ⟨by rfl, ?_⟩) ?_ ?_
       rotate_left
       ·intro w'
        go_simp
        first | (with_reducible rfl) | rfl
       rotate_left
       ·simp only [Act.put, List.setIfInBounds_toArray, List.set_cons_zero, List.set_cons_succ, i64_w, i32_w]
        rfl
       refine pure_ (i := 5) (N := some 17) (v := ?_) (a' := ?_) mk11_5 rfl rfl (any_of HT_.out (by kernel_rfl)) (fun _ _ _ h => h) (Or.inl ⟨by rfl, ?_⟩) ?_ ?_
       rotate_left
       ·intro w'
        go_simp
        first | (with_reducible rfl) | rfl
       rotate_left
       ·simp only [Act.put, List.setIfInBounds_toArray, List.set_cons_zero, List.set_cons_succ, i64_w, i32_w]
        rfl
       refine take_ (i := 4) (N := some 16) (v := ?_) (a' := ?_) mk11_6 rfl rfl (take_ofW HT_.out HW_.out (by kernel_rfl)) (fun _ _ _ h => h) (Or.inl ⟨by rfl, ?_⟩) hHeld ?_ ?_
       rotate_left
       ·rintro w' ⟨s0, s1, s2, s3, s4, s5, s6, s7⟩
        go_simp
        first | (with_reducible rfl) | rfl
       rotate_left
       ·simp only [Act.put, List.setIfInBounds_toArray, List.set_cons_zero, List.set_cons_succ, i64_w, i32_w]
        rfl
       refine one_ (i := 6) (N := some 18) mk11_7 rfl rfl (one_of HT_.out (by kernel_rfl)) (by decide) (fun K hK => ?_)
       refine goes_ Try.func68 (by kernel_rfl) rfl #[.int .i64 x1_1] (by rfl) rfl rfl u11_1 ?_
       with_reducible refine (laws_markText.calls k1 x1_1 t273 _ A5.out).mono ?_
       rintro e w44 ⟨rfl, hb⟩
       refine ⟨_, rfl, ?_⟩
       have n0_ := Aside0.mk (below_step u11_0 hb)
       clear HB
       have HB := n0_
       clear n0_
       (try clear hb)
       (try clear hb2)
       (try clear hk)
       (try clear hi)
       refine hK.out _ _ ⟨(bc HB.out hw272_0), (bc HB.out hw272_1), (bc HB.out hw272_2), (bc HB.out hw272_3), (bc HB.out hw272_4), (bc HB.out hw272_5), (bc HB.out hw272_6), (bc HB.out hw272_7)⟩ (fun hHeld => ?_)
       clear hK K
       refine norm_ (a' := ?_) ?_ ?_
       rotate_left
       ·show Act.put _ (some 18) _ = _
        simp only [Act.put, List.setIfInBounds_toArray, List.set_cons_zero, List.set_cons_succ, i64_w, i32_w]
        rfl
       refine pure_ (i := 7) (N := some 19) (v := ?_) (a' := ?_) mk11_8 rfl rfl (any_of HT_.out (by kernel_rfl)) (fun _ _ _ h => h) (Or.inl ⟨by rfl, ?_⟩) ?_ ?_
       rotate_left
       ·intro w'
        go_simp
        first | (with_reducible rfl) | rfl
       rotate_left
       ·simp only [Act.put, List.setIfInBounds_toArray, List.set_cons_zero, List.set_cons_succ, i64_w, i32_w]
        rfl
       refine done_ (done_of HT_.out (by kernel_rfl)) ?_
       have p274 : 0 ≤ (x5_1 : Int) := of_decide_eq_true u11_2
       have q274 : x5_1 < (l0.length : Int) := of_decide_eq_true u11_2
       obtain ⟨ad274, e274, hx274_0, hx274_1, hx274_2, hx274_3, hx274_4, hx274_5, hx274_6, hx274_7⟩ := at_T30 HR0.out x5_1 p274 q274
       obtain rfl : ad272 = ad274 := (by injection e274)
       replace hx274_0 := bc HB.out hx274_0
       replace hx274_1 := bc HB.out hx274_1
       replace hx274_2 := bc HB.out hx274_2
       replace hx274_3 := bc HB.out hx274_3
       replace hx274_4 := bc HB.out hx274_4
       replace hx274_5 := bc HB.out hx274_5
       replace hx274_6 := bc HB.out hx274_6
       replace hx274_7 := bc HB.out hx274_7
       replace p274 := eq_true p274
       replace q274 := eq_true q274
       try go_wp2
       go_ret
       exact ⟨by first | rfl | (simp [*] <;> rfl), by repeat (first | (with_reducible first | exact HB.out | apply below_alloc | apply pw_below_drewN | apply below_drew1) | exact HB.out)⟩
     ·rw [if_neg c6] at H
      have c6b0 : (((rd_T30 l0 x5_1).f0).toList == t273.toList) = false := beq_eq_false_iff_ne.mpr c6
      have c6b1 : (((rd_T30 l0 x5_1).f0).toList != t273.toList) = true := bne_iff_ne.mpr c6
      obtain rfl := Option.some.inj H
      try go_wp2
      have n0_ := Aside0.mk (below_drew1 HB.out)
      clear HB
      have HB := n0_
      clear n0_
      have p272 : 0 ≤ (x5_1 : Int) := of_decide_eq_true u11_2
      have q272 : x5_1 < (l0.length : Int) := of_decide_eq_true u11_2
      obtain ⟨ad272, e272, hx272_0, hx272_1, hx272_2, hx272_3, hx272_4, hx272_5, hx272_6, hx272_7⟩ := at_T30 HR0.out x5_1 p272 q272
      have hw272_7 := hx272_7
      have hw272_6 := hx272_6
      have hw272_5 := hx272_5
      have hw272_4 := hx272_4
      have hw272_3 := hx272_3
      have hw272_2 := hx272_2
      have hw272_1 := hx272_1
      have hw272_0 := hx272_0
      cases e272
      replace hx272_0 := bc HB.out hx272_0
      replace hx272_1 := bc HB.out hx272_1
      replace hx272_2 := bc HB.out hx272_2
      replace hx272_3 := bc HB.out hx272_3
      replace hx272_4 := bc HB.out hx272_4
      replace hx272_5 := bc HB.out hx272_5
      replace hx272_6 := bc HB.out hx272_6
      replace hx272_7 := bc HB.out hx272_7
      replace p272 := eq_true p272
      replace q272 := eq_true q272
      refine start_ (n := 8) (S := fun w' => w'.cell? (ad272.add ((x5_1).toNat * 8)) = some (.string ((rd_T30 l0 x5_1).f0)) ∧ w'.cell? ⟨(ad272.add ((x5_1).toNat * 8)).block, (ad272.add ((x5_1).toNat * 8)).off + 1, none⟩ = some (.int .i64 ((rd_T30 l0 x5_1).f1)) ∧ w'.cell? ⟨(ad272.add ((x5_1).toNat * 8)).block, (ad272.add ((x5_1).toNat * 8)).off + 2, none⟩ = some (.string ((rd_T30 l0 x5_1).f2)) ∧ w'.cell? ⟨(ad272.add ((x5_1).toNat * 8)).block, (ad272.add ((x5_1).toNat * 8)).off + 3, none⟩ = some (.int .i64 ((rd_T30 l0 x5_1).f3.f0)) ∧ w'.cell? ⟨(ad272.add ((x5_1).toNat * 8)).block, (ad272.add ((x5_1).toNat * 8)).off + 4, none⟩ = some (.int .i64 ((rd_T30 l0 x5_1).f3.f1)) ∧ w'.cell? ⟨(ad272.add ((x5_1).toNat * 8)).block, (ad272.add ((x5_1).toNat * 8)).off + 5, none⟩ = some (.int .i64 ((rd_T30 l0 x5_1).f4)) ∧ w'.cell? ⟨(ad272.add ((x5_1).toNat * 8)).block, (ad272.add ((x5_1).toNat * 8)).off + 6, none⟩ = some (.int .i64 ((rd_T30 l0 x5_1).f5)) ∧ w'.cell? ⟨(ad272.add ((x5_1).toNat * 8)).block, (ad272.add ((x5_1).toNat * 8)).off + 7, none⟩ = some (.int .i64 ((rd_T30 l0 x5_1).f6))) (ds := []) mk11_0 (by kernel_rfl) rfl rfl ⟨(bc HB.out hw272_0), (bc HB.out hw272_1), (bc HB.out hw272_2), (bc HB.out hw272_3), (bc HB.out hw272_4), (bc HB.out hw272_5), (bc HB.out hw272_6), (bc HB.out hw272_7)⟩ (fun hHeld => ?_); refine with_tabW laws_heldDeviceS.tab4 laws_heldDeviceS.bits4 (fun HT_ HW_ => ?_)
      generalize wr.drew = w45 at HB hx272_0 hx272_1 hx272_2 hx272_3 hx272_4 hx272_5 hx272_6 hx272_7 hHeld ⊢
      refine pure_ (i := 0) (N := some 12) (v := ?_) (a' := ?_) mk11_1 rfl rfl (any_of HT_.out (by kernel_rfl)) (fun _ _ _ h => h) (Or.inl ⟨by rfl, ?_⟩) ?_ ?_
      rotate_left
      ·intro w'
       go_simp
       first | (with_reducible rfl) | rfl
      rotate_left
      ·simp only [Act.put, List.setIfInBounds_toArray, List.set_cons_zero, List.set_cons_succ, i64_w, i32_w]
       rfl
      refine pure_ (i := 1) (N := some 13) (v := ?_) (a' := ?_) mk11_2 rfl rfl (any_of HT_.out (by kernel_rfl)) (fun _ _ _ h => h) (Or.inl ⟨by rfl, ?_⟩) ?_ ?_
      rotate_left
      ·intro w'
       go_simp
       first | (with_reducible rfl) | rfl
      rotate_left
      ·simp only [Act.put, List.setIfInBounds_toArray, List.set_cons_zero, List.set_cons_succ, i64_w, i32_w]
       rfl
      refine pure_ (i := 2) (N := some 14) (v := ?_) (a' := ?_) mk11_3 rfl rfl (any_of HT_.out (by kernel_rfl)) (fun _ _ _ h => h) (Or.inl ⟨by rfl, ?_⟩) ?_ ?_
      rotate_left
      ·intro w'
       go_simp
       first | (with_reducible rfl) | rfl
      rotate_left
      ·simp only [Act.put, List.setIfInBounds_toArray, List.set_cons_zero, List.set_cons_succ, i64_w, i32_w]
       rfl
      refine pure_ (i := 3) (N := some 15) (v := ?_) (a' := ?_) mk11_4 rfl rfl (any_of HT_.out (by kernel_rfl)) (fun _ _ _ h => h) (Or.inl ⟨by rfl, ?_⟩) ?_ ?_
      rotate_left
      ·intro w'
       go_simp
       first | (with_reducible rfl) | rfl
      rotate_left
      ·simp only [Act.put, List.setIfInBounds_toArray, List.set_cons_zero, List.set_cons_succ, i64_w, i32_w]
       rfl
      refine pure_ (i := 5) (N := some 17) (v := ?_) (a' := ?_) mk11_5 rfl rfl (any_of HT_.out (by kernel_rfl)) (fun _ _ _ h => h) (Or.inl ⟨by rfl, ?_⟩) ?_ ?_
      rotate_left
      ·intro w'
       go_simp
       first | (with_reducible rfl) | rfl
      rotate_left
      ·simp only [Act.put, List.setIfInBounds_toArray, List.set_cons_zero, List.set_cons_succ, i64_w, i32_w]
       rfl
      refine take_ (i := 4) (N := some 16) (v := ?_) (a' := ?_) mk11_6 rfl rfl (take_ofW HT_.out HW_.out (by kernel_rfl)) (fun _ _ _ h => h) (Or.inl ⟨by rfl, ?_⟩) hHeld ?_ ?_
      rotate_left
      ·rintro w' ⟨s0, s1, s2, s3, s4, s5, s6, s7⟩
       go_simp
       first | (with_reducible rfl) | rfl
      rotate_left
      ·simp only [Act.put, List.setIfInBounds_toArray, List.set_cons_zero, List.set_cons_succ, i64_w, i32_w]
       rfl
      refine one_ (i := 6) (N := some 18) mk11_7 rfl rfl (one_of HT_.out (by kernel_rfl)) (by decide) (fun K hK => ?_)
      refine goes_ Try.func68 (by kernel_rfl) rfl #[.int .i64 x1_1] (by rfl) rfl rfl u11_1 ?_
      with_reducible refine (laws_markText.calls k1 x1_1 t273 _ A5.out).mono ?_
      rintro e w46 ⟨rfl, hb⟩
      refine ⟨_, rfl, ?_⟩
      have n0_ := Aside0.mk (below_step u11_0 hb)
      clear HB
      have HB := n0_
      clear n0_
      (try clear hb)
      (try clear hb2)
      (try clear hk)
      (try clear hi)
      refine hK.out _ _ ⟨(bc HB.out hw272_0), (bc HB.out hw272_1), (bc HB.out hw272_2), (bc HB.out hw272_3), (bc HB.out hw272_4), (bc HB.out hw272_5), (bc HB.out hw272_6), (bc HB.out hw272_7)⟩ (fun hHeld => ?_)
      clear hK K
      refine norm_ (a' := ?_) ?_ ?_
      rotate_left
      ·show Act.put _ (some 18) _ = _
       simp only [Act.put, List.setIfInBounds_toArray, List.set_cons_zero, List.set_cons_succ, i64_w, i32_w]
       rfl
      refine pure_ (i := 7) (N := some 19) (v := ?_) (a' := ?_) mk11_8 rfl rfl (any_of HT_.out (by kernel_rfl)) (fun _ _ _ h => h) (Or.inl ⟨by rfl, ?_⟩) ?_ ?_
      rotate_left
      ·intro w'
       go_simp
       first | (with_reducible rfl) | rfl
      rotate_left
      ·simp only [Act.put, List.setIfInBounds_toArray, List.set_cons_zero, List.set_cons_succ, i64_w, i32_w]
       rfl
      refine done_ (done_of HT_.out (by kernel_rfl)) ?_
      try go_wp2
      go_ret
      exact ⟨by first | rfl | (simp [*] <;> rfl), by repeat (first | (with_reducible first | exact HB.out | apply below_alloc | apply pw_below_drewN | apply below_drew1) | exact HB.out)⟩
    ·rw [if_neg c4] at H
     exact absurd H (by simp)
   ·rw [if_neg c3] at H
    have c3b0 : decide (x5_1 < (l0.length : Int)) = false := decide_eq_false c3
    clear c3
    obtain rfl := Option.some.inj H
    go_wp2
    go_ret
    exact ⟨by first | rfl | (simp [*] <;> rfl), by repeat (first | (with_reducible first | exact HB.out | apply below_alloc | apply pw_below_drewN | apply below_drew1) | exact HB.out)⟩

end Go.Proofs.Ytkedcokhcgklpaa.MFnExactRemoveDevice
