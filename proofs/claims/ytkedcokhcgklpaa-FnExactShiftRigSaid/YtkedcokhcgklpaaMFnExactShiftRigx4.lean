-- Written by a program for this claim.
import Derived.Test.YtkedcokhcgklpaaMFnExactShiftRigx0
import Derived.Test.YtkedcokhcgklpaaMFnExactShiftRigx3
namespace Go.Proofs.Ytkedcokhcgklpaa.MFnExactShiftRig
open Go.RowKit Go.Proofs.YtkedcokhcgklpaaW.PrintWords Go.Proofs.YtkedcokhcgklpaaW.PrintLast Go.Proofs.YtkedcokhcgklpaaW.PrintMore
attribute [local go_sem] max2_int min2_int max_two min_two max_three min_three max_four min_four   -- for this text's walks alone
set_option linter.unusedVariables false
set_option linter.unusedSimpArgs false

abbrev mk4_0 : Array Bool := #[false, false, false, false, false, false, false, false]
abbrev mk4_1 : Array Bool := #[true, false, false, false, false, false, false, false]
abbrev mk4_2 : Array Bool := #[true, true, false, false, false, false, false, false]
abbrev mk4_3 : Array Bool := #[true, true, true, false, false, false, false, false]
abbrev mk4_4 : Array Bool := #[true, true, true, true, false, false, false, false]
abbrev mk4_5 : Array Bool := #[true, true, true, true, false, true, false, false]
abbrev mk4_6 : Array Bool := #[true, true, true, true, true, true, false, false]
abbrev mk4_7 : Array Bool := #[true, true, true, true, true, true, true, false]
abbrev mk4_8 : Array Bool := #[true, true, true, true, true, true, true, true]
theorem u4_0 {p : Prop} (h : p := by repeat (first | (with_reducible first | exact HB.out | apply below_alloc | apply pw_below_drewN | apply below_drew1) | exact HB.out)) : p := h
theorem u4_1 {p : Prop} (h : p := by (try simp only [List.map_toArray, List.map_cons, List.map_nil]); first | done | rfl) : p := h
theorem u4_2 {p : Prop} (h : p := by assumption) : p := h
def laws_heldDeviceS.l0 : Nat → List (S30) → Int → Int → Option (Int)
 | 0, _, _, _ => none
 | k + 1, x0, x1, x5 => if x5 < (x0.length : Int) then (if 0 ≤ x5 then ((laws_markText.f k x1).bind fun t147 => (if ((rd_T30 x0 x5).f0).toList = t147.toList then (if ((rd_T30 x0 x5).f1) = (wrap64 (x1 + 1)) then ((laws_markText.f k (wrap64 ((wrap64 (x1 + 1)) + 1))).bind fun t150 => (if ((rd_T30 x0 x5).f2).toList = t150.toList then (if ((rd_T30 x0 x5).f3.f0) = (wrap64 ((wrap64 ((wrap64 (x1 + 1)) + 1)) + 1)) then (if ((rd_T30 x0 x5).f3.f1) = (wrap64 ((wrap64 ((wrap64 ((wrap64 (x1 + 1)) + 1)) + 1)) + 1)) then (if ((rd_T30 x0 x5).f4) = (wrap64 ((wrap64 ((wrap64 ((wrap64 ((wrap64 (x1 + 1)) + 1)) + 1)) + 1)) + 1)) then (if ((rd_T30 x0 x5).f5) = (wrap64 ((wrap64 ((wrap64 ((wrap64 ((wrap64 ((wrap64 (x1 + 1)) + 1)) + 1)) + 1)) + 1)) + 1)) then (if ((rd_T30 x0 x5).f6) = (wrap64 ((wrap64 ((wrap64 ((wrap64 ((wrap64 ((wrap64 ((wrap64 (x1 + 1)) + 1)) + 1)) + 1)) + 1)) + 1)) + 1)) then (laws_heldDeviceS.l0 k x0 (wrap64 ((wrap64 ((wrap64 ((wrap64 ((wrap64 ((wrap64 ((wrap64 ((wrap64 (x1 + 1)) + 1)) + 1)) + 1)) + 1)) + 1)) + 1)) + 1)) (wrap64 (x5 + 1))) else (some (-1))) else (some (-1))) else (some (-1))) else (some (-1))) else (some (-1))) else (some (-1)))) else (some (-1))) else (some (-1)))) else (none)) else (some x1)
def laws_heldDeviceS.f (k : Nat) (l0 : List (S30)) (a1 : Int) : Option (Int) := laws_heldDeviceS.l0 k l0 a1 0
theorem laws_heldDeviceS.mono_l : ∀ k, (∀ y0 y1 y2, LeO (laws_heldDeviceS.l0 k y0 y1 y2) (laws_heldDeviceS.l0 (k + 1) y0 y1 y2))
 | 0 => fun _ _ _ r h => by simp [laws_heldDeviceS.l0] at h
 | k + 1 => by
  have ih0 := laws_heldDeviceS.mono_l k
  ·intro y0 y1 y2
   unfold laws_heldDeviceS.l0
   repeat' first
   | (with_reducible exact ih0 _ _ _)
   | (with_reducible exact laws_markText.mono _ _)
   | (with_reducible exact LeO.refl _)
   | (with_reducible exact LeO.none _)
   | (with_reducible refine LeO.ite ?_ ?_)
   | (with_reducible refine LeO.bind ?_ (fun _ => ?_))
theorem laws_heldDeviceS.mono : ∀ a0 a1 k, LeO (laws_heldDeviceS.f k a0 a1) (laws_heldDeviceS.f (k + 1) a0 a1) := by
 intro a0 a1 k
 have ih0 := laws_heldDeviceS.mono_l k
 unfold laws_heldDeviceS.f
 repeat' first
   | (with_reducible exact ih0 _ _ _)
   | (with_reducible exact laws_markText.mono _ _)
   | (with_reducible exact LeO.refl _)
   | (with_reducible exact LeO.none _)
   | (with_reducible refine LeO.ite ?_ ?_)
   | (with_reducible refine LeO.bind ?_ (fun _ => ?_))
def laws_heldDeviceS.T4 : Bool × List (List Nat × List Nat) := (true, [([], []), ([], []), ([0, 1], [0, 1]), ([2], [2]), ([3], [3]), ([], []), ([5], [5]), ([4, 6], [4, 6])])
def laws_heldDeviceS.B4 : List Nat := [0, 0, 3, 7, 15, 0, 32, 127]
theorem laws_heldDeviceS.tab4 : rtab .any (opsOf Try.f41 4) = laws_heldDeviceS.T4 := by kernel_rfl
theorem laws_heldDeviceS.bits4 : waitsOk laws_heldDeviceS.T4.2 laws_heldDeviceS.B4 = true := by kernel_rfl
def laws_heldDeviceS.T10 : Bool × List (List Nat × List Nat) := (true, [([], []), ([], []), ([0, 1], [0, 1]), ([2], [2]), ([3], [3]), ([], []), ([5], [5]), ([4, 6], [4, 6])])
def laws_heldDeviceS.B10 : List Nat := [0, 0, 3, 7, 15, 0, 32, 127]
theorem laws_heldDeviceS.tab10 : rtab .any (opsOf Try.f41 10) = laws_heldDeviceS.T10 := by kernel_rfl
theorem laws_heldDeviceS.bits10 : waitsOk laws_heldDeviceS.T10.2 laws_heldDeviceS.B10 = true := by kernel_rfl
set_option maxHeartbeats 8000000 in
set_option maxRecDepth 100000 in
theorem laws_heldDeviceS.calls (k : Nat) (A0 : Option Addr) (c0 : Nat) (l0 : List (S30)) (a1 : Int) (r : Int) (w : World) (hr0 : Kd.C k30 w A0 l0.length l0) (hc0 : l0.length ≤ c0) (h : laws_heldDeviceS.f k l0 a1 = some r) :
  Calls Try.prog 41 #[.slice A0 l0.length c0, .int .i64 a1] w fun e w' => e = .returned (.int .i64 r) ∧ Below w.heap.size w w' := by
 have HR0 := Aside0.mk hr0
 have HC0 := Aside0.mk hc0
 clear hr0 hc0
 have HB := Aside0.mk (Below.refl w.heap.size w)
 have H : (laws_heldDeviceS.l0 k l0 a1 0) = some r := h
 clear h
 have H' := Aside0.mk H
 clear H
 go_enter Try.func41, Try.ntmps41
 go_wp2
 go_loopg [1, 5] k (fun kq v1 v5 w' => ∃ (x1_1 : Int) (x5_1 : Int), v1 = .int .i64 x1_1 ∧ v5 = .int .i64 x5_1 ∧ Aside0 (laws_heldDeviceS.l0 kq l0 x1_1 x5_1 = some r) ∧ Aside0 (kq ≤ k) ∧ Aside0 (Below w.heap.size w w'))
 case atStart => exact ⟨(a1), (0), (by first | rfl | (simp; done) | (simp [*]; done)), (by first | rfl | (simp; done) | (simp [*]; done)), H', ⟨Nat.le_refl _⟩, ⟨by repeat (first | (with_reducible first | exact HB.out | apply below_alloc | apply pw_below_drewN | apply below_drew1) | exact HB.out)⟩⟩
 case round =>
  clear H'
  try clear p2
  obtain ⟨x1_1, x5_1, rfl, rfl, HA, HK1, HB⟩ := hrel
  cases gk with
  | zero => exact absurd HA.out (by simp [laws_heldDeviceS.l0])
  | succ k1 =>
   have H := HA.out
   clear HA
   simp only [laws_heldDeviceS.l0] at H
   by_cases c3 : x5_1 < (l0.length : Int)
   ·rw [if_pos c3] at H
    have c3b0 : decide (x5_1 < (l0.length : Int)) = true := decide_eq_true c3
    clear c3
    by_cases c4 : 0 ≤ x5_1
    ·rw [if_pos c4] at H
     have c4b0 : decide (0 ≤ x5_1) = true := decide_eq_true c4
     clear c4
     replace H := Option.bind_eq_some_iff.mp H
     obtain ⟨t147, A50, H⟩ := H
     replace H : (if ((rd_T30 l0 x5_1).f0).toList = t147.toList then (if ((rd_T30 l0 x5_1).f1) = (wrap64 (x1_1 + 1)) then ((laws_markText.f k1 (wrap64 ((wrap64 (x1_1 + 1)) + 1))).bind fun t150 => (if ((rd_T30 l0 x5_1).f2).toList = t150.toList then (if ((rd_T30 l0 x5_1).f3.f0) = (wrap64 ((wrap64 ((wrap64 (x1_1 + 1)) + 1)) + 1)) then (if ((rd_T30 l0 x5_1).f3.f1) = (wrap64 ((wrap64 ((wrap64 ((wrap64 (x1_1 + 1)) + 1)) + 1)) + 1)) then (if ((rd_T30 l0 x5_1).f4) = (wrap64 ((wrap64 ((wrap64 ((wrap64 ((wrap64 (x1_1 + 1)) + 1)) + 1)) + 1)) + 1)) then (if ((rd_T30 l0 x5_1).f5) = (wrap64 ((wrap64 ((wrap64 ((wrap64 ((wrap64 ((wrap64 (x1_1 + 1)) + 1)) + 1)) + 1)) + 1)) + 1)) then (if ((rd_T30 l0 x5_1).f6) = (wrap64 ((wrap64 ((wrap64 ((wrap64 ((wrap64 ((wrap64 ((wrap64 (x1_1 + 1)) + 1)) + 1)) + 1)) + 1)) + 1)) + 1)) then (laws_heldDeviceS.l0 k1 l0 (wrap64 ((wrap64 ((wrap64 ((wrap64 ((wrap64 ((wrap64 ((wrap64 ((wrap64 (x1_1 + 1)) + 1)) + 1)) + 1)) + 1)) + 1)) + 1)) + 1)) (wrap64 (x5_1 + 1))) else (some (-1))) else (some (-1))) else (some (-1))) else (some (-1))) else (some (-1))) else (some (-1)))) else (some (-1))) else (some (-1))) = some r := H
     have A5 := Aside0.mk A50
     clear A50
     by_cases c6 : ((rd_T30 l0 x5_1).f0).toList = t147.toList
     ·rw [if_pos c6] at H
      have c6b0 : (((rd_T30 l0 x5_1).f0).toList == t147.toList) = true := beq_iff_eq.mpr c6
      have c6b1 : (((rd_T30 l0 x5_1).f0).toList != t147.toList) = false := bne_eq_false_iff_eq.mpr c6
      clear c6
      by_cases c7 : ((rd_T30 l0 x5_1).f1) = (wrap64 (x1_1 + 1))
      ·rw [if_pos c7] at H
       have c7b0 : (((rd_T30 l0 x5_1).f1) == (wrap64 (x1_1 + 1))) = true := beq_iff_eq.mpr c7
       have c7b1 : (((rd_T30 l0 x5_1).f1) != (wrap64 (x1_1 + 1))) = false := bne_eq_false_iff_eq.mpr c7
       clear c7
       replace H := Option.bind_eq_some_iff.mp H
       obtain ⟨t150, A80, H⟩ := H
       replace H : (if ((rd_T30 l0 x5_1).f2).toList = t150.toList then (if ((rd_T30 l0 x5_1).f3.f0) = (wrap64 ((wrap64 ((wrap64 (x1_1 + 1)) + 1)) + 1)) then (if ((rd_T30 l0 x5_1).f3.f1) = (wrap64 ((wrap64 ((wrap64 ((wrap64 (x1_1 + 1)) + 1)) + 1)) + 1)) then (if ((rd_T30 l0 x5_1).f4) = (wrap64 ((wrap64 ((wrap64 ((wrap64 ((wrap64 (x1_1 + 1)) + 1)) + 1)) + 1)) + 1)) then (if ((rd_T30 l0 x5_1).f5) = (wrap64 ((wrap64 ((wrap64 ((wrap64 ((wrap64 ((wrap64 (x1_1 + 1)) + 1)) + 1)) + 1)) + 1)) + 1)) then (if ((rd_T30 l0 x5_1).f6) = (wrap64 ((wrap64 ((wrap64 ((wrap64 ((wrap64 ((wrap64 ((wrap64 (x1_1 + 1)) + 1)) + 1)) + 1)) + 1)) + 1)) + 1)) then (laws_heldDeviceS.l0 k1 l0 (wrap64 ((wrap64 ((wrap64 ((wrap64 ((wrap64 ((wrap64 ((wrap64 ((wrap64 (x1_1 + 1)) + 1)) + 1)) + 1)) + 1)) + 1)) + 1)) + 1)) (wrap64 (x5_1 + 1))) else (some (-1))) else (some (-1))) else (some (-1))) else (some (-1))) else (some (-1))) else (some (-1))) = some r := H
       have A8 := Aside0.mk A80
       clear A80
       by_cases c9 : ((rd_T30 l0 x5_1).f2).toList = t150.toList
       ·rw [if_pos c9] at H
        have c9b0 : (((rd_T30 l0 x5_1).f2).toList == t150.toList) = true := beq_iff_eq.mpr c9
        have c9b1 : (((rd_T30 l0 x5_1).f2).toList != t150.toList) = false := bne_eq_false_iff_eq.mpr c9
        clear c9
        by_cases c10 : ((rd_T30 l0 x5_1).f3.f0) = (wrap64 ((wrap64 ((wrap64 (x1_1 + 1)) + 1)) + 1))
        ·rw [if_pos c10] at H
         have c10b0 : (((rd_T30 l0 x5_1).f3.f0) == (wrap64 ((wrap64 ((wrap64 (x1_1 + 1)) + 1)) + 1))) = true := beq_iff_eq.mpr c10
         have c10b1 : (((rd_T30 l0 x5_1).f3.f0) != (wrap64 ((wrap64 ((wrap64 (x1_1 + 1)) + 1)) + 1))) = false := bne_eq_false_iff_eq.mpr c10
         clear c10
         by_cases c11 : ((rd_T30 l0 x5_1).f3.f1) = (wrap64 ((wrap64 ((wrap64 ((wrap64 (x1_1 + 1)) + 1)) + 1)) + 1))
         ·rw [if_pos c11] at H
          have c11b0 : (((rd_T30 l0 x5_1).f3.f1) == (wrap64 ((wrap64 ((wrap64 ((wrap64 (x1_1 + 1)) + 1)) + 1)) + 1))) = true := beq_iff_eq.mpr c11
          have c11b1 : (((rd_T30 l0 x5_1).f3.f1) != (wrap64 ((wrap64 ((wrap64 ((wrap64 (x1_1 + 1)) + 1)) + 1)) + 1))) = false := bne_eq_false_iff_eq.mpr c11
          clear c11
          by_cases c12 : ((rd_T30 l0 x5_1).f4) = (wrap64 ((wrap64 ((wrap64 ((wrap64 ((wrap64 (x1_1 + 1)) + 1)) + 1)) + 1)) + 1))
          ·rw [if_pos c12] at H
           have c12b0 : (((rd_T30 l0 x5_1).f4) == (wrap64 ((wrap64 ((wrap64 ((wrap64 ((wrap64 (x1_1 + 1)) + 1)) + 1)) + 1)) + 1))) = true := beq_iff_eq.mpr c12
           have c12b1 : (((rd_T30 l0 x5_1).f4) != (wrap64 ((wrap64 ((wrap64 ((wrap64 ((wrap64 (x1_1 + 1)) + 1)) + 1)) + 1)) + 1))) = false := bne_eq_false_iff_eq.mpr c12
           clear c12
           by_cases c13 : ((rd_T30 l0 x5_1).f5) = (wrap64 ((wrap64 ((wrap64 ((wrap64 ((wrap64 ((wrap64 (x1_1 + 1)) + 1)) + 1)) + 1)) + 1)) + 1))
           ·rw [if_pos c13] at H
            have c13b0 : (((rd_T30 l0 x5_1).f5) == (wrap64 ((wrap64 ((wrap64 ((wrap64 ((wrap64 ((wrap64 (x1_1 + 1)) + 1)) + 1)) + 1)) + 1)) + 1))) = true := beq_iff_eq.mpr c13
            have c13b1 : (((rd_T30 l0 x5_1).f5) != (wrap64 ((wrap64 ((wrap64 ((wrap64 ((wrap64 ((wrap64 (x1_1 + 1)) + 1)) + 1)) + 1)) + 1)) + 1))) = false := bne_eq_false_iff_eq.mpr c13
            clear c13
            by_cases c14 : ((rd_T30 l0 x5_1).f6) = (wrap64 ((wrap64 ((wrap64 ((wrap64 ((wrap64 ((wrap64 ((wrap64 (x1_1 + 1)) + 1)) + 1)) + 1)) + 1)) + 1)) + 1))
            ·rw [if_pos c14] at H
             have c14b0 : (((rd_T30 l0 x5_1).f6) == (wrap64 ((wrap64 ((wrap64 ((wrap64 ((wrap64 ((wrap64 ((wrap64 (x1_1 + 1)) + 1)) + 1)) + 1)) + 1)) + 1)) + 1))) = true := beq_iff_eq.mpr c14
             have c14b1 : (((rd_T30 l0 x5_1).f6) != (wrap64 ((wrap64 ((wrap64 ((wrap64 ((wrap64 ((wrap64 ((wrap64 (x1_1 + 1)) + 1)) + 1)) + 1)) + 1)) + 1)) + 1))) = false := bne_eq_false_iff_eq.mpr c14
             clear c14
             have H' := Aside0.mk H
             clear H
             try go_wp2
             have n0_ := Aside0.mk (below_drew1 HB.out)
             clear HB
             have HB := n0_
             clear n0_
             have p146 : 0 ≤ (x5_1 : Int) := of_decide_eq_true u4_2
             have q146 : x5_1 < (l0.length : Int) := of_decide_eq_true u4_2
             obtain ⟨ad146, e146, hx146_0, hx146_1, hx146_2, hx146_3, hx146_4, hx146_5, hx146_6, hx146_7⟩ := at_T30 HR0.out x5_1 p146 q146
             have hw146_7 := hx146_7
             have hw146_6 := hx146_6
             have hw146_5 := hx146_5
             have hw146_4 := hx146_4
             have hw146_3 := hx146_3
             have hw146_2 := hx146_2
             have hw146_1 := hx146_1
             have hw146_0 := hx146_0
             cases e146
             replace hx146_0 := bc HB.out hx146_0
             replace hx146_1 := bc HB.out hx146_1
             replace hx146_2 := bc HB.out hx146_2
             replace hx146_3 := bc HB.out hx146_3
             replace hx146_4 := bc HB.out hx146_4
             replace hx146_5 := bc HB.out hx146_5
             replace hx146_6 := bc HB.out hx146_6
             replace hx146_7 := bc HB.out hx146_7
             replace p146 := eq_true p146
             replace q146 := eq_true q146
             refine start_ (n := 8) (S := fun w' => w'.cell? (ad146.add ((x5_1).toNat * 8)) = some (.string ((rd_T30 l0 x5_1).f0)) ∧ w'.cell? ⟨(ad146.add ((x5_1).toNat * 8)).block, (ad146.add ((x5_1).toNat * 8)).off + 1, none⟩ = some (.int .i64 ((rd_T30 l0 x5_1).f1)) ∧ w'.cell? ⟨(ad146.add ((x5_1).toNat * 8)).block, (ad146.add ((x5_1).toNat * 8)).off + 2, none⟩ = some (.string ((rd_T30 l0 x5_1).f2)) ∧ w'.cell? ⟨(ad146.add ((x5_1).toNat * 8)).block, (ad146.add ((x5_1).toNat * 8)).off + 3, none⟩ = some (.int .i64 ((rd_T30 l0 x5_1).f3.f0)) ∧ w'.cell? ⟨(ad146.add ((x5_1).toNat * 8)).block, (ad146.add ((x5_1).toNat * 8)).off + 4, none⟩ = some (.int .i64 ((rd_T30 l0 x5_1).f3.f1)) ∧ w'.cell? ⟨(ad146.add ((x5_1).toNat * 8)).block, (ad146.add ((x5_1).toNat * 8)).off + 5, none⟩ = some (.int .i64 ((rd_T30 l0 x5_1).f4)) ∧ w'.cell? ⟨(ad146.add ((x5_1).toNat * 8)).block, (ad146.add ((x5_1).toNat * 8)).off + 6, none⟩ = some (.int .i64 ((rd_T30 l0 x5_1).f5)) ∧ w'.cell? ⟨(ad146.add ((x5_1).toNat * 8)).block, (ad146.add ((x5_1).toNat * 8)).off + 7, none⟩ = some (.int .i64 ((rd_T30 l0 x5_1).f6))) (ds := []) mk4_0 (by kernel_rfl) rfl rfl ⟨(bc HB.out hw146_0), (bc HB.out hw146_1), (bc HB.out hw146_2), (bc HB.out hw146_3), (bc HB.out hw146_4), (bc HB.out hw146_5), (bc HB.out hw146_6), (bc HB.out hw146_7)⟩ (fun hHeld => ?_); refine with_tabW laws_heldDeviceS.tab4 laws_heldDeviceS.bits4 (fun HT_ HW_ => ?_)
             generalize wr.drew = w15 at HB hx146_0 hx146_1 hx146_2 hx146_3 hx146_4 hx146_5 hx146_6 hx146_7 hHeld ⊢
             refine pz 0 12 mk4_1 (any_of HT_.out (by kernel_rfl)) ?_
             refine pz 1 13 mk4_2 (any_of HT_.out (by kernel_rfl)) ?_
             refine pz 2 14 mk4_3 (any_of HT_.out (by kernel_rfl)) ?_
             refine pz 3 15 mk4_4 (any_of HT_.out (by kernel_rfl)) ?_
             refine pz 5 17 mk4_5 (any_of HT_.out (by kernel_rfl)) ?_
             refine take_ (i := 4) (N := some 16) (v := ?_) (a' := ?_) mk4_6 rfl rfl (take_ofW HT_.out HW_.out (by kernel_rfl)) (fun _ _ _ h => h) (Or.inl ⟨by rfl, ?_⟩) hHeld ?_ ?_
             rotate_left
             ·rintro w' ⟨s0, s1, s2, s3, s4, s5, s6, s7⟩
              exact gs
             rotate_left
             ·exact ap
             refine one_ (i := 6) (N := some 18) mk4_7 rfl rfl (one_of HT_.out (by kernel_rfl)) (by decide) (fun K hK => ?_)
             refine goes_ Try.func68 (by kernel_rfl) rfl #[.int .i64 x1_1] (by rfl) rfl rfl u4_1 ?_
             with_reducible refine (laws_markText.calls k1 x1_1 t147 _ A5.out).mono ?_
             rintro e w16 ⟨rfl, hb⟩
             refine ⟨_, rfl, ?_⟩
             have n0_ := Aside0.mk (below_step u4_0 hb)
             clear HB
             have HB := n0_
             clear n0_
             (try clear hb)
             (try clear hb2)
             (try clear hk)
             (try clear hi)
             refine hK.out _ _ ⟨(bc HB.out hw146_0), (bc HB.out hw146_1), (bc HB.out hw146_2), (bc HB.out hw146_3), (bc HB.out hw146_4), (bc HB.out hw146_5), (bc HB.out hw146_6), (bc HB.out hw146_7)⟩ (fun hHeld => ?_)
             clear hK K
             refine norm_ (a' := ?_) ?_ ?_
             rotate_left
             ·show Act.put _ (some 18) _ = _
              simp only [Act.put, List.setIfInBounds_toArray, List.set_cons_zero, List.set_cons_succ, i64_w, i32_w]
              rfl
             refine pz 7 19 mk4_8 (any_of HT_.out (by kernel_rfl)) ?_
             refine done_ (done_of HT_.out (by kernel_rfl)) ?_
             have p148 : 0 ≤ (x5_1 : Int) := of_decide_eq_true u4_2
             have q148 : x5_1 < (l0.length : Int) := of_decide_eq_true u4_2
             obtain ⟨ad148, e148, hx148_0, hx148_1, hx148_2, hx148_3, hx148_4, hx148_5, hx148_6, hx148_7⟩ := at_T30 HR0.out x5_1 p148 q148
             obtain rfl : ad146 = ad148 := (by injection e148)
             replace hx148_0 := bc HB.out hx148_0
             replace hx148_1 := bc HB.out hx148_1
             replace hx148_2 := bc HB.out hx148_2
             replace hx148_3 := bc HB.out hx148_3
             replace hx148_4 := bc HB.out hx148_4
             replace hx148_5 := bc HB.out hx148_5
             replace hx148_6 := bc HB.out hx148_6
             replace hx148_7 := bc HB.out hx148_7
             replace p148 := eq_true p148
             replace q148 := eq_true q148
             try go_wp2
             have n0_ := Aside0.mk (below_drew1 HB.out)
             clear HB
             have HB := n0_
             clear n0_
             have p149 : 0 ≤ (x5_1 : Int) := of_decide_eq_true u4_2
             have q149 : x5_1 < (l0.length : Int) := of_decide_eq_true u4_2
             obtain ⟨ad149, e149, hx149_0, hx149_1, hx149_2, hx149_3, hx149_4, hx149_5, hx149_6, hx149_7⟩ := at_T30 HR0.out x5_1 p149 q149
             have hw149_7 := hx149_7
             have hw149_6 := hx149_6
             have hw149_5 := hx149_5
             have hw149_4 := hx149_4
             have hw149_3 := hx149_3
             have hw149_2 := hx149_2
             have hw149_1 := hx149_1
             have hw149_0 := hx149_0
             obtain rfl : ad146 = ad149 := (by injection e149)
             replace hx149_0 := bc HB.out hx149_0
             replace hx149_1 := bc HB.out hx149_1
             replace hx149_2 := bc HB.out hx149_2
             replace hx149_3 := bc HB.out hx149_3
             replace hx149_4 := bc HB.out hx149_4
             replace hx149_5 := bc HB.out hx149_5
             replace hx149_6 := bc HB.out hx149_6
             replace hx149_7 := bc HB.out hx149_7
             replace p149 := eq_true p149
             replace q149 := eq_true q149
             refine start_ (n := 8) (S := fun w' => w'.cell? (ad146.add ((x5_1).toNat * 8)) = some (.string ((rd_T30 l0 x5_1).f0)) ∧ w'.cell? ⟨(ad146.add ((x5_1).toNat * 8)).block, (ad146.add ((x5_1).toNat * 8)).off + 1, none⟩ = some (.int .i64 ((rd_T30 l0 x5_1).f1)) ∧ w'.cell? ⟨(ad146.add ((x5_1).toNat * 8)).block, (ad146.add ((x5_1).toNat * 8)).off + 2, none⟩ = some (.string ((rd_T30 l0 x5_1).f2)) ∧ w'.cell? ⟨(ad146.add ((x5_1).toNat * 8)).block, (ad146.add ((x5_1).toNat * 8)).off + 3, none⟩ = some (.int .i64 ((rd_T30 l0 x5_1).f3.f0)) ∧ w'.cell? ⟨(ad146.add ((x5_1).toNat * 8)).block, (ad146.add ((x5_1).toNat * 8)).off + 4, none⟩ = some (.int .i64 ((rd_T30 l0 x5_1).f3.f1)) ∧ w'.cell? ⟨(ad146.add ((x5_1).toNat * 8)).block, (ad146.add ((x5_1).toNat * 8)).off + 5, none⟩ = some (.int .i64 ((rd_T30 l0 x5_1).f4)) ∧ w'.cell? ⟨(ad146.add ((x5_1).toNat * 8)).block, (ad146.add ((x5_1).toNat * 8)).off + 6, none⟩ = some (.int .i64 ((rd_T30 l0 x5_1).f5)) ∧ w'.cell? ⟨(ad146.add ((x5_1).toNat * 8)).block, (ad146.add ((x5_1).toNat * 8)).off + 7, none⟩ = some (.int .i64 ((rd_T30 l0 x5_1).f6))) (ds := []) mk4_0 (by kernel_rfl) rfl rfl ⟨(bc HB.out hw149_0), (bc HB.out hw149_1), (bc HB.out hw149_2), (bc HB.out hw149_3), (bc HB.out hw149_4), (bc HB.out hw149_5), (bc HB.out hw149_6), (bc HB.out hw149_7)⟩ (fun hHeld => ?_); refine with_tabW laws_heldDeviceS.tab10 laws_heldDeviceS.bits10 (fun HT_ HW_ => ?_)
             generalize w16.drew = w17 at HB hx149_0 hx149_1 hx149_2 hx149_3 hx149_4 hx149_5 hx149_6 hx149_7 hHeld ⊢
             refine pz 0 31 mk4_1 (any_of HT_.out (by kernel_rfl)) ?_
             refine pz 1 32 mk4_2 (any_of HT_.out (by kernel_rfl)) ?_
             refine pz 2 33 mk4_3 (any_of HT_.out (by kernel_rfl)) ?_
             refine pz 3 34 mk4_4 (any_of HT_.out (by kernel_rfl)) ?_
             refine pz 5 36 mk4_5 (any_of HT_.out (by kernel_rfl)) ?_
             refine take_ (i := 4) (N := some 35) (v := ?_) (a' := ?_) mk4_6 rfl rfl (take_ofW HT_.out HW_.out (by kernel_rfl)) (fun _ _ _ h => h) (Or.inl ⟨by rfl, ?_⟩) hHeld ?_ ?_
             rotate_left
             ·rintro w' ⟨s0, s1, s2, s3, s4, s5, s6, s7⟩
              exact gs
             rotate_left
             ·exact ap
             refine one_ (i := 6) (N := some 37) mk4_7 rfl rfl (one_of HT_.out (by kernel_rfl)) (by decide) (fun K hK => ?_)
             refine goes_ Try.func68 (by kernel_rfl) rfl #[.int .i64 (wrap64 ((wrap64 (x1_1 + 1)) + 1))] (by rfl) rfl rfl u4_1 ?_
             with_reducible refine (laws_markText.calls k1 (wrap64 ((wrap64 (x1_1 + 1)) + 1)) t150 _ A8.out).mono ?_
             rintro e w18 ⟨rfl, hb⟩
             refine ⟨_, rfl, ?_⟩
             have n0_ := Aside0.mk (below_step u4_0 hb)
             clear HB
             have HB := n0_
             clear n0_
             (try clear hb)
             (try clear hb2)
             (try clear hk)
             (try clear hi)
             refine hK.out _ _ ⟨(bc HB.out hw149_0), (bc HB.out hw149_1), (bc HB.out hw149_2), (bc HB.out hw149_3), (bc HB.out hw149_4), (bc HB.out hw149_5), (bc HB.out hw149_6), (bc HB.out hw149_7)⟩ (fun hHeld => ?_)
             clear hK K
             refine norm_ (a' := ?_) ?_ ?_
             rotate_left
             ·show Act.put _ (some 37) _ = _
              simp only [Act.put, List.setIfInBounds_toArray, List.set_cons_zero, List.set_cons_succ, i64_w, i32_w]
              rfl
             refine pz 7 38 mk4_8 (any_of HT_.out (by kernel_rfl)) ?_
             refine done_ (done_of HT_.out (by kernel_rfl)) ?_
             have p151 : 0 ≤ (x5_1 : Int) := of_decide_eq_true u4_2
             have q151 : x5_1 < (l0.length : Int) := of_decide_eq_true u4_2
             obtain ⟨ad151, e151, hx151_0, hx151_1, hx151_2, hx151_3, hx151_4, hx151_5, hx151_6, hx151_7⟩ := at_T30 HR0.out x5_1 p151 q151
             obtain rfl : ad146 = ad151 := (by injection e151)
             replace hx151_0 := bc HB.out hx151_0
             replace hx151_1 := bc HB.out hx151_1
             replace hx151_2 := bc HB.out hx151_2
             replace hx151_3 := bc HB.out hx151_3
             replace hx151_4 := bc HB.out hx151_4
             replace hx151_5 := bc HB.out hx151_5
             replace hx151_6 := bc HB.out hx151_6
             replace hx151_7 := bc HB.out hx151_7
             replace p151 := eq_true p151
             replace q151 := eq_true q151
             have p152 : 0 ≤ (x5_1 : Int) := of_decide_eq_true u4_2
             have q152 : x5_1 < (l0.length : Int) := of_decide_eq_true u4_2
             obtain ⟨ad152, e152, hx152_0, hx152_1, hx152_2, hx152_3, hx152_4, hx152_5, hx152_6, hx152_7⟩ := at_T30 HR0.out x5_1 p152 q152
             obtain rfl : ad146 = ad152 := (by injection e152)
             replace hx152_0 := bc HB.out hx152_0
             replace hx152_1 := bc HB.out hx152_1
             replace hx152_2 := bc HB.out hx152_2
             replace hx152_3 := bc HB.out hx152_3
             replace hx152_4 := bc HB.out hx152_4
             replace hx152_5 := bc HB.out hx152_5
             replace hx152_6 := bc HB.out hx152_6
             replace hx152_7 := bc HB.out hx152_7
             replace p152 := eq_true p152
             replace q152 := eq_true q152
             have p153 : 0 ≤ (x5_1 : Int) := of_decide_eq_true u4_2
             have q153 : x5_1 < (l0.length : Int) := of_decide_eq_true u4_2
             obtain ⟨ad153, e153, hx153_0, hx153_1, hx153_2, hx153_3, hx153_4, hx153_5, hx153_6, hx153_7⟩ := at_T30 HR0.out x5_1 p153 q153
             obtain rfl : ad146 = ad153 := (by injection e153)
             replace hx153_0 := bc HB.out hx153_0
             replace hx153_1 := bc HB.out hx153_1
             replace hx153_2 := bc HB.out hx153_2
             replace hx153_3 := bc HB.out hx153_3
             replace hx153_4 := bc HB.out hx153_4
             replace hx153_5 := bc HB.out hx153_5
             replace hx153_6 := bc HB.out hx153_6
             replace hx153_7 := bc HB.out hx153_7
             replace p153 := eq_true p153
             replace q153 := eq_true q153
             have p154 : 0 ≤ (x5_1 : Int) := of_decide_eq_true u4_2
             have q154 : x5_1 < (l0.length : Int) := of_decide_eq_true u4_2
             obtain ⟨ad154, e154, hx154_0, hx154_1, hx154_2, hx154_3, hx154_4, hx154_5, hx154_6, hx154_7⟩ := at_T30 HR0.out x5_1 p154 q154
             obtain rfl : ad146 = ad154 := (by injection e154)
             replace hx154_0 := bc HB.out hx154_0
             replace hx154_1 := bc HB.out hx154_1
             replace hx154_2 := bc HB.out hx154_2
             replace hx154_3 := bc HB.out hx154_3
             replace hx154_4 := bc HB.out hx154_4
             replace hx154_5 := bc HB.out hx154_5
             replace hx154_6 := bc HB.out hx154_6
             replace hx154_7 := bc HB.out hx154_7
             replace p154 := eq_true p154
             replace q154 := eq_true q154
             have p155 : 0 ≤ (x5_1 : Int) := of_decide_eq_true u4_2
             have q155 : x5_1 < (l0.length : Int) := of_decide_eq_true u4_2
             obtain ⟨ad155, e155, hx155_0, hx155_1, hx155_2, hx155_3, hx155_4, hx155_5, hx155_6, hx155_7⟩ := at_T30 HR0.out x5_1 p155 q155
             obtain rfl : ad146 = ad155 := (by injection e155)
             replace hx155_0 := bc HB.out hx155_0
             replace hx155_1 := bc HB.out hx155_1
             replace hx155_2 := bc HB.out hx155_2
             replace hx155_3 := bc HB.out hx155_3
             replace hx155_4 := bc HB.out hx155_4
             replace hx155_5 := bc HB.out hx155_5
             replace hx155_6 := bc HB.out hx155_6
             replace hx155_7 := bc HB.out hx155_7
             replace p155 := eq_true p155
             replace q155 := eq_true q155
             try go_wp2
             go_roundg k1
             case measure => have := HK1.out; omega
             case rel => exact ⟨(wrap64 ((wrap64 ((wrap64 ((wrap64 ((wrap64 ((wrap64 ((wrap64 ((wrap64 (x1_1 + 1)) + 1)) + 1)) + 1)) + 1)) + 1)) + 1)) + 1)), (wrap64 (x5_1 + 1)), (by first | rfl | (simp; done) | (simp [*]; done)), (by first | rfl | (simp; done) | (simp [*]; done)), H', ⟨by have := HK1.out; omega⟩, ⟨by repeat (first | (with_reducible first | exact HB.out | apply below_alloc | apply pw_below_drewN | apply below_drew1) | exact HB.out)⟩⟩
            ·rw [if_neg c14] at H
             have c14b0 : (((rd_T30 l0 x5_1).f6) == (wrap64 ((wrap64 ((wrap64 ((wrap64 ((wrap64 ((wrap64 ((wrap64 (x1_1 + 1)) + 1)) + 1)) + 1)) + 1)) + 1)) + 1))) = false := beq_eq_false_iff_ne.mpr c14
             have c14b1 : (((rd_T30 l0 x5_1).f6) != (wrap64 ((wrap64 ((wrap64 ((wrap64 ((wrap64 ((wrap64 ((wrap64 (x1_1 + 1)) + 1)) + 1)) + 1)) + 1)) + 1)) + 1))) = true := bne_iff_ne.mpr c14
             obtain rfl := Option.some.inj H
             try go_wp2
             have n0_ := Aside0.mk (below_drew1 HB.out)
             clear HB
             have HB := n0_
             clear n0_
             have p146 : 0 ≤ (x5_1 : Int) := of_decide_eq_true u4_2
             have q146 : x5_1 < (l0.length : Int) := of_decide_eq_true u4_2
             obtain ⟨ad146, e146, hx146_0, hx146_1, hx146_2, hx146_3, hx146_4, hx146_5, hx146_6, hx146_7⟩ := at_T30 HR0.out x5_1 p146 q146
             have hw146_7 := hx146_7
             have hw146_6 := hx146_6
             have hw146_5 := hx146_5
             have hw146_4 := hx146_4
             have hw146_3 := hx146_3
             have hw146_2 := hx146_2
             have hw146_1 := hx146_1
             have hw146_0 := hx146_0
             cases e146
             replace hx146_0 := bc HB.out hx146_0
             replace hx146_1 := bc HB.out hx146_1
             replace hx146_2 := bc HB.out hx146_2
             replace hx146_3 := bc HB.out hx146_3
             replace hx146_4 := bc HB.out hx146_4
             replace hx146_5 := bc HB.out hx146_5
             replace hx146_6 := bc HB.out hx146_6
             replace hx146_7 := bc HB.out hx146_7
             replace p146 := eq_true p146
             replace q146 := eq_true q146
             refine start_ (n := 8) (S := fun w' => w'.cell? (ad146.add ((x5_1).toNat * 8)) = some (.string ((rd_T30 l0 x5_1).f0)) ∧ w'.cell? ⟨(ad146.add ((x5_1).toNat * 8)).block, (ad146.add ((x5_1).toNat * 8)).off + 1, none⟩ = some (.int .i64 ((rd_T30 l0 x5_1).f1)) ∧ w'.cell? ⟨(ad146.add ((x5_1).toNat * 8)).block, (ad146.add ((x5_1).toNat * 8)).off + 2, none⟩ = some (.string ((rd_T30 l0 x5_1).f2)) ∧ w'.cell? ⟨(ad146.add ((x5_1).toNat * 8)).block, (ad146.add ((x5_1).toNat * 8)).off + 3, none⟩ = some (.int .i64 ((rd_T30 l0 x5_1).f3.f0)) ∧ w'.cell? ⟨(ad146.add ((x5_1).toNat * 8)).block, (ad146.add ((x5_1).toNat * 8)).off + 4, none⟩ = some (.int .i64 ((rd_T30 l0 x5_1).f3.f1)) ∧ w'.cell? ⟨(ad146.add ((x5_1).toNat * 8)).block, (ad146.add ((x5_1).toNat * 8)).off + 5, none⟩ = some (.int .i64 ((rd_T30 l0 x5_1).f4)) ∧ w'.cell? ⟨(ad146.add ((x5_1).toNat * 8)).block, (ad146.add ((x5_1).toNat * 8)).off + 6, none⟩ = some (.int .i64 ((rd_T30 l0 x5_1).f5)) ∧ w'.cell? ⟨(ad146.add ((x5_1).toNat * 8)).block, (ad146.add ((x5_1).toNat * 8)).off + 7, none⟩ = some (.int .i64 ((rd_T30 l0 x5_1).f6))) (ds := []) mk4_0 (by kernel_rfl) rfl rfl ⟨(bc HB.out hw146_0), (bc HB.out hw146_1), (bc HB.out hw146_2), (bc HB.out hw146_3), (bc HB.out hw146_4), (bc HB.out hw146_5), (bc HB.out hw146_6), (bc HB.out hw146_7)⟩ (fun hHeld => ?_); refine with_tabW laws_heldDeviceS.tab4 laws_heldDeviceS.bits4 (fun HT_ HW_ => ?_)
             generalize wr.drew = w19 at HB hx146_0 hx146_1 hx146_2 hx146_3 hx146_4 hx146_5 hx146_6 hx146_7 hHeld ⊢
             refine pz 0 12 mk4_1 (any_of HT_.out (by kernel_rfl)) ?_
             refine pz 1 13 mk4_2 (any_of HT_.out (by kernel_rfl)) ?_
             refine pz 2 14 mk4_3 (any_of HT_.out (by kernel_rfl)) ?_
             refine pz 3 15 mk4_4 (any_of HT_.out (by kernel_rfl)) ?_
             refine pz 5 17 mk4_5 (any_of HT_.out (by kernel_rfl)) ?_
             refine take_ (i := 4) (N := some 16) (v := ?_) (a' := ?_) mk4_6 rfl rfl (take_ofW HT_.out HW_.out (by kernel_rfl)) (fun _ _ _ h => h) (Or.inl ⟨by rfl, ?_⟩) hHeld ?_ ?_
             rotate_left
             ·rintro w' ⟨s0, s1, s2, s3, s4, s5, s6, s7⟩
              exact gs
             rotate_left
             ·exact ap
             refine one_ (i := 6) (N := some 18) mk4_7 rfl rfl (one_of HT_.out (by kernel_rfl)) (by decide) (fun K hK => ?_)
             refine goes_ Try.func68 (by kernel_rfl) rfl #[.int .i64 x1_1] (by rfl) rfl rfl u4_1 ?_
             with_reducible refine (laws_markText.calls k1 x1_1 t147 _ A5.out).mono ?_
             rintro e w20 ⟨rfl, hb⟩
             refine ⟨_, rfl, ?_⟩
             have n0_ := Aside0.mk (below_step u4_0 hb)
             clear HB
             have HB := n0_
             clear n0_
             (try clear hb)
             (try clear hb2)
             (try clear hk)
             (try clear hi)
             refine hK.out _ _ ⟨(bc HB.out hw146_0), (bc HB.out hw146_1), (bc HB.out hw146_2), (bc HB.out hw146_3), (bc HB.out hw146_4), (bc HB.out hw146_5), (bc HB.out hw146_6), (bc HB.out hw146_7)⟩ (fun hHeld => ?_)
             clear hK K
             refine norm_ (a' := ?_) ?_ ?_
             rotate_left
             ·show Act.put _ (some 18) _ = _
              simp only [Act.put, List.setIfInBounds_toArray, List.set_cons_zero, List.set_cons_succ, i64_w, i32_w]
              rfl
             refine pz 7 19 mk4_8 (any_of HT_.out (by kernel_rfl)) ?_
             refine done_ (done_of HT_.out (by kernel_rfl)) ?_
             have p148 : 0 ≤ (x5_1 : Int) := of_decide_eq_true u4_2
             have q148 : x5_1 < (l0.length : Int) := of_decide_eq_true u4_2
             obtain ⟨ad148, e148, hx148_0, hx148_1, hx148_2, hx148_3, hx148_4, hx148_5, hx148_6, hx148_7⟩ := at_T30 HR0.out x5_1 p148 q148
             obtain rfl : ad146 = ad148 := (by injection e148)
             replace hx148_0 := bc HB.out hx148_0
             replace hx148_1 := bc HB.out hx148_1
             replace hx148_2 := bc HB.out hx148_2
             replace hx148_3 := bc HB.out hx148_3
             replace hx148_4 := bc HB.out hx148_4
             replace hx148_5 := bc HB.out hx148_5
             replace hx148_6 := bc HB.out hx148_6
             replace hx148_7 := bc HB.out hx148_7
             replace p148 := eq_true p148
             replace q148 := eq_true q148
             try go_wp2
             have n0_ := Aside0.mk (below_drew1 HB.out)
             clear HB
             have HB := n0_
             clear n0_
             have p149 : 0 ≤ (x5_1 : Int) := of_decide_eq_true u4_2
             have q149 : x5_1 < (l0.length : Int) := of_decide_eq_true u4_2
             obtain ⟨ad149, e149, hx149_0, hx149_1, hx149_2, hx149_3, hx149_4, hx149_5, hx149_6, hx149_7⟩ := at_T30 HR0.out x5_1 p149 q149
             have hw149_7 := hx149_7
             have hw149_6 := hx149_6
             have hw149_5 := hx149_5
             have hw149_4 := hx149_4
             have hw149_3 := hx149_3
             have hw149_2 := hx149_2
             have hw149_1 := hx149_1
             have hw149_0 := hx149_0
             obtain rfl : ad146 = ad149 := (by injection e149)
             replace hx149_0 := bc HB.out hx149_0
             replace hx149_1 := bc HB.out hx149_1
             replace hx149_2 := bc HB.out hx149_2
             replace hx149_3 := bc HB.out hx149_3
             replace hx149_4 := bc HB.out hx149_4
             replace hx149_5 := bc HB.out hx149_5
             replace hx149_6 := bc HB.out hx149_6
             replace hx149_7 := bc HB.out hx149_7
             replace p149 := eq_true p149
             replace q149 := eq_true q149
             refine start_ (n := 8) (S := fun w' => w'.cell? (ad146.add ((x5_1).toNat * 8)) = some (.string ((rd_T30 l0 x5_1).f0)) ∧ w'.cell? ⟨(ad146.add ((x5_1).toNat * 8)).block, (ad146.add ((x5_1).toNat * 8)).off + 1, none⟩ = some (.int .i64 ((rd_T30 l0 x5_1).f1)) ∧ w'.cell? ⟨(ad146.add ((x5_1).toNat * 8)).block, (ad146.add ((x5_1).toNat * 8)).off + 2, none⟩ = some (.string ((rd_T30 l0 x5_1).f2)) ∧ w'.cell? ⟨(ad146.add ((x5_1).toNat * 8)).block, (ad146.add ((x5_1).toNat * 8)).off + 3, none⟩ = some (.int .i64 ((rd_T30 l0 x5_1).f3.f0)) ∧ w'.cell? ⟨(ad146.add ((x5_1).toNat * 8)).block, (ad146.add ((x5_1).toNat * 8)).off + 4, none⟩ = some (.int .i64 ((rd_T30 l0 x5_1).f3.f1)) ∧ w'.cell? ⟨(ad146.add ((x5_1).toNat * 8)).block, (ad146.add ((x5_1).toNat * 8)).off + 5, none⟩ = some (.int .i64 ((rd_T30 l0 x5_1).f4)) ∧ w'.cell? ⟨(ad146.add ((x5_1).toNat * 8)).block, (ad146.add ((x5_1).toNat * 8)).off + 6, none⟩ = some (.int .i64 ((rd_T30 l0 x5_1).f5)) ∧ w'.cell? ⟨(ad146.add ((x5_1).toNat * 8)).block, (ad146.add ((x5_1).toNat * 8)).off + 7, none⟩ = some (.int .i64 ((rd_T30 l0 x5_1).f6))) (ds := []) mk4_0 (by kernel_rfl) rfl rfl ⟨(bc HB.out hw149_0), (bc HB.out hw149_1), (bc HB.out hw149_2), (bc HB.out hw149_3), (bc HB.out hw149_4), (bc HB.out hw149_5), (bc HB.out hw149_6), (bc HB.out hw149_7)⟩ (fun hHeld => ?_); refine with_tabW laws_heldDeviceS.tab10 laws_heldDeviceS.bits10 (fun HT_ HW_ => ?_)
             generalize w20.drew = w21 at HB hx149_0 hx149_1 hx149_2 hx149_3 hx149_4 hx149_5 hx149_6 hx149_7 hHeld ⊢
             refine pz 0 31 mk4_1 (any_of HT_.out (by kernel_rfl)) ?_
             refine pz 1 32 mk4_2 (any_of HT_.out (by kernel_rfl)) ?_
             refine pz 2 33 mk4_3 (any_of HT_.out (by kernel_rfl)) ?_
             refine pz 3 34 mk4_4 (any_of HT_.out (by kernel_rfl)) ?_
             refine pz 5 36 mk4_5 (any_of HT_.out (by kernel_rfl)) ?_
             refine take_ (i := 4) (N := some 35) (v := ?_) (a' := ?_) mk4_6 rfl rfl (take_ofW HT_.out HW_.out (by kernel_rfl)) (fun _ _ _ h => h) (Or.inl ⟨by rfl, ?_⟩) hHeld ?_ ?_
             rotate_left
             ·rintro w' ⟨s0, s1, s2, s3, s4, s5, s6, s7⟩
              exact gs
             rotate_left
             ·exact ap
             refine one_ (i := 6) (N := some 37) mk4_7 rfl rfl (one_of HT_.out (by kernel_rfl)) (by decide) (fun K hK => ?_)
             refine goes_ Try.func68 (by kernel_rfl) rfl #[.int .i64 (wrap64 ((wrap64 (x1_1 + 1)) + 1))] (by rfl) rfl rfl u4_1 ?_
             with_reducible refine (laws_markText.calls k1 (wrap64 ((wrap64 (x1_1 + 1)) + 1)) t150 _ A8.out).mono ?_
             rintro e w22 ⟨rfl, hb⟩
             refine ⟨_, rfl, ?_⟩
             have n0_ := Aside0.mk (below_step u4_0 hb)
             clear HB
             have HB := n0_
             clear n0_
             (try clear hb)
             (try clear hb2)
             (try clear hk)
             (try clear hi)
             refine hK.out _ _ ⟨(bc HB.out hw149_0), (bc HB.out hw149_1), (bc HB.out hw149_2), (bc HB.out hw149_3), (bc HB.out hw149_4), (bc HB.out hw149_5), (bc HB.out hw149_6), (bc HB.out hw149_7)⟩ (fun hHeld => ?_)
             clear hK K
             refine norm_ (a' := ?_) ?_ ?_
             rotate_left
             ·show Act.put _ (some 37) _ = _
              simp only [Act.put, List.setIfInBounds_toArray, List.set_cons_zero, List.set_cons_succ, i64_w, i32_w]
              rfl
             refine pz 7 38 mk4_8 (any_of HT_.out (by kernel_rfl)) ?_
             refine done_ (done_of HT_.out (by kernel_rfl)) ?_
             have p151 : 0 ≤ (x5_1 : Int) := of_decide_eq_true u4_2
             have q151 : x5_1 < (l0.length : Int) := of_decide_eq_true u4_2
             obtain ⟨ad151, e151, hx151_0, hx151_1, hx151_2, hx151_3, hx151_4, hx151_5, hx151_6, hx151_7⟩ := at_T30 HR0.out x5_1 p151 q151
             obtain rfl : ad146 = ad151 := (by injection e151)
             replace hx151_0 := bc HB.out hx151_0
             replace hx151_1 := bc HB.out hx151_1
             replace hx151_2 := bc HB.out hx151_2
             replace hx151_3 := bc HB.out hx151_3
             replace hx151_4 := bc HB.out hx151_4
             replace hx151_5 := bc HB.out hx151_5
             replace hx151_6 := bc HB.out hx151_6
             replace hx151_7 := bc HB.out hx151_7
             replace p151 := eq_true p151
             replace q151 := eq_true q151
             have p152 : 0 ≤ (x5_1 : Int) := of_decide_eq_true u4_2
             have q152 : x5_1 < (l0.length : Int) := of_decide_eq_true u4_2
             obtain ⟨ad152, e152, hx152_0, hx152_1, hx152_2, hx152_3, hx152_4, hx152_5, hx152_6, hx152_7⟩ := at_T30 HR0.out x5_1 p152 q152
             obtain rfl : ad146 = ad152 := (by injection e152)
             replace hx152_0 := bc HB.out hx152_0
             replace hx152_1 := bc HB.out hx152_1
             replace hx152_2 := bc HB.out hx152_2
             replace hx152_3 := bc HB.out hx152_3
             replace hx152_4 := bc HB.out hx152_4
             replace hx152_5 := bc HB.out hx152_5
             replace hx152_6 := bc HB.out hx152_6
             replace hx152_7 := bc HB.out hx152_7
             replace p152 := eq_true p152
             replace q152 := eq_true q152
             have p153 : 0 ≤ (x5_1 : Int) := of_decide_eq_true u4_2
             have q153 : x5_1 < (l0.length : Int) := of_decide_eq_true u4_2
             obtain ⟨ad153, e153, hx153_0, hx153_1, hx153_2, hx153_3, hx153_4, hx153_5, hx153_6, hx153_7⟩ := at_T30 HR0.out x5_1 p153 q153
             obtain rfl : ad146 = ad153 := (by injection e153)
             replace hx153_0 := bc HB.out hx153_0
             replace hx153_1 := bc HB.out hx153_1
             replace hx153_2 := bc HB.out hx153_2
             replace hx153_3 := bc HB.out hx153_3
             replace hx153_4 := bc HB.out hx153_4
             replace hx153_5 := bc HB.out hx153_5
             replace hx153_6 := bc HB.out hx153_6
             replace hx153_7 := bc HB.out hx153_7
             replace p153 := eq_true p153
             replace q153 := eq_true q153
             have p154 : 0 ≤ (x5_1 : Int) := of_decide_eq_true u4_2
             have q154 : x5_1 < (l0.length : Int) := of_decide_eq_true u4_2
             obtain ⟨ad154, e154, hx154_0, hx154_1, hx154_2, hx154_3, hx154_4, hx154_5, hx154_6, hx154_7⟩ := at_T30 HR0.out x5_1 p154 q154
             obtain rfl : ad146 = ad154 := (by injection e154)
             replace hx154_0 := bc HB.out hx154_0
             replace hx154_1 := bc HB.out hx154_1
             replace hx154_2 := bc HB.out hx154_2
             replace hx154_3 := bc HB.out hx154_3
             replace hx154_4 := bc HB.out hx154_4
             replace hx154_5 := bc HB.out hx154_5
             replace hx154_6 := bc HB.out hx154_6
             replace hx154_7 := bc HB.out hx154_7
             replace p154 := eq_true p154
             replace q154 := eq_true q154
             have p155 : 0 ≤ (x5_1 : Int) := of_decide_eq_true u4_2
             have q155 : x5_1 < (l0.length : Int) := of_decide_eq_true u4_2
             obtain ⟨ad155, e155, hx155_0, hx155_1, hx155_2, hx155_3, hx155_4, hx155_5, hx155_6, hx155_7⟩ := at_T30 HR0.out x5_1 p155 q155
             obtain rfl : ad146 = ad155 := (by injection e155)
             replace hx155_0 := bc HB.out hx155_0
             replace hx155_1 := bc HB.out hx155_1
             replace hx155_2 := bc HB.out hx155_2
             replace hx155_3 := bc HB.out hx155_3
             replace hx155_4 := bc HB.out hx155_4
             replace hx155_5 := bc HB.out hx155_5
             replace hx155_6 := bc HB.out hx155_6
             replace hx155_7 := bc HB.out hx155_7
             replace p155 := eq_true p155
             replace q155 := eq_true q155
             try go_wp2
             go_ret
             exact ⟨by first | rfl | (simp [*] <;> rfl), by repeat (first | (with_reducible first | exact HB.out | apply below_alloc | apply pw_below_drewN | apply below_drew1) | exact HB.out)⟩
           ·rw [if_neg c13] at H
            have c13b0 : (((rd_T30 l0 x5_1).f5) == (wrap64 ((wrap64 ((wrap64 ((wrap64 ((wrap64 ((wrap64 (x1_1 + 1)) + 1)) + 1)) + 1)) + 1)) + 1))) = false := beq_eq_false_iff_ne.mpr c13
            have c13b1 : (((rd_T30 l0 x5_1).f5) != (wrap64 ((wrap64 ((wrap64 ((wrap64 ((wrap64 ((wrap64 (x1_1 + 1)) + 1)) + 1)) + 1)) + 1)) + 1))) = true := bne_iff_ne.mpr c13
            obtain rfl := Option.some.inj H
            try go_wp2
            have n0_ := Aside0.mk (below_drew1 HB.out)
            clear HB
            have HB := n0_
            clear n0_
            have p146 : 0 ≤ (x5_1 : Int) := of_decide_eq_true u4_2
            have q146 : x5_1 < (l0.length : Int) := of_decide_eq_true u4_2
            obtain ⟨ad146, e146, hx146_0, hx146_1, hx146_2, hx146_3, hx146_4, hx146_5, hx146_6, hx146_7⟩ := at_T30 HR0.out x5_1 p146 q146
            have hw146_7 := hx146_7
            have hw146_6 := hx146_6
            have hw146_5 := hx146_5
            have hw146_4 := hx146_4
            have hw146_3 := hx146_3
            have hw146_2 := hx146_2
            have hw146_1 := hx146_1
            have hw146_0 := hx146_0
            cases e146
            replace hx146_0 := bc HB.out hx146_0
            replace hx146_1 := bc HB.out hx146_1
            replace hx146_2 := bc HB.out hx146_2
            replace hx146_3 := bc HB.out hx146_3
            replace hx146_4 := bc HB.out hx146_4
            replace hx146_5 := bc HB.out hx146_5
            replace hx146_6 := bc HB.out hx146_6
            replace hx146_7 := bc HB.out hx146_7
            replace p146 := eq_true p146
            replace q146 := eq_true q146
            refine start_ (n := 8) (S := fun w' => w'.cell? (ad146.add ((x5_1).toNat * 8)) = some (.string ((rd_T30 l0 x5_1).f0)) ∧ w'.cell? ⟨(ad146.add ((x5_1).toNat * 8)).block, (ad146.add ((x5_1).toNat * 8)).off + 1, none⟩ = some (.int .i64 ((rd_T30 l0 x5_1).f1)) ∧ w'.cell? ⟨(ad146.add ((x5_1).toNat * 8)).block, (ad146.add ((x5_1).toNat * 8)).off + 2, none⟩ = some (.string ((rd_T30 l0 x5_1).f2)) ∧ w'.cell? ⟨(ad146.add ((x5_1).toNat * 8)).block, (ad146.add ((x5_1).toNat * 8)).off + 3, none⟩ = some (.int .i64 ((rd_T30 l0 x5_1).f3.f0)) ∧ w'.cell? ⟨(ad146.add ((x5_1).toNat * 8)).block, (ad146.add ((x5_1).toNat * 8)).off + 4, none⟩ = some (.int .i64 ((rd_T30 l0 x5_1).f3.f1)) ∧ w'.cell? ⟨(ad146.add ((x5_1).toNat * 8)).block, (ad146.add ((x5_1).toNat * 8)).off + 5, none⟩ = some (.int .i64 ((rd_T30 l0 x5_1).f4)) ∧ w'.cell? ⟨(ad146.add ((x5_1).toNat * 8)).block, (ad146.add ((x5_1).toNat * 8)).off + 6, none⟩ = some (.int .i64 ((rd_T30 l0 x5_1).f5)) ∧ w'.cell? ⟨(ad146.add ((x5_1).toNat * 8)).block, (ad146.add ((x5_1).toNat * 8)).off + 7, none⟩ = some (.int .i64 ((rd_T30 l0 x5_1).f6))) (ds := []) mk4_0 (by kernel_rfl) rfl rfl ⟨(bc HB.out hw146_0), (bc HB.out hw146_1), (bc HB.out hw146_2), (bc HB.out hw146_3), (bc HB.out hw146_4), (bc HB.out hw146_5), (bc HB.out hw146_6), (bc HB.out hw146_7)⟩ (fun hHeld => ?_); refine with_tabW laws_heldDeviceS.tab4 laws_heldDeviceS.bits4 (fun HT_ HW_ => ?_)
            generalize wr.drew = w23 at HB hx146_0 hx146_1 hx146_2 hx146_3 hx146_4 hx146_5 hx146_6 hx146_7 hHeld ⊢
            refine pz 0 12 mk4_1 (any_of HT_.out (by kernel_rfl)) ?_
            refine pz 1 13 mk4_2 (any_of HT_.out (by kernel_rfl)) ?_
            refine pz 2 14 mk4_3 (any_of HT_.out (by kernel_rfl)) ?_
            refine pz 3 15 mk4_4 (any_of HT_.out (by kernel_rfl)) ?_
            refine pz 5 17 mk4_5 (any_of HT_.out (by kernel_rfl)) ?_
            refine take_ (i := 4) (N := some 16) (v := ?_) (a' := ?_) mk4_6 rfl rfl (take_ofW HT_.out HW_.out (by kernel_rfl)) (fun _ _ _ h => h) (Or.inl ⟨by rfl, ?_⟩) hHeld ?_ ?_
            rotate_left
            ·rintro w' ⟨s0, s1, s2, s3, s4, s5, s6, s7⟩
             exact gs
            rotate_left
            ·exact ap
            refine one_ (i := 6) (N := some 18) mk4_7 rfl rfl (one_of HT_.out (by kernel_rfl)) (by decide) (fun K hK => ?_)
            refine goes_ Try.func68 (by kernel_rfl) rfl #[.int .i64 x1_1] (by rfl) rfl rfl u4_1 ?_
            with_reducible refine (laws_markText.calls k1 x1_1 t147 _ A5.out).mono ?_
            rintro e w24 ⟨rfl, hb⟩
            refine ⟨_, rfl, ?_⟩
            have n0_ := Aside0.mk (below_step u4_0 hb)
            clear HB
            have HB := n0_
            clear n0_
            (try clear hb)
            (try clear hb2)
            (try clear hk)
            (try clear hi)
            refine hK.out _ _ ⟨(bc HB.out hw146_0), (bc HB.out hw146_1), (bc HB.out hw146_2), (bc HB.out hw146_3), (bc HB.out hw146_4), (bc HB.out hw146_5), (bc HB.out hw146_6), (bc HB.out hw146_7)⟩ (fun hHeld => ?_)
            clear hK K
            refine norm_ (a' := ?_) ?_ ?_
            rotate_left
            ·show Act.put _ (some 18) _ = _
             simp only [Act.put, List.setIfInBounds_toArray, List.set_cons_zero, List.set_cons_succ, i64_w, i32_w]
             rfl
            refine pz 7 19 mk4_8 (any_of HT_.out (by kernel_rfl)) ?_
            refine done_ (done_of HT_.out (by kernel_rfl)) ?_
            have p148 : 0 ≤ (x5_1 : Int) := of_decide_eq_true u4_2
            have q148 : x5_1 < (l0.length : Int) := of_decide_eq_true u4_2
            obtain ⟨ad148, e148, hx148_0, hx148_1, hx148_2, hx148_3, hx148_4, hx148_5, hx148_6, hx148_7⟩ := at_T30 HR0.out x5_1 p148 q148
            obtain rfl : ad146 = ad148 := (by injection e148)
            replace hx148_0 := bc HB.out hx148_0
            replace hx148_1 := bc HB.out hx148_1
            replace hx148_2 := bc HB.out hx148_2
            replace hx148_3 := bc HB.out hx148_3
            replace hx148_4 := bc HB.out hx148_4
            replace hx148_5 := bc HB.out hx148_5
            replace hx148_6 := bc HB.out hx148_6
            replace hx148_7 := bc HB.out hx148_7
            replace p148 := eq_true p148
            replace q148 := eq_true q148
            try go_wp2
            have n0_ := Aside0.mk (below_drew1 HB.out)
            clear HB
            have HB := n0_
            clear n0_
            have p149 : 0 ≤ (x5_1 : Int) := of_decide_eq_true u4_2
            have q149 : x5_1 < (l0.length : Int) := of_decide_eq_true u4_2
            obtain ⟨ad149, e149, hx149_0, hx149_1, hx149_2, hx149_3, hx149_4, hx149_5, hx149_6, hx149_7⟩ := at_T30 HR0.out x5_1 p149 q149
            have hw149_7 := hx149_7
            have hw149_6 := hx149_6
            have hw149_5 := hx149_5
            have hw149_4 := hx149_4
            have hw149_3 := hx149_3
            have hw149_2 := hx149_2
            have hw149_1 := hx149_1
            have hw149_0 := hx149_0
            obtain rfl : ad146 = ad149 := (by injection e149)
            replace hx149_0 := bc HB.out hx149_0
            replace hx149_1 := bc HB.out hx149_1
            replace hx149_2 := bc HB.out hx149_2
            replace hx149_3 := bc HB.out hx149_3
            replace hx149_4 := bc HB.out hx149_4
            replace hx149_5 := bc HB.out hx149_5
            replace hx149_6 := bc HB.out hx149_6
            replace hx149_7 := bc HB.out hx149_7
            replace p149 := eq_true p149
            replace q149 := eq_true q149
            refine start_ (n := 8) (S := fun w' => w'.cell? (ad146.add ((x5_1).toNat * 8)) = some (.string ((rd_T30 l0 x5_1).f0)) ∧ w'.cell? ⟨(ad146.add ((x5_1).toNat * 8)).block, (ad146.add ((x5_1).toNat * 8)).off + 1, none⟩ = some (.int .i64 ((rd_T30 l0 x5_1).f1)) ∧ w'.cell? ⟨(ad146.add ((x5_1).toNat * 8)).block, (ad146.add ((x5_1).toNat * 8)).off + 2, none⟩ = some (.string ((rd_T30 l0 x5_1).f2)) ∧ w'.cell? ⟨(ad146.add ((x5_1).toNat * 8)).block, (ad146.add ((x5_1).toNat * 8)).off + 3, none⟩ = some (.int .i64 ((rd_T30 l0 x5_1).f3.f0)) ∧ w'.cell? ⟨(ad146.add ((x5_1).toNat * 8)).block, (ad146.add ((x5_1).toNat * 8)).off + 4, none⟩ = some (.int .i64 ((rd_T30 l0 x5_1).f3.f1)) ∧ w'.cell? ⟨(ad146.add ((x5_1).toNat * 8)).block, (ad146.add ((x5_1).toNat * 8)).off + 5, none⟩ = some (.int .i64 ((rd_T30 l0 x5_1).f4)) ∧ w'.cell? ⟨(ad146.add ((x5_1).toNat * 8)).block, (ad146.add ((x5_1).toNat * 8)).off + 6, none⟩ = some (.int .i64 ((rd_T30 l0 x5_1).f5)) ∧ w'.cell? ⟨(ad146.add ((x5_1).toNat * 8)).block, (ad146.add ((x5_1).toNat * 8)).off + 7, none⟩ = some (.int .i64 ((rd_T30 l0 x5_1).f6))) (ds := []) mk4_0 (by kernel_rfl) rfl rfl ⟨(bc HB.out hw149_0), (bc HB.out hw149_1), (bc HB.out hw149_2), (bc HB.out hw149_3), (bc HB.out hw149_4), (bc HB.out hw149_5), (bc HB.out hw149_6), (bc HB.out hw149_7)⟩ (fun hHeld => ?_); refine with_tabW laws_heldDeviceS.tab10 laws_heldDeviceS.bits10 (fun HT_ HW_ => ?_)
            generalize w24.drew = w25 at HB hx149_0 hx149_1 hx149_2 hx149_3 hx149_4 hx149_5 hx149_6 hx149_7 hHeld ⊢
            refine pz 0 31 mk4_1 (any_of HT_.out (by kernel_rfl)) ?_
            refine pz 1 32 mk4_2 (any_of HT_.out (by kernel_rfl)) ?_
            refine pz 2 33 mk4_3 (any_of HT_.out (by kernel_rfl)) ?_
            refine pz 3 34 mk4_4 (any_of HT_.out (by kernel_rfl)) ?_
            refine pz 5 36 mk4_5 (any_of HT_.out (by kernel_rfl)) ?_
            refine take_ (i := 4) (N := some 35) (v := ?_) (a' := ?_) mk4_6 rfl rfl (take_ofW HT_.out HW_.out (by kernel_rfl)) (fun _ _ _ h => h) (Or.inl ⟨by rfl, ?_⟩) hHeld ?_ ?_
            rotate_left
            ·rintro w' ⟨s0, s1, s2, s3, s4, s5, s6, s7⟩
             exact gs
            rotate_left
            ·exact ap
            refine one_ (i := 6) (N := some 37) mk4_7 rfl rfl (one_of HT_.out (by kernel_rfl)) (by decide) (fun K hK => ?_)
            refine goes_ Try.func68 (by kernel_rfl) rfl #[.int .i64 (wrap64 ((wrap64 (x1_1 + 1)) + 1))] (by rfl) rfl rfl u4_1 ?_
            with_reducible refine (laws_markText.calls k1 (wrap64 ((wrap64 (x1_1 + 1)) + 1)) t150 _ A8.out).mono ?_
            rintro e w26 ⟨rfl, hb⟩
            refine ⟨_, rfl, ?_⟩
            have n0_ := Aside0.mk (below_step u4_0 hb)
            clear HB
            have HB := n0_
            clear n0_
            (try clear hb)
            (try clear hb2)
            (try clear hk)
            (try clear hi)
            refine hK.out _ _ ⟨(bc HB.out hw149_0), (bc HB.out hw149_1), (bc HB.out hw149_2), (bc HB.out hw149_3), (bc HB.out hw149_4), (bc HB.out hw149_5), (bc HB.out hw149_6), (bc HB.out hw149_7)⟩ (fun hHeld => ?_)
            clear hK K
            refine norm_ (a' := ?_) ?_ ?_
            rotate_left
            ·show Act.put _ (some 37) _ = _
             simp only [Act.put, List.setIfInBounds_toArray, List.set_cons_zero, List.set_cons_succ, i64_w, i32_w]
             rfl
            refine pz 7 38 mk4_8 (any_of HT_.out (by kernel_rfl)) ?_
            refine done_ (done_of HT_.out (by kernel_rfl)) ?_
            have p151 : 0 ≤ (x5_1 : Int) := of_decide_eq_true u4_2
            have q151 : x5_1 < (l0.length : Int) := of_decide_eq_true u4_2
            obtain ⟨ad151, e151, hx151_0, hx151_1, hx151_2, hx151_3, hx151_4, hx151_5, hx151_6, hx151_7⟩ := at_T30 HR0.out x5_1 p151 q151
            obtain rfl : ad146 = ad151 := (by injection e151)
            replace hx151_0 := bc HB.out hx151_0
            replace hx151_1 := bc HB.out hx151_1
            replace hx151_2 := bc HB.out hx151_2
            replace hx151_3 := bc HB.out hx151_3
            replace hx151_4 := bc HB.out hx151_4
            replace hx151_5 := bc HB.out hx151_5
            replace hx151_6 := bc HB.out hx151_6
            replace hx151_7 := bc HB.out hx151_7
            replace p151 := eq_true p151
            replace q151 := eq_true q151
            have p152 : 0 ≤ (x5_1 : Int) := of_decide_eq_true u4_2
            have q152 : x5_1 < (l0.length : Int) := of_decide_eq_true u4_2
            obtain ⟨ad152, e152, hx152_0, hx152_1, hx152_2, hx152_3, hx152_4, hx152_5, hx152_6, hx152_7⟩ := at_T30 HR0.out x5_1 p152 q152
            obtain rfl : ad146 = ad152 := (by injection e152)
            replace hx152_0 := bc HB.out hx152_0
            replace hx152_1 := bc HB.out hx152_1
            replace hx152_2 := bc HB.out hx152_2
            replace hx152_3 := bc HB.out hx152_3
            replace hx152_4 := bc HB.out hx152_4
            replace hx152_5 := bc HB.out hx152_5
            replace hx152_6 := bc HB.out hx152_6
            replace hx152_7 := bc HB.out hx152_7
            replace p152 := eq_true p152
            replace q152 := eq_true q152
            have p153 : 0 ≤ (x5_1 : Int) := of_decide_eq_true u4_2
            have q153 : x5_1 < (l0.length : Int) := of_decide_eq_true u4_2
            obtain ⟨ad153, e153, hx153_0, hx153_1, hx153_2, hx153_3, hx153_4, hx153_5, hx153_6, hx153_7⟩ := at_T30 HR0.out x5_1 p153 q153
            obtain rfl : ad146 = ad153 := (by injection e153)
            replace hx153_0 := bc HB.out hx153_0
            replace hx153_1 := bc HB.out hx153_1
            replace hx153_2 := bc HB.out hx153_2
            replace hx153_3 := bc HB.out hx153_3
            replace hx153_4 := bc HB.out hx153_4
            replace hx153_5 := bc HB.out hx153_5
            replace hx153_6 := bc HB.out hx153_6
            replace hx153_7 := bc HB.out hx153_7
            replace p153 := eq_true p153
            replace q153 := eq_true q153
            have p154 : 0 ≤ (x5_1 : Int) := of_decide_eq_true u4_2
            have q154 : x5_1 < (l0.length : Int) := of_decide_eq_true u4_2
            obtain ⟨ad154, e154, hx154_0, hx154_1, hx154_2, hx154_3, hx154_4, hx154_5, hx154_6, hx154_7⟩ := at_T30 HR0.out x5_1 p154 q154
            obtain rfl : ad146 = ad154 := (by injection e154)
            replace hx154_0 := bc HB.out hx154_0
            replace hx154_1 := bc HB.out hx154_1
            replace hx154_2 := bc HB.out hx154_2
            replace hx154_3 := bc HB.out hx154_3
            replace hx154_4 := bc HB.out hx154_4
            replace hx154_5 := bc HB.out hx154_5
            replace hx154_6 := bc HB.out hx154_6
            replace hx154_7 := bc HB.out hx154_7
            replace p154 := eq_true p154
            replace q154 := eq_true q154
            try go_wp2
            go_ret
            exact ⟨by first | rfl | (simp [*] <;> rfl), by repeat (first | (with_reducible first | exact HB.out | apply below_alloc | apply pw_below_drewN | apply below_drew1) | exact HB.out)⟩
          ·rw [if_neg c12] at H
           have c12b0 : (((rd_T30 l0 x5_1).f4) == (wrap64 ((wrap64 ((wrap64 ((wrap64 ((wrap64 (x1_1 + 1)) + 1)) + 1)) + 1)) + 1))) = false := beq_eq_false_iff_ne.mpr c12
           have c12b1 : (((rd_T30 l0 x5_1).f4) != (wrap64 ((wrap64 ((wrap64 ((wrap64 ((wrap64 (x1_1 + 1)) + 1)) + 1)) + 1)) + 1))) = true := bne_iff_ne.mpr c12
           obtain rfl := Option.some.inj H
           try go_wp2
           have n0_ := Aside0.mk (below_drew1 HB.out)
           clear HB
           have HB := n0_
           clear n0_
           have p146 : 0 ≤ (x5_1 : Int) := of_decide_eq_true u4_2
           have q146 : x5_1 < (l0.length : Int) := of_decide_eq_true u4_2
           obtain ⟨ad146, e146, hx146_0, hx146_1, hx146_2, hx146_3, hx146_4, hx146_5, hx146_6, hx146_7⟩ := at_T30 HR0.out x5_1 p146 q146
           have hw146_7 := hx146_7
           have hw146_6 := hx146_6
           have hw146_5 := hx146_5
           have hw146_4 := hx146_4
           have hw146_3 := hx146_3
           have hw146_2 := hx146_2
           have hw146_1 := hx146_1
           have hw146_0 := hx146_0
           cases e146
           replace hx146_0 := bc HB.out hx146_0
           replace hx146_1 := bc HB.out hx146_1
           replace hx146_2 := bc HB.out hx146_2
           replace hx146_3 := bc HB.out hx146_3
           replace hx146_4 := bc HB.out hx146_4
           replace hx146_5 := bc HB.out hx146_5
           replace hx146_6 := bc HB.out hx146_6
           replace hx146_7 := bc HB.out hx146_7
           replace p146 := eq_true p146
           replace q146 := eq_true q146
           refine start_ (n := 8) (S := fun w' => w'.cell? (ad146.add ((x5_1).toNat * 8)) = some (.string ((rd_T30 l0 x5_1).f0)) ∧ w'.cell? ⟨(ad146.add ((x5_1).toNat * 8)).block, (ad146.add ((x5_1).toNat * 8)).off + 1, none⟩ = some (.int .i64 ((rd_T30 l0 x5_1).f1)) ∧ w'.cell? ⟨(ad146.add ((x5_1).toNat * 8)).block, (ad146.add ((x5_1).toNat * 8)).off + 2, none⟩ = some (.string ((rd_T30 l0 x5_1).f2)) ∧ w'.cell? ⟨(ad146.add ((x5_1).toNat * 8)).block, (ad146.add ((x5_1).toNat * 8)).off + 3, none⟩ = some (.int .i64 ((rd_T30 l0 x5_1).f3.f0)) ∧ w'.cell? ⟨(ad146.add ((x5_1).toNat * 8)).block, (ad146.add ((x5_1).toNat * 8)).off + 4, none⟩ = some (.int .i64 ((rd_T30 l0 x5_1).f3.f1)) ∧ w'.cell? ⟨(ad146.add ((x5_1).toNat * 8)).block, (ad146.add ((x5_1).toNat * 8)).off + 5, none⟩ = some (.int .i64 ((rd_T30 l0 x5_1).f4)) ∧ w'.cell? ⟨(ad146.add ((x5_1).toNat * 8)).block, (ad146.add ((x5_1).toNat * 8)).off + 6, none⟩ = some (.int .i64 ((rd_T30 l0 x5_1).f5)) ∧ w'.cell? ⟨(ad146.add ((x5_1).toNat * 8)).block, (ad146.add ((x5_1).toNat * 8)).off + 7, none⟩ = some (.int .i64 ((rd_T30 l0 x5_1).f6))) (ds := []) mk4_0 (by kernel_rfl) rfl rfl ⟨(bc HB.out hw146_0), (bc HB.out hw146_1), (bc HB.out hw146_2), (bc HB.out hw146_3), (bc HB.out hw146_4), (bc HB.out hw146_5), (bc HB.out hw146_6), (bc HB.out hw146_7)⟩ (fun hHeld => ?_); refine with_tabW laws_heldDeviceS.tab4 laws_heldDeviceS.bits4 (fun HT_ HW_ => ?_)
           generalize wr.drew = w27 at HB hx146_0 hx146_1 hx146_2 hx146_3 hx146_4 hx146_5 hx146_6 hx146_7 hHeld ⊢
           refine pz 0 12 mk4_1 (any_of HT_.out (by kernel_rfl)) ?_
           refine pz 1 13 mk4_2 (any_of HT_.out (by kernel_rfl)) ?_
           refine pz 2 14 mk4_3 (any_of HT_.out (by kernel_rfl)) ?_
           refine pz 3 15 mk4_4 (any_of HT_.out (by kernel_rfl)) ?_
           refine pz 5 17 mk4_5 (any_of HT_.out (by kernel_rfl)) ?_
           refine take_ (i := 4) (N := some 16) (v := ?_) (a' := ?_) mk4_6 rfl rfl (take_ofW HT_.out HW_.out (by kernel_rfl)) (fun _ _ _ h => h) (Or.inl ⟨by rfl, ?_⟩) hHeld ?_ ?_
           rotate_left
           ·rintro w' ⟨s0, s1, s2, s3, s4, s5, s6, s7⟩
            exact gs
           rotate_left
           ·exact ap
           refine one_ (i := 6) (N := some 18) mk4_7 rfl rfl (one_of HT_.out (by kernel_rfl)) (by decide) (fun K hK => ?_)
           refine goes_ Try.func68 (by kernel_rfl) rfl #[.int .i64 x1_1] (by rfl) rfl rfl u4_1 ?_
           with_reducible refine (laws_markText.calls k1 x1_1 t147 _ A5.out).mono ?_
           rintro e w28 ⟨rfl, hb⟩
           refine ⟨_, rfl, ?_⟩
           have n0_ := Aside0.mk (below_step u4_0 hb)
           clear HB
           have HB := n0_
           clear n0_
           (try clear hb)
           (try clear hb2)
           (try clear hk)
           (try clear hi)
           refine hK.out _ _ ⟨(bc HB.out hw146_0), (bc HB.out hw146_1), (bc HB.out hw146_2), (bc HB.out hw146_3), (bc HB.out hw146_4), (bc HB.out hw146_5), (bc HB.out hw146_6), (bc HB.out hw146_7)⟩ (fun hHeld => ?_)
           clear hK K
           refine norm_ (a' := ?_) ?_ ?_
           rotate_left
           ·show Act.put _ (some 18) _ = _
            simp only [Act.put, List.setIfInBounds_toArray, List.set_cons_zero, List.set_cons_succ, i64_w, i32_w]
            rfl
           refine pz 7 19 mk4_8 (any_of HT_.out (by kernel_rfl)) ?_
           refine done_ (done_of HT_.out (by kernel_rfl)) ?_
           have p148 : 0 ≤ (x5_1 : Int) := of_decide_eq_true u4_2
           have q148 : x5_1 < (l0.length : Int) := of_decide_eq_true u4_2
           obtain ⟨ad148, e148, hx148_0, hx148_1, hx148_2, hx148_3, hx148_4, hx148_5, hx148_6, hx148_7⟩ := at_T30 HR0.out x5_1 p148 q148
           obtain rfl : ad146 = ad148 := (by injection e148)
           replace hx148_0 := bc HB.out hx148_0
           replace hx148_1 := bc HB.out hx148_1
           replace hx148_2 := bc HB.out hx148_2
           replace hx148_3 := bc HB.out hx148_3
           replace hx148_4 := bc HB.out hx148_4
           replace hx148_5 := bc HB.out hx148_5
           replace hx148_6 := bc HB.out hx148_6
           replace hx148_7 := bc HB.out hx148_7
           replace p148 := eq_true p148
           replace q148 := eq_true q148
           try go_wp2
           have n0_ := Aside0.mk (below_drew1 HB.out)
           clear HB
           have HB := n0_
           clear n0_
           have p149 : 0 ≤ (x5_1 : Int) := of_decide_eq_true u4_2
           have q149 : x5_1 < (l0.length : Int) := of_decide_eq_true u4_2
           obtain ⟨ad149, e149, hx149_0, hx149_1, hx149_2, hx149_3, hx149_4, hx149_5, hx149_6, hx149_7⟩ := at_T30 HR0.out x5_1 p149 q149
           have hw149_7 := hx149_7
           have hw149_6 := hx149_6
           have hw149_5 := hx149_5
           have hw149_4 := hx149_4
           have hw149_3 := hx149_3
           have hw149_2 := hx149_2
           have hw149_1 := hx149_1
           have hw149_0 := hx149_0
           obtain rfl : ad146 = ad149 := (by injection e149)
           replace hx149_0 := bc HB.out hx149_0
           replace hx149_1 := bc HB.out hx149_1
           replace hx149_2 := bc HB.out hx149_2
           replace hx149_3 := bc HB.out hx149_3
           replace hx149_4 := bc HB.out hx149_4
           replace hx149_5 := bc HB.out hx149_5
           replace hx149_6 := bc HB.out hx149_6
           replace hx149_7 := bc HB.out hx149_7
           replace p149 := eq_true p149
           replace q149 := eq_true q149
           refine start_ (n := 8) (S := fun w' => w'.cell? (ad146.add ((x5_1).toNat * 8)) = some (.string ((rd_T30 l0 x5_1).f0)) ∧ w'.cell? ⟨(ad146.add ((x5_1).toNat * 8)).block, (ad146.add ((x5_1).toNat * 8)).off + 1, none⟩ = some (.int .i64 ((rd_T30 l0 x5_1).f1)) ∧ w'.cell? ⟨(ad146.add ((x5_1).toNat * 8)).block, (ad146.add ((x5_1).toNat * 8)).off + 2, none⟩ = some (.string ((rd_T30 l0 x5_1).f2)) ∧ w'.cell? ⟨(ad146.add ((x5_1).toNat * 8)).block, (ad146.add ((x5_1).toNat * 8)).off + 3, none⟩ = some (.int .i64 ((rd_T30 l0 x5_1).f3.f0)) ∧ w'.cell? ⟨(ad146.add ((x5_1).toNat * 8)).block, (ad146.add ((x5_1).toNat * 8)).off + 4, none⟩ = some (.int .i64 ((rd_T30 l0 x5_1).f3.f1)) ∧ w'.cell? ⟨(ad146.add ((x5_1).toNat * 8)).block, (ad146.add ((x5_1).toNat * 8)).off + 5, none⟩ = some (.int .i64 ((rd_T30 l0 x5_1).f4)) ∧ w'.cell? ⟨(ad146.add ((x5_1).toNat * 8)).block, (ad146.add ((x5_1).toNat * 8)).off + 6, none⟩ = some (.int .i64 ((rd_T30 l0 x5_1).f5)) ∧ w'.cell? ⟨(ad146.add ((x5_1).toNat * 8)).block, (ad146.add ((x5_1).toNat * 8)).off + 7, none⟩ = some (.int .i64 ((rd_T30 l0 x5_1).f6))) (ds := []) mk4_0 (by kernel_rfl) rfl rfl ⟨(bc HB.out hw149_0), (bc HB.out hw149_1), (bc HB.out hw149_2), (bc HB.out hw149_3), (bc HB.out hw149_4), (bc HB.out hw149_5), (bc HB.out hw149_6), (bc HB.out hw149_7)⟩ (fun hHeld => ?_); refine with_tabW laws_heldDeviceS.tab10 laws_heldDeviceS.bits10 (fun HT_ HW_ => ?_)
           generalize w28.drew = w29 at HB hx149_0 hx149_1 hx149_2 hx149_3 hx149_4 hx149_5 hx149_6 hx149_7 hHeld ⊢
           refine pz 0 31 mk4_1 (any_of HT_.out (by kernel_rfl)) ?_
           refine pz 1 32 mk4_2 (any_of HT_.out (by kernel_rfl)) ?_
           refine pz 2 33 mk4_3 (any_of HT_.out (by kernel_rfl)) ?_
           refine pz 3 34 mk4_4 (any_of HT_.out (by kernel_rfl)) ?_
           refine pz 5 36 mk4_5 (any_of HT_.out (by kernel_rfl)) ?_
           refine take_ (i := 4) (N := some 35) (v := ?_) (a' := ?_) mk4_6 rfl rfl (take_ofW HT_.out HW_.out (by kernel_rfl)) (fun _ _ _ h => h) (Or.inl ⟨by rfl, ?_⟩) hHeld ?_ ?_
           rotate_left
           ·rintro w' ⟨s0, s1, s2, s3, s4, s5, s6, s7⟩
            exact gs
           rotate_left
           ·exact ap
           refine one_ (i := 6) (N := some 37) mk4_7 rfl rfl (one_of HT_.out (by kernel_rfl)) (by decide) (fun K hK => ?_)
           refine goes_ Try.func68 (by kernel_rfl) rfl #[.int .i64 (wrap64 ((wrap64 (x1_1 + 1)) + 1))] (by rfl) rfl rfl u4_1 ?_
           with_reducible refine (laws_markText.calls k1 (wrap64 ((wrap64 (x1_1 + 1)) + 1)) t150 _ A8.out).mono ?_
           rintro e w30 ⟨rfl, hb⟩
           refine ⟨_, rfl, ?_⟩
           have n0_ := Aside0.mk (below_step u4_0 hb)
           clear HB
           have HB := n0_
           clear n0_
           (try clear hb)
           (try clear hb2)
           (try clear hk)
           (try clear hi)
           refine hK.out _ _ ⟨(bc HB.out hw149_0), (bc HB.out hw149_1), (bc HB.out hw149_2), (bc HB.out hw149_3), (bc HB.out hw149_4), (bc HB.out hw149_5), (bc HB.out hw149_6), (bc HB.out hw149_7)⟩ (fun hHeld => ?_)
           clear hK K
           refine norm_ (a' := ?_) ?_ ?_
           rotate_left
           ·show Act.put _ (some 37) _ = _
            simp only [Act.put, List.setIfInBounds_toArray, List.set_cons_zero, List.set_cons_succ, i64_w, i32_w]
            rfl
           refine pz 7 38 mk4_8 (any_of HT_.out (by kernel_rfl)) ?_
           refine done_ (done_of HT_.out (by kernel_rfl)) ?_
           have p151 : 0 ≤ (x5_1 : Int) := of_decide_eq_true u4_2
           have q151 : x5_1 < (l0.length : Int) := of_decide_eq_true u4_2
           obtain ⟨ad151, e151, hx151_0, hx151_1, hx151_2, hx151_3, hx151_4, hx151_5, hx151_6, hx151_7⟩ := at_T30 HR0.out x5_1 p151 q151
           obtain rfl : ad146 = ad151 := (by injection e151)
           replace hx151_0 := bc HB.out hx151_0
           replace hx151_1 := bc HB.out hx151_1
           replace hx151_2 := bc HB.out hx151_2
           replace hx151_3 := bc HB.out hx151_3
           replace hx151_4 := bc HB.out hx151_4
           replace hx151_5 := bc HB.out hx151_5
           replace hx151_6 := bc HB.out hx151_6
           replace hx151_7 := bc HB.out hx151_7
           replace p151 := eq_true p151
           replace q151 := eq_true q151
           have p152 : 0 ≤ (x5_1 : Int) := of_decide_eq_true u4_2
           have q152 : x5_1 < (l0.length : Int) := of_decide_eq_true u4_2
           obtain ⟨ad152, e152, hx152_0, hx152_1, hx152_2, hx152_3, hx152_4, hx152_5, hx152_6, hx152_7⟩ := at_T30 HR0.out x5_1 p152 q152
           obtain rfl : ad146 = ad152 := (by injection e152)
           replace hx152_0 := bc HB.out hx152_0
           replace hx152_1 := bc HB.out hx152_1
           replace hx152_2 := bc HB.out hx152_2
           replace hx152_3 := bc HB.out hx152_3
           replace hx152_4 := bc HB.out hx152_4
           replace hx152_5 := bc HB.out hx152_5
           replace hx152_6 := bc HB.out hx152_6
           replace hx152_7 := bc HB.out hx152_7
           replace p152 := eq_true p152
           replace q152 := eq_true q152
           have p153 : 0 ≤ (x5_1 : Int) := of_decide_eq_true u4_2
           have q153 : x5_1 < (l0.length : Int) := of_decide_eq_true u4_2
           obtain ⟨ad153, e153, hx153_0, hx153_1, hx153_2, hx153_3, hx153_4, hx153_5, hx153_6, hx153_7⟩ := at_T30 HR0.out x5_1 p153 q153
           obtain rfl : ad146 = ad153 := (by injection e153)
           replace hx153_0 := bc HB.out hx153_0
           replace hx153_1 := bc HB.out hx153_1
           replace hx153_2 := bc HB.out hx153_2
           replace hx153_3 := bc HB.out hx153_3
           replace hx153_4 := bc HB.out hx153_4
           replace hx153_5 := bc HB.out hx153_5
           replace hx153_6 := bc HB.out hx153_6
           replace hx153_7 := bc HB.out hx153_7
           replace p153 := eq_true p153
           replace q153 := eq_true q153
           try go_wp2
           go_ret
           exact ⟨by first | rfl | (simp [*] <;> rfl), by repeat (first | (with_reducible first | exact HB.out | apply below_alloc | apply pw_below_drewN | apply below_drew1) | exact HB.out)⟩
         ·rw [if_neg c11] at H
          have c11b0 : (((rd_T30 l0 x5_1).f3.f1) == (wrap64 ((wrap64 ((wrap64 ((wrap64 (x1_1 + 1)) + 1)) + 1)) + 1))) = false := beq_eq_false_iff_ne.mpr c11
          have c11b1 : (((rd_T30 l0 x5_1).f3.f1) != (wrap64 ((wrap64 ((wrap64 ((wrap64 (x1_1 + 1)) + 1)) + 1)) + 1))) = true := bne_iff_ne.mpr c11
          obtain rfl := Option.some.inj H
          try go_wp2
          have n0_ := Aside0.mk (below_drew1 HB.out)
          clear HB
          have HB := n0_
          clear n0_
          have p146 : 0 ≤ (x5_1 : Int) := of_decide_eq_true u4_2
          have q146 : x5_1 < (l0.length : Int) := of_decide_eq_true u4_2
          obtain ⟨ad146, e146, hx146_0, hx146_1, hx146_2, hx146_3, hx146_4, hx146_5, hx146_6, hx146_7⟩ := at_T30 HR0.out x5_1 p146 q146
          have hw146_7 := hx146_7
          have hw146_6 := hx146_6
          have hw146_5 := hx146_5
          have hw146_4 := hx146_4
          have hw146_3 := hx146_3
          have hw146_2 := hx146_2
          have hw146_1 := hx146_1
          have hw146_0 := hx146_0
          cases e146
          replace hx146_0 := bc HB.out hx146_0
          replace hx146_1 := bc HB.out hx146_1
          replace hx146_2 := bc HB.out hx146_2
          replace hx146_3 := bc HB.out hx146_3
          replace hx146_4 := bc HB.out hx146_4
          replace hx146_5 := bc HB.out hx146_5
          replace hx146_6 := bc HB.out hx146_6
          replace hx146_7 := bc HB.out hx146_7
          replace p146 := eq_true p146
          replace q146 := eq_true q146
          refine start_ (n := 8) (S := fun w' => w'.cell? (ad146.add ((x5_1).toNat * 8)) = some (.string ((rd_T30 l0 x5_1).f0)) ∧ w'.cell? ⟨(ad146.add ((x5_1).toNat * 8)).block, (ad146.add ((x5_1).toNat * 8)).off + 1, none⟩ = some (.int .i64 ((rd_T30 l0 x5_1).f1)) ∧ w'.cell? ⟨(ad146.add ((x5_1).toNat * 8)).block, (ad146.add ((x5_1).toNat * 8)).off + 2, none⟩ = some (.string ((rd_T30 l0 x5_1).f2)) ∧ w'.cell? ⟨(ad146.add ((x5_1).toNat * 8)).block, (ad146.add ((x5_1).toNat * 8)).off + 3, none⟩ = some (.int .i64 ((rd_T30 l0 x5_1).f3.f0)) ∧ w'.cell? ⟨(ad146.add ((x5_1).toNat * 8)).block, (ad146.add ((x5_1).toNat * 8)).off + 4, none⟩ = some (.int .i64 ((rd_T30 l0 x5_1).f3.f1)) ∧ w'.cell? ⟨(ad146.add ((x5_1).toNat * 8)).block, (ad146.add ((x5_1).toNat * 8)).off + 5, none⟩ = some (.int .i64 ((rd_T30 l0 x5_1).f4)) ∧ w'.cell? ⟨(ad146.add ((x5_1).toNat * 8)).block, (ad146.add ((x5_1).toNat * 8)).off + 6, none⟩ = some (.int .i64 ((rd_T30 l0 x5_1).f5)) ∧ w'.cell? ⟨(ad146.add ((x5_1).toNat * 8)).block, (ad146.add ((x5_1).toNat * 8)).off + 7, none⟩ = some (.int .i64 ((rd_T30 l0 x5_1).f6))) (ds := []) mk4_0 (by kernel_rfl) rfl rfl ⟨(bc HB.out hw146_0), (bc HB.out hw146_1), (bc HB.out hw146_2), (bc HB.out hw146_3), (bc HB.out hw146_4), (bc HB.out hw146_5), (bc HB.out hw146_6), (bc HB.out hw146_7)⟩ (fun hHeld => ?_); refine with_tabW laws_heldDeviceS.tab4 laws_heldDeviceS.bits4 (fun HT_ HW_ => ?_)
          generalize wr.drew = w31 at HB hx146_0 hx146_1 hx146_2 hx146_3 hx146_4 hx146_5 hx146_6 hx146_7 hHeld ⊢
          refine pz 0 12 mk4_1 (any_of HT_.out (by kernel_rfl)) ?_
          refine pz 1 13 mk4_2 (any_of HT_.out (by kernel_rfl)) ?_
          refine pz 2 14 mk4_3 (any_of HT_.out (by kernel_rfl)) ?_
          refine pz 3 15 mk4_4 (any_of HT_.out (by kernel_rfl)) ?_
          refine pz 5 17 mk4_5 (any_of HT_.out (by kernel_rfl)) ?_
          refine take_ (i := 4) (N := some 16) (v := ?_) (a' := ?_) mk4_6 rfl rfl (take_ofW HT_.out HW_.out (by kernel_rfl)) (fun _ _ _ h => h) (Or.inl ⟨by rfl, ?_⟩) hHeld ?_ ?_
          rotate_left
          ·rintro w' ⟨s0, s1, s2, s3, s4, s5, s6, s7⟩
           exact gs
          rotate_left
          ·exact ap
          refine one_ (i := 6) (N := some 18) mk4_7 rfl rfl (one_of HT_.out (by kernel_rfl)) (by decide) (fun K hK => ?_)
          refine goes_ Try.func68 (by kernel_rfl) rfl #[.int .i64 x1_1] (by rfl) rfl rfl u4_1 ?_
          with_reducible refine (laws_markText.calls k1 x1_1 t147 _ A5.out).mono ?_
          rintro e w32 ⟨rfl, hb⟩
          refine ⟨_, rfl, ?_⟩
          have n0_ := Aside0.mk (below_step u4_0 hb)
          clear HB
          have HB := n0_
          clear n0_
          (try clear hb)
          (try clear hb2)
          (try clear hk)
          (try clear hi)
          refine hK.out _ _ ⟨(bc HB.out hw146_0), (bc HB.out hw146_1), (bc HB.out hw146_2), (bc HB.out hw146_3), (bc HB.out hw146_4), (bc HB.out hw146_5), (bc HB.out hw146_6), (bc HB.out hw146_7)⟩ (fun hHeld => ?_)
          clear hK K
          refine norm_ (a' := ?_) ?_ ?_
          rotate_left
          ·show Act.put _ (some 18) _ = _
           simp only [Act.put, List.setIfInBounds_toArray, List.set_cons_zero, List.set_cons_succ, i64_w, i32_w]
           rfl
          refine pz 7 19 mk4_8 (any_of HT_.out (by kernel_rfl)) ?_
          refine done_ (done_of HT_.out (by kernel_rfl)) ?_
          have p148 : 0 ≤ (x5_1 : Int) := of_decide_eq_true u4_2
          have q148 : x5_1 < (l0.length : Int) := of_decide_eq_true u4_2
          obtain ⟨ad148, e148, hx148_0, hx148_1, hx148_2, hx148_3, hx148_4, hx148_5, hx148_6, hx148_7⟩ := at_T30 HR0.out x5_1 p148 q148
          obtain rfl : ad146 = ad148 := (by injection e148)
          replace hx148_0 := bc HB.out hx148_0
          replace hx148_1 := bc HB.out hx148_1
          replace hx148_2 := bc HB.out hx148_2
          replace hx148_3 := bc HB.out hx148_3
          replace hx148_4 := bc HB.out hx148_4
          replace hx148_5 := bc HB.out hx148_5
          replace hx148_6 := bc HB.out hx148_6
          replace hx148_7 := bc HB.out hx148_7
          replace p148 := eq_true p148
          replace q148 := eq_true q148
          try go_wp2
          have n0_ := Aside0.mk (below_drew1 HB.out)
          clear HB
          have HB := n0_
          clear n0_
          have p149 : 0 ≤ (x5_1 : Int) := of_decide_eq_true u4_2
          have q149 : x5_1 < (l0.length : Int) := of_decide_eq_true u4_2
          obtain ⟨ad149, e149, hx149_0, hx149_1, hx149_2, hx149_3, hx149_4, hx149_5, hx149_6, hx149_7⟩ := at_T30 HR0.out x5_1 p149 q149
          have hw149_7 := hx149_7
          have hw149_6 := hx149_6
          have hw149_5 := hx149_5
          have hw149_4 := hx149_4
          have hw149_3 := hx149_3
          have hw149_2 := hx149_2
          have hw149_1 := hx149_1
          have hw149_0 := hx149_0
          obtain rfl : ad146 = ad149 := (by injection e149)
          replace hx149_0 := bc HB.out hx149_0
          replace hx149_1 := bc HB.out hx149_1
          replace hx149_2 := bc HB.out hx149_2
          replace hx149_3 := bc HB.out hx149_3
          replace hx149_4 := bc HB.out hx149_4
          replace hx149_5 := bc HB.out hx149_5
          replace hx149_6 := bc HB.out hx149_6
          replace hx149_7 := bc HB.out hx149_7
          replace p149 := eq_true p149
          replace q149 := eq_true q149
          refine start_ (n := 8) (S := fun w' => w'.cell? (ad146.add ((x5_1).toNat * 8)) = some (.string ((rd_T30 l0 x5_1).f0)) ∧ w'.cell? ⟨(ad146.add ((x5_1).toNat * 8)).block, (ad146.add ((x5_1).toNat * 8)).off + 1, none⟩ = some (.int .i64 ((rd_T30 l0 x5_1).f1)) ∧ w'.cell? ⟨(ad146.add ((x5_1).toNat * 8)).block, (ad146.add ((x5_1).toNat * 8)).off + 2, none⟩ = some (.string ((rd_T30 l0 x5_1).f2)) ∧ w'.cell? ⟨(ad146.add ((x5_1).toNat * 8)).block, (ad146.add ((x5_1).toNat * 8)).off + 3, none⟩ = some (.int .i64 ((rd_T30 l0 x5_1).f3.f0)) ∧ w'.cell? ⟨(ad146.add ((x5_1).toNat * 8)).block, (ad146.add ((x5_1).toNat * 8)).off + 4, none⟩ = some (.int .i64 ((rd_T30 l0 x5_1).f3.f1)) ∧ w'.cell? ⟨(ad146.add ((x5_1).toNat * 8)).block, (ad146.add ((x5_1).toNat * 8)).off + 5, none⟩ = some (.int .i64 ((rd_T30 l0 x5_1).f4)) ∧ w'.cell? ⟨(ad146.add ((x5_1).toNat * 8)).block, (ad146.add ((x5_1).toNat * 8)).off + 6, none⟩ = some (.int .i64 ((rd_T30 l0 x5_1).f5)) ∧ w'.cell? ⟨(ad146.add ((x5_1).toNat * 8)).block, (ad146.add ((x5_1).toNat * 8)).off + 7, none⟩ = some (.int .i64 ((rd_T30 l0 x5_1).f6))) (ds := []) mk4_0 (by kernel_rfl) rfl rfl ⟨(bc HB.out hw149_0), (bc HB.out hw149_1), (bc HB.out hw149_2), (bc HB.out hw149_3), (bc HB.out hw149_4), (bc HB.out hw149_5), (bc HB.out hw149_6), (bc HB.out hw149_7)⟩ (fun hHeld => ?_); refine with_tabW laws_heldDeviceS.tab10 laws_heldDeviceS.bits10 (fun HT_ HW_ => ?_)
          generalize w32.drew = w33 at HB hx149_0 hx149_1 hx149_2 hx149_3 hx149_4 hx149_5 hx149_6 hx149_7 hHeld ⊢
          refine pz 0 31 mk4_1 (any_of HT_.out (by kernel_rfl)) ?_
          refine pz 1 32 mk4_2 (any_of HT_.out (by kernel_rfl)) ?_
          refine pz 2 33 mk4_3 (any_of HT_.out (by kernel_rfl)) ?_
          refine pz 3 34 mk4_4 (any_of HT_.out (by kernel_rfl)) ?_
          refine pz 5 36 mk4_5 (any_of HT_.out (by kernel_rfl)) ?_
          refine take_ (i := 4) (N := some 35) (v := ?_) (a' := ?_) mk4_6 rfl rfl (take_ofW HT_.out HW_.out (by kernel_rfl)) (fun _ _ _ h => h) (Or.inl ⟨by rfl, ?_⟩) hHeld ?_ ?_
          rotate_left
          ·rintro w' ⟨s0, s1, s2, s3, s4, s5, s6, s7⟩
           exact gs
          rotate_left
          ·exact ap
          refine one_ (i := 6) (N := some 37) mk4_7 rfl rfl (one_of HT_.out (by kernel_rfl)) (by decide) (fun K hK => ?_)
          refine goes_ Try.func68 (by kernel_rfl) rfl #[.int .i64 (wrap64 ((wrap64 (x1_1 + 1)) + 1))] (by rfl) rfl rfl u4_1 ?_
          with_reducible refine (laws_markText.calls k1 (wrap64 ((wrap64 (x1_1 + 1)) + 1)) t150 _ A8.out).mono ?_
          rintro e w34 ⟨rfl, hb⟩
          refine ⟨_, rfl, ?_⟩
          have n0_ := Aside0.mk (below_step u4_0 hb)
          clear HB
          have HB := n0_
          clear n0_
          (try clear hb)
          (try clear hb2)
          (try clear hk)
          (try clear hi)
          refine hK.out _ _ ⟨(bc HB.out hw149_0), (bc HB.out hw149_1), (bc HB.out hw149_2), (bc HB.out hw149_3), (bc HB.out hw149_4), (bc HB.out hw149_5), (bc HB.out hw149_6), (bc HB.out hw149_7)⟩ (fun hHeld => ?_)
          clear hK K
          refine norm_ (a' := ?_) ?_ ?_
          rotate_left
          ·show Act.put _ (some 37) _ = _
           simp only [Act.put, List.setIfInBounds_toArray, List.set_cons_zero, List.set_cons_succ, i64_w, i32_w]
           rfl
          refine pz 7 38 mk4_8 (any_of HT_.out (by kernel_rfl)) ?_
          refine done_ (done_of HT_.out (by kernel_rfl)) ?_
          have p151 : 0 ≤ (x5_1 : Int) := of_decide_eq_true u4_2
          have q151 : x5_1 < (l0.length : Int) := of_decide_eq_true u4_2
          obtain ⟨ad151, e151, hx151_0, hx151_1, hx151_2, hx151_3, hx151_4, hx151_5, hx151_6, hx151_7⟩ := at_T30 HR0.out x5_1 p151 q151
          obtain rfl : ad146 = ad151 := (by injection e151)
          replace hx151_0 := bc HB.out hx151_0
          replace hx151_1 := bc HB.out hx151_1
          replace hx151_2 := bc HB.out hx151_2
          replace hx151_3 := bc HB.out hx151_3
          replace hx151_4 := bc HB.out hx151_4
          replace hx151_5 := bc HB.out hx151_5
          replace hx151_6 := bc HB.out hx151_6
          replace hx151_7 := bc HB.out hx151_7
          replace p151 := eq_true p151
          replace q151 := eq_true q151
          have p152 : 0 ≤ (x5_1 : Int) := of_decide_eq_true u4_2
          have q152 : x5_1 < (l0.length : Int) := of_decide_eq_true u4_2
          obtain ⟨ad152, e152, hx152_0, hx152_1, hx152_2, hx152_3, hx152_4, hx152_5, hx152_6, hx152_7⟩ := at_T30 HR0.out x5_1 p152 q152
          obtain rfl : ad146 = ad152 := (by injection e152)
          replace hx152_0 := bc HB.out hx152_0
          replace hx152_1 := bc HB.out hx152_1
          replace hx152_2 := bc HB.out hx152_2
          replace hx152_3 := bc HB.out hx152_3
          replace hx152_4 := bc HB.out hx152_4
          replace hx152_5 := bc HB.out hx152_5
          replace hx152_6 := bc HB.out hx152_6
          replace hx152_7 := bc HB.out hx152_7
          replace p152 := eq_true p152
          replace q152 := eq_true q152
          try go_wp2
          go_ret
          exact ⟨by first | rfl | (simp [*] <;> rfl), by repeat (first | (with_reducible first | exact HB.out | apply below_alloc | apply pw_below_drewN | apply below_drew1) | exact HB.out)⟩
        ·rw [if_neg c10] at H
         have c10b0 : (((rd_T30 l0 x5_1).f3.f0) == (wrap64 ((wrap64 ((wrap64 (x1_1 + 1)) + 1)) + 1))) = false := beq_eq_false_iff_ne.mpr c10
         have c10b1 : (((rd_T30 l0 x5_1).f3.f0) != (wrap64 ((wrap64 ((wrap64 (x1_1 + 1)) + 1)) + 1))) = true := bne_iff_ne.mpr c10
         obtain rfl := Option.some.inj H
         try go_wp2
         have n0_ := Aside0.mk (below_drew1 HB.out)
         clear HB
         have HB := n0_
         clear n0_
         have p146 : 0 ≤ (x5_1 : Int) := of_decide_eq_true u4_2
         have q146 : x5_1 < (l0.length : Int) := of_decide_eq_true u4_2
         obtain ⟨ad146, e146, hx146_0, hx146_1, hx146_2, hx146_3, hx146_4, hx146_5, hx146_6, hx146_7⟩ := at_T30 HR0.out x5_1 p146 q146
         have hw146_7 := hx146_7
         have hw146_6 := hx146_6
         have hw146_5 := hx146_5
         have hw146_4 := hx146_4
         have hw146_3 := hx146_3
         have hw146_2 := hx146_2
         have hw146_1 := hx146_1
         have hw146_0 := hx146_0
         cases e146
         replace hx146_0 := bc HB.out hx146_0
         replace hx146_1 := bc HB.out hx146_1
         replace hx146_2 := bc HB.out hx146_2
         replace hx146_3 := bc HB.out hx146_3
         replace hx146_4 := bc HB.out hx146_4
         replace hx146_5 := bc HB.out hx146_5
         replace hx146_6 := bc HB.out hx146_6
         replace hx146_7 := bc HB.out hx146_7
         replace p146 := eq_true p146
         replace q146 := eq_true q146
         refine start_ (n := 8) (S := fun w' => w'.cell? (ad146.add ((x5_1).toNat * 8)) = some (.string ((rd_T30 l0 x5_1).f0)) ∧ w'.cell? ⟨(ad146.add ((x5_1).toNat * 8)).block, (ad146.add ((x5_1).toNat * 8)).off + 1, none⟩ = some (.int .i64 ((rd_T30 l0 x5_1).f1)) ∧ w'.cell? ⟨(ad146.add ((x5_1).toNat * 8)).block, (ad146.add ((x5_1).toNat * 8)).off + 2, none⟩ = some (.string ((rd_T30 l0 x5_1).f2)) ∧ w'.cell? ⟨(ad146.add ((x5_1).toNat * 8)).block, (ad146.add ((x5_1).toNat * 8)).off + 3, none⟩ = some (.int .i64 ((rd_T30 l0 x5_1).f3.f0)) ∧ w'.cell? ⟨(ad146.add ((x5_1).toNat * 8)).block, (ad146.add ((x5_1).toNat * 8)).off + 4, none⟩ = some (.int .i64 ((rd_T30 l0 x5_1).f3.f1)) ∧ w'.cell? ⟨(ad146.add ((x5_1).toNat * 8)).block, (ad146.add ((x5_1).toNat * 8)).off + 5, none⟩ = some (.int .i64 ((rd_T30 l0 x5_1).f4)) ∧ w'.cell? ⟨(ad146.add ((x5_1).toNat * 8)).block, (ad146.add ((x5_1).toNat * 8)).off + 6, none⟩ = some (.int .i64 ((rd_T30 l0 x5_1).f5)) ∧ w'.cell? ⟨(ad146.add ((x5_1).toNat * 8)).block, (ad146.add ((x5_1).toNat * 8)).off + 7, none⟩ = some (.int .i64 ((rd_T30 l0 x5_1).f6))) (ds := []) mk4_0 (by kernel_rfl) rfl rfl ⟨(bc HB.out hw146_0), (bc HB.out hw146_1), (bc HB.out hw146_2), (bc HB.out hw146_3), (bc HB.out hw146_4), (bc HB.out hw146_5), (bc HB.out hw146_6), (bc HB.out hw146_7)⟩ (fun hHeld => ?_); refine with_tabW laws_heldDeviceS.tab4 laws_heldDeviceS.bits4 (fun HT_ HW_ => ?_)
         generalize wr.drew = w35 at HB hx146_0 hx146_1 hx146_2 hx146_3 hx146_4 hx146_5 hx146_6 hx146_7 hHeld ⊢
         refine pz 0 12 mk4_1 (any_of HT_.out (by kernel_rfl)) ?_
         refine pz 1 13 mk4_2 (any_of HT_.out (by kernel_rfl)) ?_
         refine pz 2 14 mk4_3 (any_of HT_.out (by kernel_rfl)) ?_
         refine pz 3 15 mk4_4 (any_of HT_.out (by kernel_rfl)) ?_
         refine pz 5 17 mk4_5 (any_of HT_.out (by kernel_rfl)) ?_
         refine take_ (i := 4) (N := some 16) (v := ?_) (a' := ?_) mk4_6 rfl rfl (take_ofW HT_.out HW_.out (by kernel_rfl)) (fun _ _ _ h => h) (Or.inl ⟨by rfl, ?_⟩) hHeld ?_ ?_
         rotate_left
         ·rintro w' ⟨s0, s1, s2, s3, s4, s5, s6, s7⟩
          exact gs
         rotate_left
         ·exact ap
         refine one_ (i := 6) (N := some 18) mk4_7 rfl rfl (one_of HT_.out (by kernel_rfl)) (by decide) (fun K hK => ?_)
         refine goes_ Try.func68 (by kernel_rfl) rfl #[.int .i64 x1_1] (by rfl) rfl rfl u4_1 ?_
         with_reducible refine (laws_markText.calls k1 x1_1 t147 _ A5.out).mono ?_
         rintro e w36 ⟨rfl, hb⟩
         refine ⟨_, rfl, ?_⟩
         have n0_ := Aside0.mk (below_step u4_0 hb)
         clear HB
         have HB := n0_
         clear n0_
         (try clear hb)
         (try clear hb2)
         (try clear hk)
         (try clear hi)
         refine hK.out _ _ ⟨(bc HB.out hw146_0), (bc HB.out hw146_1), (bc HB.out hw146_2), (bc HB.out hw146_3), (bc HB.out hw146_4), (bc HB.out hw146_5), (bc HB.out hw146_6), (bc HB.out hw146_7)⟩ (fun hHeld => ?_)
         clear hK K
         refine norm_ (a' := ?_) ?_ ?_
         rotate_left
         ·show Act.put _ (some 18) _ = _
          simp only [Act.put, List.setIfInBounds_toArray, List.set_cons_zero, List.set_cons_succ, i64_w, i32_w]
          rfl
         refine pz 7 19 mk4_8 (any_of HT_.out (by kernel_rfl)) ?_
         refine done_ (done_of HT_.out (by kernel_rfl)) ?_
         have p148 : 0 ≤ (x5_1 : Int) := of_decide_eq_true u4_2
         have q148 : x5_1 < (l0.length : Int) := of_decide_eq_true u4_2
         obtain ⟨ad148, e148, hx148_0, hx148_1, hx148_2, hx148_3, hx148_4, hx148_5, hx148_6, hx148_7⟩ := at_T30 HR0.out x5_1 p148 q148
         obtain rfl : ad146 = ad148 := (by injection e148)
         replace hx148_0 := bc HB.out hx148_0
         replace hx148_1 := bc HB.out hx148_1
         replace hx148_2 := bc HB.out hx148_2
         replace hx148_3 := bc HB.out hx148_3
         replace hx148_4 := bc HB.out hx148_4
         replace hx148_5 := bc HB.out hx148_5
         replace hx148_6 := bc HB.out hx148_6
         replace hx148_7 := bc HB.out hx148_7
         replace p148 := eq_true p148
         replace q148 := eq_true q148
         try go_wp2
         have n0_ := Aside0.mk (below_drew1 HB.out)
         clear HB
         have HB := n0_
         clear n0_
         have p149 : 0 ≤ (x5_1 : Int) := of_decide_eq_true u4_2
         have q149 : x5_1 < (l0.length : Int) := of_decide_eq_true u4_2
         obtain ⟨ad149, e149, hx149_0, hx149_1, hx149_2, hx149_3, hx149_4, hx149_5, hx149_6, hx149_7⟩ := at_T30 HR0.out x5_1 p149 q149
         have hw149_7 := hx149_7
         have hw149_6 := hx149_6
         have hw149_5 := hx149_5
         have hw149_4 := hx149_4
         have hw149_3 := hx149_3
         have hw149_2 := hx149_2
         have hw149_1 := hx149_1
         have hw149_0 := hx149_0
         obtain rfl : ad146 = ad149 := (by injection e149)
         replace hx149_0 := bc HB.out hx149_0
         replace hx149_1 := bc HB.out hx149_1
         replace hx149_2 := bc HB.out hx149_2
         replace hx149_3 := bc HB.out hx149_3
         replace hx149_4 := bc HB.out hx149_4
         replace hx149_5 := bc HB.out hx149_5
         replace hx149_6 := bc HB.out hx149_6
         replace hx149_7 := bc HB.out hx149_7
         replace p149 := eq_true p149
         replace q149 := eq_true q149
         refine start_ (n := 8) (S := fun w' => w'.cell? (ad146.add ((x5_1).toNat * 8)) = some (.string ((rd_T30 l0 x5_1).f0)) ∧ w'.cell? ⟨(ad146.add ((x5_1).toNat * 8)).block, (ad146.add ((x5_1).toNat * 8)).off + 1, none⟩ = some (.int .i64 ((rd_T30 l0 x5_1).f1)) ∧ w'.cell? ⟨(ad146.add ((x5_1).toNat * 8)).block, (ad146.add ((x5_1).toNat * 8)).off + 2, none⟩ = some (.string ((rd_T30 l0 x5_1).f2)) ∧ w'.cell? ⟨(ad146.add ((x5_1).toNat * 8)).block, (ad146.add ((x5_1).toNat * 8)).off + 3, none⟩ = some (.int .i64 ((rd_T30 l0 x5_1).f3.f0)) ∧ w'.cell? ⟨(ad146.add ((x5_1).toNat * 8)).block, (ad146.add ((x5_1).toNat * 8)).off + 4, none⟩ = some (.int .i64 ((rd_T30 l0 x5_1).f3.f1)) ∧ w'.cell? ⟨(ad146.add ((x5_1).toNat * 8)).block, (ad146.add ((x5_1).toNat * 8)).off + 5, none⟩ = some (.int .i64 ((rd_T30 l0 x5_1).f4)) ∧ w'.cell? ⟨(ad146.add ((x5_1).toNat * 8)).block, (ad146.add ((x5_1).toNat * 8)).off + 6, none⟩ = some (.int .i64 ((rd_T30 l0 x5_1).f5)) ∧ w'.cell? ⟨(ad146.add ((x5_1).toNat * 8)).block, (ad146.add ((x5_1).toNat * 8)).off + 7, none⟩ = some (.int .i64 ((rd_T30 l0 x5_1).f6))) (ds := []) mk4_0 (by kernel_rfl) rfl rfl ⟨(bc HB.out hw149_0), (bc HB.out hw149_1), (bc HB.out hw149_2), (bc HB.out hw149_3), (bc HB.out hw149_4), (bc HB.out hw149_5), (bc HB.out hw149_6), (bc HB.out hw149_7)⟩ (fun hHeld => ?_); refine with_tabW laws_heldDeviceS.tab10 laws_heldDeviceS.bits10 (fun HT_ HW_ => ?_)
         generalize w36.drew = w37 at HB hx149_0 hx149_1 hx149_2 hx149_3 hx149_4 hx149_5 hx149_6 hx149_7 hHeld ⊢
         refine pz 0 31 mk4_1 (any_of HT_.out (by kernel_rfl)) ?_
         refine pz 1 32 mk4_2 (any_of HT_.out (by kernel_rfl)) ?_
         refine pz 2 33 mk4_3 (any_of HT_.out (by kernel_rfl)) ?_
         refine pz 3 34 mk4_4 (any_of HT_.out (by kernel_rfl)) ?_
         refine pz 5 36 mk4_5 (any_of HT_.out (by kernel_rfl)) ?_
         refine take_ (i := 4) (N := some 35) (v := ?_) (a' := ?_) mk4_6 rfl rfl (take_ofW HT_.out HW_.out (by kernel_rfl)) (fun _ _ _ h => h) (Or.inl ⟨by rfl, ?_⟩) hHeld ?_ ?_
         rotate_left
         ·rintro w' ⟨s0, s1, s2, s3, s4, s5, s6, s7⟩
          exact gs
         rotate_left
         ·exact ap
         refine one_ (i := 6) (N := some 37) mk4_7 rfl rfl (one_of HT_.out (by kernel_rfl)) (by decide) (fun K hK => ?_)
         refine goes_ Try.func68 (by kernel_rfl) rfl #[.int .i64 (wrap64 ((wrap64 (x1_1 + 1)) + 1))] (by rfl) rfl rfl u4_1 ?_
         with_reducible refine (laws_markText.calls k1 (wrap64 ((wrap64 (x1_1 + 1)) + 1)) t150 _ A8.out).mono ?_
         rintro e w38 ⟨rfl, hb⟩
         refine ⟨_, rfl, ?_⟩
         have n0_ := Aside0.mk (below_step u4_0 hb)
         clear HB
         have HB := n0_
         clear n0_
         (try clear hb)
         (try clear hb2)
         (try clear hk)
         (try clear hi)
         refine hK.out _ _ ⟨(bc HB.out hw149_0), (bc HB.out hw149_1), (bc HB.out hw149_2), (bc HB.out hw149_3), (bc HB.out hw149_4), (bc HB.out hw149_5), (bc HB.out hw149_6), (bc HB.out hw149_7)⟩ (fun hHeld => ?_)
         clear hK K
         refine norm_ (a' := ?_) ?_ ?_
         rotate_left
         ·show Act.put _ (some 37) _ = _
          simp only [Act.put, List.setIfInBounds_toArray, List.set_cons_zero, List.set_cons_succ, i64_w, i32_w]
          rfl
         refine pz 7 38 mk4_8 (any_of HT_.out (by kernel_rfl)) ?_
         refine done_ (done_of HT_.out (by kernel_rfl)) ?_
         have p151 : 0 ≤ (x5_1 : Int) := of_decide_eq_true u4_2
         have q151 : x5_1 < (l0.length : Int) := of_decide_eq_true u4_2
         obtain ⟨ad151, e151, hx151_0, hx151_1, hx151_2, hx151_3, hx151_4, hx151_5, hx151_6, hx151_7⟩ := at_T30 HR0.out x5_1 p151 q151
         obtain rfl : ad146 = ad151 := (by injection e151)
         replace hx151_0 := bc HB.out hx151_0
         replace hx151_1 := bc HB.out hx151_1
         replace hx151_2 := bc HB.out hx151_2
         replace hx151_3 := bc HB.out hx151_3
         replace hx151_4 := bc HB.out hx151_4
         replace hx151_5 := bc HB.out hx151_5
         replace hx151_6 := bc HB.out hx151_6
         replace hx151_7 := bc HB.out hx151_7
         replace p151 := eq_true p151
         replace q151 := eq_true q151
         try go_wp2
         go_ret
         exact ⟨by first | rfl | (simp [*] <;> rfl), by repeat (first | (with_reducible first | exact HB.out | apply below_alloc | apply pw_below_drewN | apply below_drew1) | exact HB.out)⟩
       ·rw [if_neg c9] at H
        have c9b0 : (((rd_T30 l0 x5_1).f2).toList == t150.toList) = false := beq_eq_false_iff_ne.mpr c9
        have c9b1 : (((rd_T30 l0 x5_1).f2).toList != t150.toList) = true := bne_iff_ne.mpr c9
        obtain rfl := Option.some.inj H
        try go_wp2
        have n0_ := Aside0.mk (below_drew1 HB.out)
        clear HB
        have HB := n0_
        clear n0_
        have p146 : 0 ≤ (x5_1 : Int) := of_decide_eq_true u4_2
        have q146 : x5_1 < (l0.length : Int) := of_decide_eq_true u4_2
        obtain ⟨ad146, e146, hx146_0, hx146_1, hx146_2, hx146_3, hx146_4, hx146_5, hx146_6, hx146_7⟩ := at_T30 HR0.out x5_1 p146 q146
        have hw146_7 := hx146_7
        have hw146_6 := hx146_6
        have hw146_5 := hx146_5
        have hw146_4 := hx146_4
        have hw146_3 := hx146_3
        have hw146_2 := hx146_2
        have hw146_1 := hx146_1
        have hw146_0 := hx146_0
        cases e146
        replace hx146_0 := bc HB.out hx146_0
        replace hx146_1 := bc HB.out hx146_1
        replace hx146_2 := bc HB.out hx146_2
        replace hx146_3 := bc HB.out hx146_3
        replace hx146_4 := bc HB.out hx146_4
        replace hx146_5 := bc HB.out hx146_5
        replace hx146_6 := bc HB.out hx146_6
        replace hx146_7 := bc HB.out hx146_7
        replace p146 := eq_true p146
        replace q146 := eq_true q146
        refine start_ (n := 8) (S := fun w' => w'.cell? (ad146.add ((x5_1).toNat * 8)) = some (.string ((rd_T30 l0 x5_1).f0)) ∧ w'.cell? ⟨(ad146.add ((x5_1).toNat * 8)).block, (ad146.add ((x5_1).toNat * 8)).off + 1, none⟩ = some (.int .i64 ((rd_T30 l0 x5_1).f1)) ∧ w'.cell? ⟨(ad146.add ((x5_1).toNat * 8)).block, (ad146.add ((x5_1).toNat * 8)).off + 2, none⟩ = some (.string ((rd_T30 l0 x5_1).f2)) ∧ w'.cell? ⟨(ad146.add ((x5_1).toNat * 8)).block, (ad146.add ((x5_1).toNat * 8)).off + 3, none⟩ = some (.int .i64 ((rd_T30 l0 x5_1).f3.f0)) ∧ w'.cell? ⟨(ad146.add ((x5_1).toNat * 8)).block, (ad146.add ((x5_1).toNat * 8)).off + 4, none⟩ = some (.int .i64 ((rd_T30 l0 x5_1).f3.f1)) ∧ w'.cell? ⟨(ad146.add ((x5_1).toNat * 8)).block, (ad146.add ((x5_1).toNat * 8)).off + 5, none⟩ = some (.int .i64 ((rd_T30 l0 x5_1).f4)) ∧ w'.cell? ⟨(ad146.add ((x5_1).toNat * 8)).block, (ad146.add ((x5_1).toNat * 8)).off + 6, none⟩ = some (.int .i64 ((rd_T30 l0 x5_1).f5)) ∧ w'.cell? ⟨(ad146.add ((x5_1).toNat * 8)).block, (ad146.add ((x5_1).toNat * 8)).off + 7, none⟩ = some (.int .i64 ((rd_T30 l0 x5_1).f6))) (ds := []) mk4_0 (by kernel_rfl) rfl rfl ⟨(bc HB.out hw146_0), (bc HB.out hw146_1), (bc HB.out hw146_2), (bc HB.out hw146_3), (bc HB.out hw146_4), (bc HB.out hw146_5), (bc HB.out hw146_6), (bc HB.out hw146_7)⟩ (fun hHeld => ?_); refine with_tabW laws_heldDeviceS.tab4 laws_heldDeviceS.bits4 (fun HT_ HW_ => ?_)
        generalize wr.drew = w39 at HB hx146_0 hx146_1 hx146_2 hx146_3 hx146_4 hx146_5 hx146_6 hx146_7 hHeld ⊢
        refine pz 0 12 mk4_1 (any_of HT_.out (by kernel_rfl)) ?_
        refine pz 1 13 mk4_2 (any_of HT_.out (by kernel_rfl)) ?_
        refine pz 2 14 mk4_3 (any_of HT_.out (by kernel_rfl)) ?_
        refine pz 3 15 mk4_4 (any_of HT_.out (by kernel_rfl)) ?_
        refine pz 5 17 mk4_5 (any_of HT_.out (by kernel_rfl)) ?_
        refine take_ (i := 4) (N := some 16) (v := ?_) (a' := ?_) mk4_6 rfl rfl (take_ofW HT_.out HW_.out (by kernel_rfl)) (fun _ _ _ h => h) (Or.inl ⟨by rfl, ?_⟩) hHeld ?_ ?_
        rotate_left
        ·rintro w' ⟨s0, s1, s2, s3, s4, s5, s6, s7⟩
         exact gs
        rotate_left
        ·exact ap
        refine one_ (i := 6) (N := some 18) mk4_7 rfl rfl (one_of HT_.out (by kernel_rfl)) (by decide) (fun K hK => ?_)
        refine goes_ Try.func68 (by kernel_rfl) rfl #[.int .i64 x1_1] (by rfl) rfl rfl u4_1 ?_
        with_reducible refine (laws_markText.calls k1 x1_1 t147 _ A5.out).mono ?_
        rintro e w40 ⟨rfl, hb⟩
        refine ⟨_, rfl, ?_⟩
        have n0_ := Aside0.mk (below_step u4_0 hb)
        clear HB
        have HB := n0_
        clear n0_
        (try clear hb)
        (try clear hb2)
        (try clear hk)
        (try clear hi)
        refine hK.out _ _ ⟨(bc HB.out hw146_0), (bc HB.out hw146_1), (bc HB.out hw146_2), (bc HB.out hw146_3), (bc HB.out hw146_4), (bc HB.out hw146_5), (bc HB.out hw146_6), (bc HB.out hw146_7)⟩ (fun hHeld => ?_)
        clear hK K
        refine norm_ (a' := ?_) ?_ ?_
        rotate_left
        ·show Act.put _ (some 18) _ = _
         simp only [Act.put, List.setIfInBounds_toArray, List.set_cons_zero, List.set_cons_succ, i64_w, i32_w]
         rfl
        refine pz 7 19 mk4_8 (any_of HT_.out (by kernel_rfl)) ?_
        refine done_ (done_of HT_.out (by kernel_rfl)) ?_
        have p148 : 0 ≤ (x5_1 : Int) := of_decide_eq_true u4_2
        have q148 : x5_1 < (l0.length : Int) := of_decide_eq_true u4_2
        obtain ⟨ad148, e148, hx148_0, hx148_1, hx148_2, hx148_3, hx148_4, hx148_5, hx148_6, hx148_7⟩ := at_T30 HR0.out x5_1 p148 q148
        obtain rfl : ad146 = ad148 := (by injection e148)
        replace hx148_0 := bc HB.out hx148_0
        replace hx148_1 := bc HB.out hx148_1
        replace hx148_2 := bc HB.out hx148_2
        replace hx148_3 := bc HB.out hx148_3
        replace hx148_4 := bc HB.out hx148_4
        replace hx148_5 := bc HB.out hx148_5
        replace hx148_6 := bc HB.out hx148_6
        replace hx148_7 := bc HB.out hx148_7
        replace p148 := eq_true p148
        replace q148 := eq_true q148
        try go_wp2
        have n0_ := Aside0.mk (below_drew1 HB.out)
        clear HB
        have HB := n0_
        clear n0_
        have p149 : 0 ≤ (x5_1 : Int) := of_decide_eq_true u4_2
        have q149 : x5_1 < (l0.length : Int) := of_decide_eq_true u4_2
        obtain ⟨ad149, e149, hx149_0, hx149_1, hx149_2, hx149_3, hx149_4, hx149_5, hx149_6, hx149_7⟩ := at_T30 HR0.out x5_1 p149 q149
        have hw149_7 := hx149_7
        have hw149_6 := hx149_6
        have hw149_5 := hx149_5
        have hw149_4 := hx149_4
        have hw149_3 := hx149_3
        have hw149_2 := hx149_2
        have hw149_1 := hx149_1
        have hw149_0 := hx149_0
        obtain rfl : ad146 = ad149 := (by injection e149)
        replace hx149_0 := bc HB.out hx149_0
        replace hx149_1 := bc HB.out hx149_1
        replace hx149_2 := bc HB.out hx149_2
        replace hx149_3 := bc HB.out hx149_3
        replace hx149_4 := bc HB.out hx149_4
        replace hx149_5 := bc HB.out hx149_5
        replace hx149_6 := bc HB.out hx149_6
        replace hx149_7 := bc HB.out hx149_7
        replace p149 := eq_true p149
        replace q149 := eq_true q149
        refine start_ (n := 8) (S := fun w' => w'.cell? (ad146.add ((x5_1).toNat * 8)) = some (.string ((rd_T30 l0 x5_1).f0)) ∧ w'.cell? ⟨(ad146.add ((x5_1).toNat * 8)).block, (ad146.add ((x5_1).toNat * 8)).off + 1, none⟩ = some (.int .i64 ((rd_T30 l0 x5_1).f1)) ∧ w'.cell? ⟨(ad146.add ((x5_1).toNat * 8)).block, (ad146.add ((x5_1).toNat * 8)).off + 2, none⟩ = some (.string ((rd_T30 l0 x5_1).f2)) ∧ w'.cell? ⟨(ad146.add ((x5_1).toNat * 8)).block, (ad146.add ((x5_1).toNat * 8)).off + 3, none⟩ = some (.int .i64 ((rd_T30 l0 x5_1).f3.f0)) ∧ w'.cell? ⟨(ad146.add ((x5_1).toNat * 8)).block, (ad146.add ((x5_1).toNat * 8)).off + 4, none⟩ = some (.int .i64 ((rd_T30 l0 x5_1).f3.f1)) ∧ w'.cell? ⟨(ad146.add ((x5_1).toNat * 8)).block, (ad146.add ((x5_1).toNat * 8)).off + 5, none⟩ = some (.int .i64 ((rd_T30 l0 x5_1).f4)) ∧ w'.cell? ⟨(ad146.add ((x5_1).toNat * 8)).block, (ad146.add ((x5_1).toNat * 8)).off + 6, none⟩ = some (.int .i64 ((rd_T30 l0 x5_1).f5)) ∧ w'.cell? ⟨(ad146.add ((x5_1).toNat * 8)).block, (ad146.add ((x5_1).toNat * 8)).off + 7, none⟩ = some (.int .i64 ((rd_T30 l0 x5_1).f6))) (ds := []) mk4_0 (by kernel_rfl) rfl rfl ⟨(bc HB.out hw149_0), (bc HB.out hw149_1), (bc HB.out hw149_2), (bc HB.out hw149_3), (bc HB.out hw149_4), (bc HB.out hw149_5), (bc HB.out hw149_6), (bc HB.out hw149_7)⟩ (fun hHeld => ?_); refine with_tabW laws_heldDeviceS.tab10 laws_heldDeviceS.bits10 (fun HT_ HW_ => ?_)
        generalize w40.drew = w41 at HB hx149_0 hx149_1 hx149_2 hx149_3 hx149_4 hx149_5 hx149_6 hx149_7 hHeld ⊢
        refine pz 0 31 mk4_1 (any_of HT_.out (by kernel_rfl)) ?_
        refine pz 1 32 mk4_2 (any_of HT_.out (by kernel_rfl)) ?_
        refine pz 2 33 mk4_3 (any_of HT_.out (by kernel_rfl)) ?_
        refine pz 3 34 mk4_4 (any_of HT_.out (by kernel_rfl)) ?_
        refine pz 5 36 mk4_5 (any_of HT_.out (by kernel_rfl)) ?_
        refine take_ (i := 4) (N := some 35) (v := ?_) (a' := ?_) mk4_6 rfl rfl (take_ofW HT_.out HW_.out (by kernel_rfl)) (fun _ _ _ h => h) (Or.inl ⟨by rfl, ?_⟩) hHeld ?_ ?_
        rotate_left
        ·rintro w' ⟨s0, s1, s2, s3, s4, s5, s6, s7⟩
         exact gs
        rotate_left
        ·exact ap
        refine one_ (i := 6) (N := some 37) mk4_7 rfl rfl (one_of HT_.out (by kernel_rfl)) (by decide) (fun K hK => ?_)
        refine goes_ Try.func68 (by kernel_rfl) rfl #[.int .i64 (wrap64 ((wrap64 (x1_1 + 1)) + 1))] (by rfl) rfl rfl u4_1 ?_
        with_reducible refine (laws_markText.calls k1 (wrap64 ((wrap64 (x1_1 + 1)) + 1)) t150 _ A8.out).mono ?_
        rintro e w42 ⟨rfl, hb⟩
        refine ⟨_, rfl, ?_⟩
        have n0_ := Aside0.mk (below_step u4_0 hb)
        clear HB
        have HB := n0_
        clear n0_
        (try clear hb)
        (try clear hb2)
        (try clear hk)
        (try clear hi)
        refine hK.out _ _ ⟨(bc HB.out hw149_0), (bc HB.out hw149_1), (bc HB.out hw149_2), (bc HB.out hw149_3), (bc HB.out hw149_4), (bc HB.out hw149_5), (bc HB.out hw149_6), (bc HB.out hw149_7)⟩ (fun hHeld => ?_)
        clear hK K
        refine norm_ (a' := ?_) ?_ ?_
        rotate_left
        ·show Act.put _ (some 37) _ = _
         simp only [Act.put, List.setIfInBounds_toArray, List.set_cons_zero, List.set_cons_succ, i64_w, i32_w]
         rfl
        refine pz 7 38 mk4_8 (any_of HT_.out (by kernel_rfl)) ?_
        refine done_ (done_of HT_.out (by kernel_rfl)) ?_
        try go_wp2
        go_ret
        exact ⟨by first | rfl | (simp [*] <;> rfl), by repeat (first | (with_reducible first | exact HB.out | apply below_alloc | apply pw_below_drewN | apply below_drew1) | exact HB.out)⟩
      ·rw [if_neg c7] at H
       have c7b0 : (((rd_T30 l0 x5_1).f1) == (wrap64 (x1_1 + 1))) = false := beq_eq_false_iff_ne.mpr c7
       have c7b1 : (((rd_T30 l0 x5_1).f1) != (wrap64 (x1_1 + 1))) = true := bne_iff_ne.mpr c7
       obtain rfl := Option.some.inj H
       try go_wp2
       have n0_ := Aside0.mk (below_drew1 HB.out)
       clear HB
       have HB := n0_
       clear n0_
       have p146 : 0 ≤ (x5_1 : Int) := of_decide_eq_true u4_2
       have q146 : x5_1 < (l0.length : Int) := of_decide_eq_true u4_2
       obtain ⟨ad146, e146, hx146_0, hx146_1, hx146_2, hx146_3, hx146_4, hx146_5, hx146_6, hx146_7⟩ := at_T30 HR0.out x5_1 p146 q146
       have hw146_7 := hx146_7
       have hw146_6 := hx146_6
       have hw146_5 := hx146_5
       have hw146_4 := hx146_4
       have hw146_3 := hx146_3
       have hw146_2 := hx146_2
       have hw146_1 := hx146_1
       have hw146_0 := hx146_0
       cases e146
       replace hx146_0 := bc HB.out hx146_0
       replace hx146_1 := bc HB.out hx146_1
       replace hx146_2 := bc HB.out hx146_2
       replace hx146_3 := bc HB.out hx146_3
       replace hx146_4 := bc HB.out hx146_4
       replace hx146_5 := bc HB.out hx146_5
       replace hx146_6 := bc HB.out hx146_6
       replace hx146_7 := bc HB.out hx146_7
       replace p146 := eq_true p146
       replace q146 := eq_true q146
       refine start_ (n := 8) (S := fun w' => w'.cell? (ad146.add ((x5_1).toNat * 8)) = some (.string ((rd_T30 l0 x5_1).f0)) ∧ w'.cell? ⟨(ad146.add ((x5_1).toNat * 8)).block, (ad146.add ((x5_1).toNat * 8)).off + 1, none⟩ = some (.int .i64 ((rd_T30 l0 x5_1).f1)) ∧ w'.cell? ⟨(ad146.add ((x5_1).toNat * 8)).block, (ad146.add ((x5_1).toNat * 8)).off + 2, none⟩ = some (.string ((rd_T30 l0 x5_1).f2)) ∧ w'.cell? ⟨(ad146.add ((x5_1).toNat * 8)).block, (ad146.add ((x5_1).toNat * 8)).off + 3, none⟩ = some (.int .i64 ((rd_T30 l0 x5_1).f3.f0)) ∧ w'.cell? ⟨(ad146.add ((x5_1).toNat * 8)).block, (ad146.add ((x5_1).toNat * 8)).off + 4, none⟩ = some (.int .i64 ((rd_T30 l0 x5_1).f3.f1)) ∧ w'.cell? ⟨(ad146.add ((x5_1).toNat * 8)).block, (ad146.add ((x5_1).toNat * 8)).off + 5, none⟩ = some (.int .i64 ((rd_T30 l0 x5_1).f4)) ∧ w'.cell? ⟨(ad146.add ((x5_1).toNat * 8)).block, (ad146.add ((x5_1).toNat * 8)).off + 6, none⟩ = some (.int .i64 ((rd_T30 l0 x5_1).f5)) ∧ w'.cell? ⟨(ad146.add ((x5_1).toNat * 8)).block, (ad146.add ((x5_1).toNat * 8)).off + 7, none⟩ = some (.int .i64 ((rd_T30 l0 x5_1).f6))) (ds := []) mk4_0 (by kernel_rfl) rfl rfl ⟨(bc HB.out hw146_0), (bc HB.out hw146_1), (bc HB.out hw146_2), (bc HB.out hw146_3), (bc HB.out hw146_4), (bc HB.out hw146_5), (bc HB.out hw146_6), (bc HB.out hw146_7)⟩ (fun hHeld => ?_); refine with_tabW laws_heldDeviceS.tab4 laws_heldDeviceS.bits4 (fun HT_ HW_ => ?_)
       generalize wr.drew = w43 at HB hx146_0 hx146_1 hx146_2 hx146_3 hx146_4 hx146_5 hx146_6 hx146_7 hHeld ⊢
       refine pz 0 12 mk4_1 (any_of HT_.out (by kernel_rfl)) ?_
       refine pz 1 13 mk4_2 (any_of HT_.out (by kernel_rfl)) ?_
       refine pz 2 14 mk4_3 (any_of HT_.out (by kernel_rfl)) ?_
       refine pz 3 15 mk4_4 (any_of HT_.out (by kernel_rfl)) ?_
       refine pz 5 17 mk4_5 (any_of HT_.out (by kernel_rfl)) ?_
       refine take_ (i := 4) (N := some 16) (v := ?_) (a' := ?_) mk4_6 rfl rfl (take_ofW HT_.out HW_.out (by kernel_rfl)) (fun _ _ _ h => h) (Or.inl ⟨by rfl, ?_⟩) hHeld ?_ ?_
       rotate_left
       ·rintro w' ⟨s0, s1, s2, s3, s4, s5, s6, s7⟩
        exact gs
       rotate_left
       ·exact ap
       refine one_ (i := 6) (N := some 18) mk4_7 rfl rfl (one_of HT_.out (by kernel_rfl)) (by decide) (fun K hK => ?_)
       refine goes_ Try.func68 (by kernel_rfl) rfl #[.int .i64 x1_1] (by rfl) rfl rfl u4_1 ?_
       with_reducible refine (laws_markText.calls k1 x1_1 t147 _ A5.out).mono ?_
       rintro e w44 ⟨rfl, hb⟩
       refine ⟨_, rfl, ?_⟩
       have n0_ := Aside0.mk (below_step u4_0 hb)
       clear HB
       have HB := n0_
       clear n0_
       (try clear hb)
       (try clear hb2)
       (try clear hk)
       (try clear hi)
       refine hK.out _ _ ⟨(bc HB.out hw146_0), (bc HB.out hw146_1), (bc HB.out hw146_2), (bc HB.out hw146_3), (bc HB.out hw146_4), (bc HB.out hw146_5), (bc HB.out hw146_6), (bc HB.out hw146_7)⟩ (fun hHeld => ?_)
       clear hK K
       refine norm_ (a' := ?_) ?_ ?_
       rotate_left
       ·show Act.put _ (some 18) _ = _
        simp only [Act.put, List.setIfInBounds_toArray, List.set_cons_zero, List.set_cons_succ, i64_w, i32_w]
        rfl
       refine pz 7 19 mk4_8 (any_of HT_.out (by kernel_rfl)) ?_
       refine done_ (done_of HT_.out (by kernel_rfl)) ?_
       have p148 : 0 ≤ (x5_1 : Int) := of_decide_eq_true u4_2
       have q148 : x5_1 < (l0.length : Int) := of_decide_eq_true u4_2
       obtain ⟨ad148, e148, hx148_0, hx148_1, hx148_2, hx148_3, hx148_4, hx148_5, hx148_6, hx148_7⟩ := at_T30 HR0.out x5_1 p148 q148
       obtain rfl : ad146 = ad148 := (by injection e148)
       replace hx148_0 := bc HB.out hx148_0
       replace hx148_1 := bc HB.out hx148_1
       replace hx148_2 := bc HB.out hx148_2
       replace hx148_3 := bc HB.out hx148_3
       replace hx148_4 := bc HB.out hx148_4
       replace hx148_5 := bc HB.out hx148_5
       replace hx148_6 := bc HB.out hx148_6
       replace hx148_7 := bc HB.out hx148_7
       replace p148 := eq_true p148
       replace q148 := eq_true q148
       try go_wp2
       go_ret
       exact ⟨by first | rfl | (simp [*] <;> rfl), by repeat (first | (with_reducible first | exact HB.out | apply below_alloc | apply pw_below_drewN | apply below_drew1) | exact HB.out)⟩
     ·rw [if_neg c6] at H
      have c6b0 : (((rd_T30 l0 x5_1).f0).toList == t147.toList) = false := beq_eq_false_iff_ne.mpr c6
      have c6b1 : (((rd_T30 l0 x5_1).f0).toList != t147.toList) = true := bne_iff_ne.mpr c6
      obtain rfl := Option.some.inj H
      try go_wp2
      have n0_ := Aside0.mk (below_drew1 HB.out)
      clear HB
      have HB := n0_
      clear n0_
      have p146 : 0 ≤ (x5_1 : Int) := of_decide_eq_true u4_2
      have q146 : x5_1 < (l0.length : Int) := of_decide_eq_true u4_2
      obtain ⟨ad146, e146, hx146_0, hx146_1, hx146_2, hx146_3, hx146_4, hx146_5, hx146_6, hx146_7⟩ := at_T30 HR0.out x5_1 p146 q146
      have hw146_7 := hx146_7
      have hw146_6 := hx146_6
      have hw146_5 := hx146_5
      have hw146_4 := hx146_4
      have hw146_3 := hx146_3
      have hw146_2 := hx146_2
      have hw146_1 := hx146_1
      have hw146_0 := hx146_0
      cases e146
      replace hx146_0 := bc HB.out hx146_0
      replace hx146_1 := bc HB.out hx146_1
      replace hx146_2 := bc HB.out hx146_2
      replace hx146_3 := bc HB.out hx146_3
      replace hx146_4 := bc HB.out hx146_4
      replace hx146_5 := bc HB.out hx146_5
      replace hx146_6 := bc HB.out hx146_6
      replace hx146_7 := bc HB.out hx146_7
      replace p146 := eq_true p146
      replace q146 := eq_true q146
      refine start_ (n := 8) (S := fun w' => w'.cell? (ad146.add ((x5_1).toNat * 8)) = some (.string ((rd_T30 l0 x5_1).f0)) ∧ w'.cell? ⟨(ad146.add ((x5_1).toNat * 8)).block, (ad146.add ((x5_1).toNat * 8)).off + 1, none⟩ = some (.int .i64 ((rd_T30 l0 x5_1).f1)) ∧ w'.cell? ⟨(ad146.add ((x5_1).toNat * 8)).block, (ad146.add ((x5_1).toNat * 8)).off + 2, none⟩ = some (.string ((rd_T30 l0 x5_1).f2)) ∧ w'.cell? ⟨(ad146.add ((x5_1).toNat * 8)).block, (ad146.add ((x5_1).toNat * 8)).off + 3, none⟩ = some (.int .i64 ((rd_T30 l0 x5_1).f3.f0)) ∧ w'.cell? ⟨(ad146.add ((x5_1).toNat * 8)).block, (ad146.add ((x5_1).toNat * 8)).off + 4, none⟩ = some (.int .i64 ((rd_T30 l0 x5_1).f3.f1)) ∧ w'.cell? ⟨(ad146.add ((x5_1).toNat * 8)).block, (ad146.add ((x5_1).toNat * 8)).off + 5, none⟩ = some (.int .i64 ((rd_T30 l0 x5_1).f4)) ∧ w'.cell? ⟨(ad146.add ((x5_1).toNat * 8)).block, (ad146.add ((x5_1).toNat * 8)).off + 6, none⟩ = some (.int .i64 ((rd_T30 l0 x5_1).f5)) ∧ w'.cell? ⟨(ad146.add ((x5_1).toNat * 8)).block, (ad146.add ((x5_1).toNat * 8)).off + 7, none⟩ = some (.int .i64 ((rd_T30 l0 x5_1).f6))) (ds := []) mk4_0 (by kernel_rfl) rfl rfl ⟨(bc HB.out hw146_0), (bc HB.out hw146_1), (bc HB.out hw146_2), (bc HB.out hw146_3), (bc HB.out hw146_4), (bc HB.out hw146_5), (bc HB.out hw146_6), (bc HB.out hw146_7)⟩ (fun hHeld => ?_); refine with_tabW laws_heldDeviceS.tab4 laws_heldDeviceS.bits4 (fun HT_ HW_ => ?_)
      generalize wr.drew = w45 at HB hx146_0 hx146_1 hx146_2 hx146_3 hx146_4 hx146_5 hx146_6 hx146_7 hHeld ⊢
      refine pz 0 12 mk4_1 (any_of HT_.out (by kernel_rfl)) ?_
      refine pz 1 13 mk4_2 (any_of HT_.out (by kernel_rfl)) ?_
      refine pz 2 14 mk4_3 (any_of HT_.out (by kernel_rfl)) ?_
      refine pz 3 15 mk4_4 (any_of HT_.out (by kernel_rfl)) ?_
      refine pz 5 17 mk4_5 (any_of HT_.out (by kernel_rfl)) ?_
      refine take_ (i := 4) (N := some 16) (v := ?_) (a' := ?_) mk4_6 rfl rfl (take_ofW HT_.out HW_.out (by kernel_rfl)) (fun _ _ _ h => h) (Or.inl ⟨by rfl, ?_⟩) hHeld ?_ ?_
      rotate_left
      ·rintro w' ⟨s0, s1, s2, s3, s4, s5, s6, s7⟩
       exact gs
      rotate_left
      ·exact ap
      refine one_ (i := 6) (N := some 18) mk4_7 rfl rfl (one_of HT_.out (by kernel_rfl)) (by decide) (fun K hK => ?_)
      refine goes_ Try.func68 (by kernel_rfl) rfl #[.int .i64 x1_1] (by rfl) rfl rfl u4_1 ?_
      with_reducible refine (laws_markText.calls k1 x1_1 t147 _ A5.out).mono ?_
      rintro e w46 ⟨rfl, hb⟩
      refine ⟨_, rfl, ?_⟩
      have n0_ := Aside0.mk (below_step u4_0 hb)
      clear HB
      have HB := n0_
      clear n0_
      (try clear hb)
      (try clear hb2)
      (try clear hk)
      (try clear hi)
      refine hK.out _ _ ⟨(bc HB.out hw146_0), (bc HB.out hw146_1), (bc HB.out hw146_2), (bc HB.out hw146_3), (bc HB.out hw146_4), (bc HB.out hw146_5), (bc HB.out hw146_6), (bc HB.out hw146_7)⟩ (fun hHeld => ?_)
      clear hK K
      refine norm_ (a' := ?_) ?_ ?_
      rotate_left
      ·show Act.put _ (some 18) _ = _
       simp only [Act.put, List.setIfInBounds_toArray, List.set_cons_zero, List.set_cons_succ, i64_w, i32_w]
       rfl
      refine pz 7 19 mk4_8 (any_of HT_.out (by kernel_rfl)) ?_
      refine done_ (done_of HT_.out (by kernel_rfl)) ?_
      try go_wp2
      go_ret
      exact ⟨by first | rfl | (simp [*] <;> rfl), by repeat (first | (with_reducible first | exact HB.out | apply below_alloc | apply pw_below_drewN | apply below_drew1) | exact HB.out)⟩
    ·rw [if_neg c4] at H
     exact absurd H (by simp)
   ·rw [if_neg c3] at H
    have c3b0 : decide (x5_1 < (l0.length : Int)) = false := decide_eq_false c3
    clear c3
    obtain rfl := Option.some.inj H
    go_wp2
    go_ret
    exact ⟨by first | rfl | (simp [*] <;> rfl), by repeat (first | (with_reducible first | exact HB.out | apply below_alloc | apply pw_below_drewN | apply below_drew1) | exact HB.out)⟩

end Go.Proofs.Ytkedcokhcgklpaa.MFnExactShiftRig
