-- Written by a program for this claim.
import Derived.Test.YtkedcokhcgklpaaMFnExactShiftRigx0
import Derived.Test.YtkedcokhcgklpaaMFnExactShiftRigx2
namespace Go.Proofs.Ytkedcokhcgklpaa.MFnExactShiftRig
open Go.RowKit Go.Proofs.YtkedcokhcgklpaaW.PrintWords Go.Proofs.YtkedcokhcgklpaaW.PrintLast Go.Proofs.YtkedcokhcgklpaaW.PrintMore
attribute [local go_sem] max2_int min2_int max_two min_two max_three min_three max_four min_four   -- for this text's walks alone
set_option linter.unusedVariables false
set_option linter.unusedSimpArgs false

abbrev mk3_0 : Array Bool := #[false, false, false, false, false, false, false, false, false, false]
abbrev mk3_1 : Array Bool := #[true, false, false, false, false, false, false, false, false, false]
abbrev mk3_2 : Array Bool := #[true, true, false, false, false, false, false, false, false, false]
abbrev mk3_3 : Array Bool := #[true, true, true, false, false, false, false, false, false, false]
abbrev mk3_4 : Array Bool := #[true, true, true, false, true, false, false, false, false, false]
abbrev mk3_5 : Array Bool := #[true, true, true, false, true, true, false, false, false, false]
abbrev mk3_6 : Array Bool := #[true, true, true, false, true, true, true, false, false, false]
abbrev mk3_7 : Array Bool := #[true, true, true, true, true, true, true, false, false, false]
abbrev mk3_8 : Array Bool := #[true, true, true, true, true, true, true, true, false, false]
abbrev mk3_9 : Array Bool := #[true, true, true, true, true, true, true, true, true, false]
abbrev mk3_10 : Array Bool := #[true, true, true, true, true, true, true, true, true, true]
theorem u3_0 {p : Prop} (h : p := by repeat (first | (with_reducible first | exact HK.out | apply Kept.alloc | apply Kept.drewN | apply Kept.drew) | exact HK.out)) : p := h
theorem u3_1 {p : Prop} (h : p := by (with_reducible repeat (first | apply Kd.R_alloc | apply Kd.R_drewN | apply Kd.R_drew)); exact HO_0.out) : p := h
theorem u3_2 {p : Prop} (h : p := by repeat (first | (with_reducible first | exact HB.out | apply below_alloc | apply pw_below_drewN | apply below_drew1) | exact HB.out)) : p := h
theorem u3_3 {p : Prop} (h : p := by assumption) : p := h
theorem u3_4 {p : Prop} (h : p := by first | rfl | (simp; done) | (simp [*]; done)) : p := h
theorem u3_5 {p : Prop} (h : p := by (try simp only [List.map_toArray, List.map_cons, List.map_nil]); first | done | rfl) : p := h
def laws_eqDeviceS.l0 : Nat → List (S30) → List (S30) → Int → Option (Bool)
 | 0, _, _, _ => none
 | k + 1, x0, x1, x5 => if x5 < (x0.length : Int) then (if 0 ≤ x5 then (if x5 < (x1.length : Int) then ((laws_eqDevice.f ((rd_T30 x0 x5).f0) ((rd_T30 x0 x5).f1) ((rd_T30 x0 x5).f2) ((rd_T30 x0 x5).f3.f0) ((rd_T30 x0 x5).f3.f1) ((rd_T30 x0 x5).f4) ((rd_T30 x0 x5).f5) ((rd_T30 x0 x5).f6) ((rd_T30 x1 x5).f0) ((rd_T30 x1 x5).f1) ((rd_T30 x1 x5).f2) ((rd_T30 x1 x5).f3.f0) ((rd_T30 x1 x5).f3.f1) ((rd_T30 x1 x5).f4) ((rd_T30 x1 x5).f5) ((rd_T30 x1 x5).f6)).bind fun t132 => (if t132 = true then (laws_eqDeviceS.l0 k x0 x1 (wrap64 (x5 + 1))) else (some false))) else (none)) else (none)) else (some true)
def laws_eqDeviceS.f (k : Nat) (l0 : List (S30)) (l1 : List (S30)) : Option (Bool) := if (l0.length : Int) = (l1.length : Int) then (laws_eqDeviceS.l0 k l0 l1 0) else (some false)
theorem laws_eqDeviceS.mono_l : ∀ k, (∀ y0 y1 y2, LeO (laws_eqDeviceS.l0 k y0 y1 y2) (laws_eqDeviceS.l0 (k + 1) y0 y1 y2))
 | 0 => fun _ _ _ r h => by simp [laws_eqDeviceS.l0] at h
 | k + 1 => by
  have ih0 := laws_eqDeviceS.mono_l k
  ·intro y0 y1 y2
   unfold laws_eqDeviceS.l0
   repeat' first
   | (with_reducible exact ih0 _ _ _)
   | (with_reducible exact LeO.refl _)
   | (with_reducible exact LeO.none _)
   | (with_reducible refine LeO.ite ?_ ?_)
   | (with_reducible refine LeO.bind ?_ (fun _ => ?_))
theorem laws_eqDeviceS.mono : ∀ a0 a1 k, LeO (laws_eqDeviceS.f k a0 a1) (laws_eqDeviceS.f (k + 1) a0 a1) := by
 intro a0 a1 k
 have ih0 := laws_eqDeviceS.mono_l k
 unfold laws_eqDeviceS.f
 repeat' first
   | (with_reducible exact ih0 _ _ _)
   | (with_reducible exact LeO.refl _)
   | (with_reducible exact LeO.none _)
   | (with_reducible refine LeO.ite ?_ ?_)
   | (with_reducible refine LeO.bind ?_ (fun _ => ?_))
def laws_eqDeviceS.T6 : Bool × List (List Nat × List Nat) := (true, [([], []), ([], []), ([0, 1], [0, 1]), ([2], [2]), ([], []), ([], []), ([4, 5], [4, 5]), ([6], [6]), ([3, 7], [3, 7]), ([8], [8])])
def laws_eqDeviceS.B6 : List Nat := [0, 0, 3, 7, 0, 0, 48, 112, 255, 511]
theorem laws_eqDeviceS.tab6 : rtab .any (opsOf Try.f23 6) = laws_eqDeviceS.T6 := by kernel_rfl
theorem laws_eqDeviceS.bits6 : waitsOk laws_eqDeviceS.T6.2 laws_eqDeviceS.B6 = true := by kernel_rfl
set_option maxHeartbeats 8000000 in
set_option maxRecDepth 100000 in
theorem laws_eqDeviceS.calls (k : Nat) (A0 : Option Addr) (c0 : Nat) (l0 : List (S30)) (A1 : Option Addr) (c1 : Nat) (l1 : List (S30)) (r : Bool) (w : World) (hr0 : Kd.C k30 w A0 l0.length l0) (hc0 : l0.length ≤ c0) (hr1 : Kd.C k30 w A1 l1.length l1) (hc1 : l1.length ≤ c1) (h : laws_eqDeviceS.f k l0 l1 = some r) :
  Calls Try.prog 23 #[.slice A0 l0.length c0, .slice A1 l1.length c1] w fun e w' => e = .returned (.bool r) ∧ Below w.heap.size w w' := by
 have hu30 := Try.underlying30
 have HR0 := Aside0.mk hr0
 have HC0 := Aside0.mk hc0
 clear hr0 hc0
 have HR1 := Aside0.mk hr1
 have HC1 := Aside0.mk hc1
 clear hr1 hc1
 have HB := Aside0.mk (Below.refl w.heap.size w)
 have H : (if (l0.length : Int) = (l1.length : Int) then (laws_eqDeviceS.l0 k l0 l1 0) else (some false)) = some r := h
 clear h
 by_cases c3 : (l0.length : Int) = (l1.length : Int)
 ·rw [if_pos c3] at H
  have c3b0 : ((l0.length : Int) == (l1.length : Int)) = true := beq_iff_eq.mpr c3
  have c3b1 : ((l0.length : Int) != (l1.length : Int)) = false := bne_eq_false_iff_eq.mpr c3
  have c3b2 : (l0.length == l1.length) = true := by first | simpa using c3 | (simp at c3 ⊢; omega)
  clear c3
  have H' := Aside0.mk H
  clear H
  go_enter Try.func23, Try.ntmps23
  go_wp2
  go_loopg [5] k (fun kq v5 w' => ∃ (x5_1 : Int), v5 = .int .i64 x5_1 ∧ Aside0 (laws_eqDeviceS.l0 kq l0 l1 x5_1 = some r) ∧ Aside0 (kq ≤ k) ∧ Aside0 (Below w.heap.size w w'))
  case atStart => exact ⟨(0), u3_4, H', ⟨Nat.le_refl _⟩, ⟨by repeat (first | (with_reducible first | exact HB.out | apply below_alloc | apply pw_below_drewN | apply below_drew1) | exact HB.out)⟩⟩
  case round =>
   clear H'
   try clear c1
   try clear c2
   try clear p2
   try clear c3
   try clear c3b0
   try clear c3b1
   try clear c3b2
   obtain ⟨x5_1, rfl, HA, HK1, HB⟩ := hrel
   cases gk with
   | zero => exact absurd HA.out (by simp [laws_eqDeviceS.l0])
   | succ k1 =>
    have H := HA.out
    clear HA
    simp only [laws_eqDeviceS.l0] at H
    by_cases c4 : x5_1 < (l0.length : Int)
    ·rw [if_pos c4] at H
     have c4b0 : decide (x5_1 < (l0.length : Int)) = true := decide_eq_true c4
     clear c4
     by_cases c5 : 0 ≤ x5_1
     ·rw [if_pos c5] at H
      have c5b0 : decide (0 ≤ x5_1) = true := decide_eq_true c5
      clear c5
      by_cases c6 : x5_1 < (l1.length : Int)
      ·rw [if_pos c6] at H
       have c6b0 : decide (x5_1 < (l1.length : Int)) = true := decide_eq_true c6
       clear c6
       replace H := Option.bind_eq_some_iff.mp H
       obtain ⟨t132, A70, H⟩ := H
       replace H : (if t132 = true then (laws_eqDeviceS.l0 k1 l0 l1 (wrap64 (x5_1 + 1))) else (some false)) = some r := H
       have A7 := Aside0.mk A70
       clear A70
       by_cases c8 : t132 = true
       ·subst c8
        have H1 : (laws_eqDeviceS.l0 k1 l0 l1 (wrap64 (x5_1 + 1))) = some r := by rw [if_pos rfl] at H; exact H
        clear H
        have H := H1
        clear H1
        have H' := Aside0.mk H
        clear H
        try go_wp2
        have n0_ := Aside0.mk (below_drew1 HB.out)
        clear HB
        have HB := n0_
        clear n0_
        have p130 : 0 ≤ (x5_1 : Int) := of_decide_eq_true u3_3
        have q130 : x5_1 < (l0.length : Int) := of_decide_eq_true u3_3
        obtain ⟨ad130, e130, hx130_0, hx130_1, hx130_2, hx130_3, hx130_4, hx130_5, hx130_6, hx130_7⟩ := at_T30 HR0.out x5_1 p130 q130
        have hw130_7 := hx130_7
        have hw130_6 := hx130_6
        have hw130_5 := hx130_5
        have hw130_4 := hx130_4
        have hw130_3 := hx130_3
        have hw130_2 := hx130_2
        have hw130_1 := hx130_1
        have hw130_0 := hx130_0
        cases e130
        replace hx130_0 := bc HB.out hx130_0
        replace hx130_1 := bc HB.out hx130_1
        replace hx130_2 := bc HB.out hx130_2
        replace hx130_3 := bc HB.out hx130_3
        replace hx130_4 := bc HB.out hx130_4
        replace hx130_5 := bc HB.out hx130_5
        replace hx130_6 := bc HB.out hx130_6
        replace hx130_7 := bc HB.out hx130_7
        replace p130 := eq_true p130
        replace q130 := eq_true q130
        have p131 : 0 ≤ (x5_1 : Int) := of_decide_eq_true u3_3
        have q131 : x5_1 < (l1.length : Int) := of_decide_eq_true u3_3
        obtain ⟨ad131, e131, hx131_0, hx131_1, hx131_2, hx131_3, hx131_4, hx131_5, hx131_6, hx131_7⟩ := at_T30 HR1.out x5_1 p131 q131
        have hw131_7 := hx131_7
        have hw131_6 := hx131_6
        have hw131_5 := hx131_5
        have hw131_4 := hx131_4
        have hw131_3 := hx131_3
        have hw131_2 := hx131_2
        have hw131_1 := hx131_1
        have hw131_0 := hx131_0
        cases e131
        replace hx131_0 := bc HB.out hx131_0
        replace hx131_1 := bc HB.out hx131_1
        replace hx131_2 := bc HB.out hx131_2
        replace hx131_3 := bc HB.out hx131_3
        replace hx131_4 := bc HB.out hx131_4
        replace hx131_5 := bc HB.out hx131_5
        replace hx131_6 := bc HB.out hx131_6
        replace hx131_7 := bc HB.out hx131_7
        replace p131 := eq_true p131
        replace q131 := eq_true q131
        refine start_ (n := 10) (S := fun w' => w'.cell? (ad130.add ((x5_1).toNat * 8)) = some (.string ((rd_T30 l0 x5_1).f0)) ∧ w'.cell? ⟨(ad130.add ((x5_1).toNat * 8)).block, (ad130.add ((x5_1).toNat * 8)).off + 1, none⟩ = some (.int .i64 ((rd_T30 l0 x5_1).f1)) ∧ w'.cell? ⟨(ad130.add ((x5_1).toNat * 8)).block, (ad130.add ((x5_1).toNat * 8)).off + 2, none⟩ = some (.string ((rd_T30 l0 x5_1).f2)) ∧ w'.cell? ⟨(ad130.add ((x5_1).toNat * 8)).block, (ad130.add ((x5_1).toNat * 8)).off + 3, none⟩ = some (.int .i64 ((rd_T30 l0 x5_1).f3.f0)) ∧ w'.cell? ⟨(ad130.add ((x5_1).toNat * 8)).block, (ad130.add ((x5_1).toNat * 8)).off + 4, none⟩ = some (.int .i64 ((rd_T30 l0 x5_1).f3.f1)) ∧ w'.cell? ⟨(ad130.add ((x5_1).toNat * 8)).block, (ad130.add ((x5_1).toNat * 8)).off + 5, none⟩ = some (.int .i64 ((rd_T30 l0 x5_1).f4)) ∧ w'.cell? ⟨(ad130.add ((x5_1).toNat * 8)).block, (ad130.add ((x5_1).toNat * 8)).off + 6, none⟩ = some (.int .i64 ((rd_T30 l0 x5_1).f5)) ∧ w'.cell? ⟨(ad130.add ((x5_1).toNat * 8)).block, (ad130.add ((x5_1).toNat * 8)).off + 7, none⟩ = some (.int .i64 ((rd_T30 l0 x5_1).f6)) ∧ w'.cell? (ad131.add ((x5_1).toNat * 8)) = some (.string ((rd_T30 l1 x5_1).f0)) ∧ w'.cell? ⟨(ad131.add ((x5_1).toNat * 8)).block, (ad131.add ((x5_1).toNat * 8)).off + 1, none⟩ = some (.int .i64 ((rd_T30 l1 x5_1).f1)) ∧ w'.cell? ⟨(ad131.add ((x5_1).toNat * 8)).block, (ad131.add ((x5_1).toNat * 8)).off + 2, none⟩ = some (.string ((rd_T30 l1 x5_1).f2)) ∧ w'.cell? ⟨(ad131.add ((x5_1).toNat * 8)).block, (ad131.add ((x5_1).toNat * 8)).off + 3, none⟩ = some (.int .i64 ((rd_T30 l1 x5_1).f3.f0)) ∧ w'.cell? ⟨(ad131.add ((x5_1).toNat * 8)).block, (ad131.add ((x5_1).toNat * 8)).off + 4, none⟩ = some (.int .i64 ((rd_T30 l1 x5_1).f3.f1)) ∧ w'.cell? ⟨(ad131.add ((x5_1).toNat * 8)).block, (ad131.add ((x5_1).toNat * 8)).off + 5, none⟩ = some (.int .i64 ((rd_T30 l1 x5_1).f4)) ∧ w'.cell? ⟨(ad131.add ((x5_1).toNat * 8)).block, (ad131.add ((x5_1).toNat * 8)).off + 6, none⟩ = some (.int .i64 ((rd_T30 l1 x5_1).f5)) ∧ w'.cell? ⟨(ad131.add ((x5_1).toNat * 8)).block, (ad131.add ((x5_1).toNat * 8)).off + 7, none⟩ = some (.int .i64 ((rd_T30 l1 x5_1).f6))) (ds := []) mk3_0 (by kernel_rfl) rfl rfl ⟨(bc HB.out hw130_0), (bc HB.out hw130_1), (bc HB.out hw130_2), (bc HB.out hw130_3), (bc HB.out hw130_4), (bc HB.out hw130_5), (bc HB.out hw130_6), (bc HB.out hw130_7), (bc HB.out hw131_0), (bc HB.out hw131_1), (bc HB.out hw131_2), (bc HB.out hw131_3), (bc HB.out hw131_4), (bc HB.out hw131_5), (bc HB.out hw131_6), (bc HB.out hw131_7)⟩ (fun hHeld => ?_); refine with_tabW laws_eqDeviceS.tab6 laws_eqDeviceS.bits6 (fun HT_ HW_ => ?_)
        generalize wr.drew = w9 at HB hx130_0 hx130_1 hx130_2 hx130_3 hx130_4 hx130_5 hx130_6 hx130_7 hx131_0 hx131_1 hx131_2 hx131_3 hx131_4 hx131_5 hx131_6 hx131_7 hHeld ⊢
        refine pz 0 17 mk3_1 (any_of HT_.out (by kernel_rfl)) ?_
        refine pz 1 18 mk3_2 (any_of HT_.out (by kernel_rfl)) ?_
        refine pz 2 19 mk3_3 (any_of HT_.out (by kernel_rfl)) ?_
        refine pz 4 21 mk3_4 (any_of HT_.out (by kernel_rfl)) ?_
        refine pz 5 22 mk3_5 (any_of HT_.out (by kernel_rfl)) ?_
        refine pz 6 23 mk3_6 (any_of HT_.out (by kernel_rfl)) ?_
        refine take_ (i := 3) (N := some 20) (v := ?_) (a' := ?_) mk3_7 rfl rfl (take_ofW HT_.out HW_.out (by kernel_rfl)) (fun _ _ _ h => h) (Or.inl ⟨by rfl, ?_⟩) hHeld ?_ ?_
        rotate_left
        ·rintro w' ⟨s0, s1, s2, s3, s4, s5, s6, s7, s8, s9, s10, s11, s12, s13, s14, s15⟩
         exact gs
        rotate_left
        ·exact ap
        refine take_ (i := 7) (N := some 24) (v := ?_) (a' := ?_) mk3_8 rfl rfl (take_ofW HT_.out HW_.out (by kernel_rfl)) (fun _ _ _ h => h) (Or.inl ⟨by rfl, ?_⟩) hHeld ?_ ?_
        rotate_left
        ·rintro w' ⟨s0, s1, s2, s3, s4, s5, s6, s7, s8, s9, s10, s11, s12, s13, s14, s15⟩
         exact gs
        rotate_left
        ·exact ap
        refine one_ (i := 8) (N := some 25) mk3_9 rfl rfl (one_of HT_.out (by kernel_rfl)) (by decide) (fun K hK => ?_)
        refine goes_ Try.func63 (by kernel_rfl) rfl #[.agg #[.string ((rd_T30 l0 x5_1).f0), .int .i64 ((rd_T30 l0 x5_1).f1), .string ((rd_T30 l0 x5_1).f2), .int .i64 ((rd_T30 l0 x5_1).f3.f0), .int .i64 ((rd_T30 l0 x5_1).f3.f1), .int .i64 ((rd_T30 l0 x5_1).f4), .int .i64 ((rd_T30 l0 x5_1).f5), .int .i64 ((rd_T30 l0 x5_1).f6)], .agg #[.string ((rd_T30 l1 x5_1).f0), .int .i64 ((rd_T30 l1 x5_1).f1), .string ((rd_T30 l1 x5_1).f2), .int .i64 ((rd_T30 l1 x5_1).f3.f0), .int .i64 ((rd_T30 l1 x5_1).f3.f1), .int .i64 ((rd_T30 l1 x5_1).f4), .int .i64 ((rd_T30 l1 x5_1).f5), .int .i64 ((rd_T30 l1 x5_1).f6)]] (by rfl) rfl rfl u3_5 ?_
        with_reducible refine (laws_eqDevice.calls ((rd_T30 l0 x5_1).f0) ((rd_T30 l0 x5_1).f1) ((rd_T30 l0 x5_1).f2) ((rd_T30 l0 x5_1).f3.f0) ((rd_T30 l0 x5_1).f3.f1) ((rd_T30 l0 x5_1).f4) ((rd_T30 l0 x5_1).f5) ((rd_T30 l0 x5_1).f6) ((rd_T30 l1 x5_1).f0) ((rd_T30 l1 x5_1).f1) ((rd_T30 l1 x5_1).f2) ((rd_T30 l1 x5_1).f3.f0) ((rd_T30 l1 x5_1).f3.f1) ((rd_T30 l1 x5_1).f4) ((rd_T30 l1 x5_1).f5) ((rd_T30 l1 x5_1).f6) true _ A7.out).mono ?_
        rintro e w10 ⟨rfl, hb⟩
        refine ⟨_, rfl, ?_⟩
        have n0_ := Aside0.mk (below_step u3_2 hb)
        clear HB
        have HB := n0_
        clear n0_
        (try clear hb)
        (try clear hb2)
        (try clear hk)
        (try clear hi)
        refine hK.out _ _ ⟨(bc HB.out hw130_0), (bc HB.out hw130_1), (bc HB.out hw130_2), (bc HB.out hw130_3), (bc HB.out hw130_4), (bc HB.out hw130_5), (bc HB.out hw130_6), (bc HB.out hw130_7), (bc HB.out hw131_0), (bc HB.out hw131_1), (bc HB.out hw131_2), (bc HB.out hw131_3), (bc HB.out hw131_4), (bc HB.out hw131_5), (bc HB.out hw131_6), (bc HB.out hw131_7)⟩ (fun hHeld => ?_)
        clear hK K
        refine norm_ (a' := ?_) ?_ ?_
        rotate_left
        ·show Act.put _ (some 25) _ = _
         simp only [Act.put, List.setIfInBounds_toArray, List.set_cons_zero, List.set_cons_succ, i64_w, i32_w]
         rfl
        refine pz 9 26 mk3_10 (any_of HT_.out (by kernel_rfl)) ?_
        refine done_ (done_of HT_.out (by kernel_rfl)) ?_
        try go_wp2
        go_roundg k1
        case measure => have := HK1.out; omega
        case rel => exact ⟨(wrap64 (x5_1 + 1)), u3_4, H', ⟨by have := HK1.out; omega⟩, ⟨by repeat (first | (with_reducible first | exact HB.out | apply below_alloc | apply pw_below_drewN | apply below_drew1) | exact HB.out)⟩⟩
       ·replace c8 := Bool.eq_false_iff.mpr c8
        subst c8
        have H1 : (some false) = some r := by rw [if_neg (show ¬ (false = true) by decide)] at H; exact H
        clear H
        have H := H1
        clear H1
        obtain rfl := Option.some.inj H
        try go_wp2
        have n0_ := Aside0.mk (below_drew1 HB.out)
        clear HB
        have HB := n0_
        clear n0_
        have p130 : 0 ≤ (x5_1 : Int) := of_decide_eq_true u3_3
        have q130 : x5_1 < (l0.length : Int) := of_decide_eq_true u3_3
        obtain ⟨ad130, e130, hx130_0, hx130_1, hx130_2, hx130_3, hx130_4, hx130_5, hx130_6, hx130_7⟩ := at_T30 HR0.out x5_1 p130 q130
        have hw130_7 := hx130_7
        have hw130_6 := hx130_6
        have hw130_5 := hx130_5
        have hw130_4 := hx130_4
        have hw130_3 := hx130_3
        have hw130_2 := hx130_2
        have hw130_1 := hx130_1
        have hw130_0 := hx130_0
        cases e130
        replace hx130_0 := bc HB.out hx130_0
        replace hx130_1 := bc HB.out hx130_1
        replace hx130_2 := bc HB.out hx130_2
        replace hx130_3 := bc HB.out hx130_3
        replace hx130_4 := bc HB.out hx130_4
        replace hx130_5 := bc HB.out hx130_5
        replace hx130_6 := bc HB.out hx130_6
        replace hx130_7 := bc HB.out hx130_7
        replace p130 := eq_true p130
        replace q130 := eq_true q130
        have p131 : 0 ≤ (x5_1 : Int) := of_decide_eq_true u3_3
        have q131 : x5_1 < (l1.length : Int) := of_decide_eq_true u3_3
        obtain ⟨ad131, e131, hx131_0, hx131_1, hx131_2, hx131_3, hx131_4, hx131_5, hx131_6, hx131_7⟩ := at_T30 HR1.out x5_1 p131 q131
        have hw131_7 := hx131_7
        have hw131_6 := hx131_6
        have hw131_5 := hx131_5
        have hw131_4 := hx131_4
        have hw131_3 := hx131_3
        have hw131_2 := hx131_2
        have hw131_1 := hx131_1
        have hw131_0 := hx131_0
        cases e131
        replace hx131_0 := bc HB.out hx131_0
        replace hx131_1 := bc HB.out hx131_1
        replace hx131_2 := bc HB.out hx131_2
        replace hx131_3 := bc HB.out hx131_3
        replace hx131_4 := bc HB.out hx131_4
        replace hx131_5 := bc HB.out hx131_5
        replace hx131_6 := bc HB.out hx131_6
        replace hx131_7 := bc HB.out hx131_7
        replace p131 := eq_true p131
        replace q131 := eq_true q131
        refine start_ (n := 10) (S := fun w' => w'.cell? (ad130.add ((x5_1).toNat * 8)) = some (.string ((rd_T30 l0 x5_1).f0)) ∧ w'.cell? ⟨(ad130.add ((x5_1).toNat * 8)).block, (ad130.add ((x5_1).toNat * 8)).off + 1, none⟩ = some (.int .i64 ((rd_T30 l0 x5_1).f1)) ∧ w'.cell? ⟨(ad130.add ((x5_1).toNat * 8)).block, (ad130.add ((x5_1).toNat * 8)).off + 2, none⟩ = some (.string ((rd_T30 l0 x5_1).f2)) ∧ w'.cell? ⟨(ad130.add ((x5_1).toNat * 8)).block, (ad130.add ((x5_1).toNat * 8)).off + 3, none⟩ = some (.int .i64 ((rd_T30 l0 x5_1).f3.f0)) ∧ w'.cell? ⟨(ad130.add ((x5_1).toNat * 8)).block, (ad130.add ((x5_1).toNat * 8)).off + 4, none⟩ = some (.int .i64 ((rd_T30 l0 x5_1).f3.f1)) ∧ w'.cell? ⟨(ad130.add ((x5_1).toNat * 8)).block, (ad130.add ((x5_1).toNat * 8)).off + 5, none⟩ = some (.int .i64 ((rd_T30 l0 x5_1).f4)) ∧ w'.cell? ⟨(ad130.add ((x5_1).toNat * 8)).block, (ad130.add ((x5_1).toNat * 8)).off + 6, none⟩ = some (.int .i64 ((rd_T30 l0 x5_1).f5)) ∧ w'.cell? ⟨(ad130.add ((x5_1).toNat * 8)).block, (ad130.add ((x5_1).toNat * 8)).off + 7, none⟩ = some (.int .i64 ((rd_T30 l0 x5_1).f6)) ∧ w'.cell? (ad131.add ((x5_1).toNat * 8)) = some (.string ((rd_T30 l1 x5_1).f0)) ∧ w'.cell? ⟨(ad131.add ((x5_1).toNat * 8)).block, (ad131.add ((x5_1).toNat * 8)).off + 1, none⟩ = some (.int .i64 ((rd_T30 l1 x5_1).f1)) ∧ w'.cell? ⟨(ad131.add ((x5_1).toNat * 8)).block, (ad131.add ((x5_1).toNat * 8)).off + 2, none⟩ = some (.string ((rd_T30 l1 x5_1).f2)) ∧ w'.cell? ⟨(ad131.add ((x5_1).toNat * 8)).block, (ad131.add ((x5_1).toNat * 8)).off + 3, none⟩ = some (.int .i64 ((rd_T30 l1 x5_1).f3.f0)) ∧ w'.cell? ⟨(ad131.add ((x5_1).toNat * 8)).block, (ad131.add ((x5_1).toNat * 8)).off + 4, none⟩ = some (.int .i64 ((rd_T30 l1 x5_1).f3.f1)) ∧ w'.cell? ⟨(ad131.add ((x5_1).toNat * 8)).block, (ad131.add ((x5_1).toNat * 8)).off + 5, none⟩ = some (.int .i64 ((rd_T30 l1 x5_1).f4)) ∧ w'.cell? ⟨(ad131.add ((x5_1).toNat * 8)).block, (ad131.add ((x5_1).toNat * 8)).off + 6, none⟩ = some (.int .i64 ((rd_T30 l1 x5_1).f5)) ∧ w'.cell? ⟨(ad131.add ((x5_1).toNat * 8)).block, (ad131.add ((x5_1).toNat * 8)).off + 7, none⟩ = some (.int .i64 ((rd_T30 l1 x5_1).f6))) (ds := []) mk3_0 (by kernel_rfl) rfl rfl ⟨(bc HB.out hw130_0), (bc HB.out hw130_1), (bc HB.out hw130_2), (bc HB.out hw130_3), (bc HB.out hw130_4), (bc HB.out hw130_5), (bc HB.out hw130_6), (bc HB.out hw130_7), (bc HB.out hw131_0), (bc HB.out hw131_1), (bc HB.out hw131_2), (bc HB.out hw131_3), (bc HB.out hw131_4), (bc HB.out hw131_5), (bc HB.out hw131_6), (bc HB.out hw131_7)⟩ (fun hHeld => ?_); refine with_tabW laws_eqDeviceS.tab6 laws_eqDeviceS.bits6 (fun HT_ HW_ => ?_)
        generalize wr.drew = w11 at HB hx130_0 hx130_1 hx130_2 hx130_3 hx130_4 hx130_5 hx130_6 hx130_7 hx131_0 hx131_1 hx131_2 hx131_3 hx131_4 hx131_5 hx131_6 hx131_7 hHeld ⊢
        refine pz 0 17 mk3_1 (any_of HT_.out (by kernel_rfl)) ?_
        refine pz 1 18 mk3_2 (any_of HT_.out (by kernel_rfl)) ?_
        refine pz 2 19 mk3_3 (any_of HT_.out (by kernel_rfl)) ?_
        refine pz 4 21 mk3_4 (any_of HT_.out (by kernel_rfl)) ?_
        refine pz 5 22 mk3_5 (any_of HT_.out (by kernel_rfl)) ?_
        refine pz 6 23 mk3_6 (any_of HT_.out (by kernel_rfl)) ?_
        refine take_ (i := 3) (N := some 20) (v := ?_) (a' := ?_) mk3_7 rfl rfl (take_ofW HT_.out HW_.out (by kernel_rfl)) (fun _ _ _ h => h) (Or.inl ⟨by rfl, ?_⟩) hHeld ?_ ?_
        rotate_left
        ·rintro w' ⟨s0, s1, s2, s3, s4, s5, s6, s7, s8, s9, s10, s11, s12, s13, s14, s15⟩
         exact gs
        rotate_left
        ·exact ap
        refine take_ (i := 7) (N := some 24) (v := ?_) (a' := ?_) mk3_8 rfl rfl (take_ofW HT_.out HW_.out (by kernel_rfl)) (fun _ _ _ h => h) (Or.inl ⟨by rfl, ?_⟩) hHeld ?_ ?_
        rotate_left
        ·rintro w' ⟨s0, s1, s2, s3, s4, s5, s6, s7, s8, s9, s10, s11, s12, s13, s14, s15⟩
         exact gs
        rotate_left
        ·exact ap
        refine one_ (i := 8) (N := some 25) mk3_9 rfl rfl (one_of HT_.out (by kernel_rfl)) (by decide) (fun K hK => ?_)
        refine goes_ Try.func63 (by kernel_rfl) rfl #[.agg #[.string ((rd_T30 l0 x5_1).f0), .int .i64 ((rd_T30 l0 x5_1).f1), .string ((rd_T30 l0 x5_1).f2), .int .i64 ((rd_T30 l0 x5_1).f3.f0), .int .i64 ((rd_T30 l0 x5_1).f3.f1), .int .i64 ((rd_T30 l0 x5_1).f4), .int .i64 ((rd_T30 l0 x5_1).f5), .int .i64 ((rd_T30 l0 x5_1).f6)], .agg #[.string ((rd_T30 l1 x5_1).f0), .int .i64 ((rd_T30 l1 x5_1).f1), .string ((rd_T30 l1 x5_1).f2), .int .i64 ((rd_T30 l1 x5_1).f3.f0), .int .i64 ((rd_T30 l1 x5_1).f3.f1), .int .i64 ((rd_T30 l1 x5_1).f4), .int .i64 ((rd_T30 l1 x5_1).f5), .int .i64 ((rd_T30 l1 x5_1).f6)]] (by rfl) rfl rfl u3_5 ?_
        with_reducible refine (laws_eqDevice.calls ((rd_T30 l0 x5_1).f0) ((rd_T30 l0 x5_1).f1) ((rd_T30 l0 x5_1).f2) ((rd_T30 l0 x5_1).f3.f0) ((rd_T30 l0 x5_1).f3.f1) ((rd_T30 l0 x5_1).f4) ((rd_T30 l0 x5_1).f5) ((rd_T30 l0 x5_1).f6) ((rd_T30 l1 x5_1).f0) ((rd_T30 l1 x5_1).f1) ((rd_T30 l1 x5_1).f2) ((rd_T30 l1 x5_1).f3.f0) ((rd_T30 l1 x5_1).f3.f1) ((rd_T30 l1 x5_1).f4) ((rd_T30 l1 x5_1).f5) ((rd_T30 l1 x5_1).f6) false _ A7.out).mono ?_
        rintro e w12 ⟨rfl, hb⟩
        refine ⟨_, rfl, ?_⟩
        have n0_ := Aside0.mk (below_step u3_2 hb)
        clear HB
        have HB := n0_
        clear n0_
        (try clear hb)
        (try clear hb2)
        (try clear hk)
        (try clear hi)
        refine hK.out _ _ ⟨(bc HB.out hw130_0), (bc HB.out hw130_1), (bc HB.out hw130_2), (bc HB.out hw130_3), (bc HB.out hw130_4), (bc HB.out hw130_5), (bc HB.out hw130_6), (bc HB.out hw130_7), (bc HB.out hw131_0), (bc HB.out hw131_1), (bc HB.out hw131_2), (bc HB.out hw131_3), (bc HB.out hw131_4), (bc HB.out hw131_5), (bc HB.out hw131_6), (bc HB.out hw131_7)⟩ (fun hHeld => ?_)
        clear hK K
        refine norm_ (a' := ?_) ?_ ?_
        rotate_left
        ·show Act.put _ (some 25) _ = _
         simp only [Act.put, List.setIfInBounds_toArray, List.set_cons_zero, List.set_cons_succ, i64_w, i32_w]
         rfl
        refine pz 9 26 mk3_10 (any_of HT_.out (by kernel_rfl)) ?_
        refine done_ (done_of HT_.out (by kernel_rfl)) ?_
        try go_wp2
        go_ret
        exact ⟨by first | rfl | (simp [*] <;> rfl), by repeat (first | (with_reducible first | exact HB.out | apply below_alloc | apply pw_below_drewN | apply below_drew1) | exact HB.out)⟩
      ·rw [if_neg c6] at H
       exact absurd H (by simp)
     ·rw [if_neg c5] at H
      exact absurd H (by simp)
    ·rw [if_neg c4] at H
     have c4b0 : decide (x5_1 < (l0.length : Int)) = false := decide_eq_false c4
     clear c4
     obtain rfl := Option.some.inj H
     go_wp2
     go_ret
     exact ⟨by first | rfl | (simp [*] <;> rfl), by repeat (first | (with_reducible first | exact HB.out | apply below_alloc | apply pw_below_drewN | apply below_drew1) | exact HB.out)⟩
 ·rw [if_neg c3] at H
  have c3b0 : ((l0.length : Int) == (l1.length : Int)) = false := beq_eq_false_iff_ne.mpr c3
  have c3b1 : ((l0.length : Int) != (l1.length : Int)) = true := bne_iff_ne.mpr c3
  have c3b2 : (l0.length == l1.length) = false := by first | simpa using c3 | (simp at c3 ⊢; omega)
  obtain rfl := Option.some.inj H
  go_enter Try.func23, Try.ntmps23
  go_wp2
  go_ret
  exact ⟨by first | rfl | (simp [*] <;> rfl), by repeat (first | (with_reducible first | exact HB.out | apply below_alloc | apply pw_below_drewN | apply below_drew1) | exact HB.out)⟩

def laws_markText.l0 : Nat → Int → ByteArray → Option (ByteArray)
 | 0, _, _ => none
 | k + 1, x0, x3 => if x0 > 0 then ((some (([(wrap64 (48 + (Int.tmod x0 10))) % 256] : List Int) : List Int)).bind fun y133 => (if (strOfNums y133).size + x3.size ≤ 9223372036854775807 then (laws_markText.l0 k (wrap64 (Int.tdiv x0 10)) ((strOfNums y133) ++ x3)) else (none))) else (if 1 + x3.size ≤ 9223372036854775807 then (some ((⟨#[109]⟩ : ByteArray) ++ x3)) else (none))
def laws_markText.f (k : Nat) (a0 : Int) : Option (ByteArray) := if a0 ≤ 0 then (some (⟨#[109, 48]⟩ : ByteArray)) else (laws_markText.l0 k a0 (⟨#[]⟩ : ByteArray))
theorem laws_markText.mono_l : ∀ k, (∀ y0 y1, LeO (laws_markText.l0 k y0 y1) (laws_markText.l0 (k + 1) y0 y1))
 | 0 => fun _ _ r h => by simp [laws_markText.l0] at h
 | k + 1 => by
  have ih0 := laws_markText.mono_l k
  ·intro y0 y1
   unfold laws_markText.l0
   repeat' first
   | (with_reducible exact ih0 _ _)
   | (with_reducible exact LeO.refl _)
   | (with_reducible exact LeO.none _)
   | (with_reducible refine LeO.ite ?_ ?_)
   | (with_reducible refine LeO.bind ?_ (fun _ => ?_))
theorem laws_markText.mono : ∀ a0 k, LeO (laws_markText.f k a0) (laws_markText.f (k + 1) a0) := by
 intro a0 k
 have ih0 := laws_markText.mono_l k
 unfold laws_markText.f
 repeat' first
   | (with_reducible exact ih0 _ _)
   | (with_reducible exact LeO.refl _)
   | (with_reducible exact LeO.none _)
   | (with_reducible refine LeO.ite ?_ ?_)
   | (with_reducible refine LeO.bind ?_ (fun _ => ?_))
set_option maxHeartbeats 8000000 in
set_option maxRecDepth 100000 in
theorem laws_markText.calls (k : Nat) (a0 : Int) (r : ByteArray) (w : World) (h : laws_markText.f k a0 = some r) :
  Calls Try.prog 68 #[.int .i64 a0] w fun e w' => e = .returned (.string r) ∧ Below w.heap.size w w' := by
 have HB := Aside0.mk (Below.refl w.heap.size w)
 have H : (if a0 ≤ 0 then (some (⟨#[109, 48]⟩ : ByteArray)) else (laws_markText.l0 k a0 (⟨#[]⟩ : ByteArray))) = some r := h
 clear h
 by_cases c2 : a0 ≤ 0
 ·rw [if_pos c2] at H
  have c2b0 : decide (a0 ≤ 0) = true := decide_eq_true c2
  clear c2
  obtain rfl := Option.some.inj H
  go_enter Try.func68, Try.ntmps68
  go_wp2
  go_ret
  exact ⟨by first | rfl | (simp [*] <;> rfl), by repeat (first | (with_reducible first | exact HB.out | apply below_alloc | apply pw_below_drewN | apply below_drew1) | exact HB.out)⟩
 ·rw [if_neg c2] at H
  have c2b0 : decide (a0 ≤ 0) = false := decide_eq_false c2
  clear c2
  have H' := Aside0.mk H
  clear H
  go_enter Try.func68, Try.ntmps68
  go_wp2
  go_loopg [0, 3] k (fun kq v0 v3 w' => ∃ (x0_1 : Int) (x3_1 : ByteArray), v0 = .int .i64 x0_1 ∧ v3 = .string x3_1 ∧ Aside0 (laws_markText.l0 kq x0_1 x3_1 = some r) ∧ Aside0 (kq ≤ k) ∧ Aside0 (Below w.heap.size w w'))
  case atStart => exact ⟨(a0), ((⟨#[]⟩ : ByteArray)), u3_4, u3_4, H', ⟨Nat.le_refl _⟩, ⟨by repeat (first | (with_reducible first | exact HB.out | apply below_alloc | apply pw_below_drewN | apply below_drew1) | exact HB.out)⟩⟩
  case round =>
   clear H'
   try clear c2
   try clear c2b0
   try clear p2
   obtain ⟨x0_1, x3_1, rfl, rfl, HA, HK1, HB⟩ := hrel
   cases gk with
   | zero => exact absurd HA.out (by simp [laws_markText.l0])
   | succ k1 =>
    have H := HA.out
    clear HA
    simp only [laws_markText.l0] at H
    by_cases c3 : x0_1 > 0
    ·rw [if_pos c3] at H
     have c3b0 : decide (0 < x0_1) = true := decide_eq_true c3
     clear c3
     obtain ⟨y133, hy133⟩ : ∃ y_ : List Int, y_ = (([(wrap64 (48 + (Int.tmod x0_1 10))) % 256] : List Int)) := ⟨_, rfl⟩
     replace H : (if (strOfNums y133).size + x3_1.size ≤ 9223372036854775807 then (laws_markText.l0 k1 (wrap64 (Int.tdiv x0_1 10)) ((strOfNums y133) ++ x3_1)) else (none)) = some r := by first | (rw [hy133]; with_reducible exact H) | (have H2_ := (Option.bind_some _ _).symm.trans H; rw [hy133]; with_reducible exact H2_) | (have H2_ := (Option.bind_some _ _).symm.trans H; with_reducible exact H2_) | with_reducible exact H | (rw [hy133]; exact H) | exact H
     have Ny133 := Aside0.mk hy133
     clear hy133
     by_cases c4 : (strOfNums y133).size + x3_1.size ≤ 9223372036854775807
     ·rw [if_pos c4] at H
      have c4b0 := eq_true c4
      have c4b1 : decide ((strOfNums y133).size + x3_1.size ≤ 9223372036854775807) = true := decide_eq_true c4
      try have c4b2 : (9223372036854775807 < (strOfNums y133).size + x3_1.size) = False := eq_false (Nat.not_lt.2 c4)
      have H' := Aside0.mk H
      clear H
      go_wp2_with (first | ((with_reducible refine gate_dst (N := 12) rfl ?_); refine Kd.R_lit (Kd.int .u8) _ 5 ?hg (N := 12) ?hd (xs := ([(wrap64 (48 + (Int.tmod x0_1 10))) % 256] : List Int)) (inner := [.int .u8 ((wrap64 (48 + (Int.tmod x0_1 10))) % 256)]) (ok := fun _ => True) (okp := fun _ => True) ?hr ?hp (fun _ hk => hk) trivial (Below.refl _ _) (Nat.le_refl _) (by simp) ?_; (case hd => rfl); (case hg => rfl); (case hr => first | (go_simp; done) | (go_simp; rfl)); (case hp => exact (Reps.one (show Kd.M (Kd.int .u8) _ _ _ ((wrap64 (48 + (Int.tmod x0_1 10))) % 256) [.int .u8 ((wrap64 (48 + (Int.tmod x0_1 10))) % 256)] from rfl) (Reps.none _ _))); intro v134 w5 ho6 hb hg_ hnew_; clear hg_ hnew_; (first | rw [← Ny133.out] at ho6 | (simp only [Int.reduceToNat] at ho6; rw [← Ny133.out] at ho6)); have n0_ := Aside0.mk (Kd.R_lower ho6 (below_size u3_2)); have n1_ := Aside0.mk (below_step u3_2 hb); clear HB; have HO135 := n0_; have HB := n1_; clear n0_ n1_; clear hb ho6; have hcv7 := own_string (P := Try.prog) Try.underlying44 Try.underlying5 Try.underlying9 (Kd.own_of_R HO135.out)))
      go_roundg k1
      case measure => have := HK1.out; omega
      case rel => exact ⟨(wrap64 (Int.tdiv x0_1 10)), ((strOfNums y133) ++ x3_1), u3_4, u3_4, H', ⟨by have := HK1.out; omega⟩, ⟨by repeat (first | (with_reducible first | exact HB.out | apply below_alloc | apply pw_below_drewN | apply below_drew1) | exact HB.out)⟩⟩
     ·rw [if_neg c4] at H
      exact absurd H (by simp)
    ·rw [if_neg c3] at H
     have c3b0 : decide (0 < x0_1) = false := decide_eq_false c3
     clear c3
     by_cases c8 : 1 + x3_1.size ≤ 9223372036854775807
     ·rw [if_pos c8] at H
      have c8b0 := eq_true c8
      have c8b1 : decide (1 + x3_1.size ≤ 9223372036854775807) = true := decide_eq_true c8
      try have c8b2 : (9223372036854775807 < 1 + x3_1.size) = False := eq_false (Nat.not_lt.2 c8)
      obtain rfl := Option.some.inj H
      go_wp2
      go_ret
      exact ⟨by first | rfl | (simp [*] <;> rfl), by repeat (first | (with_reducible first | exact HB.out | apply below_alloc | apply pw_below_drewN | apply below_drew1) | exact HB.out)⟩
     ·rw [if_neg c8] at H
      exact absurd H (by simp)

def laws_markDeviceS.l0 : Nat → List (S30) → Int → Int → Option (Int × (List (S30)))
 | 0, _, _, _ => none
 | k + 1, x0, x1, x5 => if x5 < (x0.length : Int) then ((laws_markText.f k x1).bind fun t136 => (if 0 ≤ x5 then ((some (x0.set (x5 : Int).toNat (⟨t136, (rd_T30 x0 x5).f1, (rd_T30 x0 x5).f2, (⟨(rd_T30 x0 x5).f3.f0, (rd_T30 x0 x5).f3.f1⟩ : S28), (rd_T30 x0 x5).f4, (rd_T30 x0 x5).f5, (rd_T30 x0 x5).f6⟩ : S30) : List (S30))).bind fun y137 => ((some (y137.set (x5 : Int).toNat (⟨(rd_T30 y137 x5).f0, wrap64 (x1 + 1), (rd_T30 y137 x5).f2, (⟨(rd_T30 y137 x5).f3.f0, (rd_T30 y137 x5).f3.f1⟩ : S28), (rd_T30 y137 x5).f4, (rd_T30 y137 x5).f5, (rd_T30 y137 x5).f6⟩ : S30) : List (S30))).bind fun y138 => ((laws_markText.f k (wrap64 ((wrap64 (x1 + 1)) + 1))).bind fun t139 => ((some (y138.set (x5 : Int).toNat (⟨(rd_T30 y138 x5).f0, (rd_T30 y138 x5).f1, t139, (⟨(rd_T30 y138 x5).f3.f0, (rd_T30 y138 x5).f3.f1⟩ : S28), (rd_T30 y138 x5).f4, (rd_T30 y138 x5).f5, (rd_T30 y138 x5).f6⟩ : S30) : List (S30))).bind fun y140 => ((some (y140.set (x5 : Int).toNat (⟨(rd_T30 y140 x5).f0, (rd_T30 y140 x5).f1, (rd_T30 y140 x5).f2, (⟨wrap64 ((wrap64 ((wrap64 (x1 + 1)) + 1)) + 1), (rd_T30 y140 x5).f3.f1⟩ : S28), (rd_T30 y140 x5).f4, (rd_T30 y140 x5).f5, (rd_T30 y140 x5).f6⟩ : S30) : List (S30))).bind fun y141 => ((some (y141.set (x5 : Int).toNat (⟨(rd_T30 y141 x5).f0, (rd_T30 y141 x5).f1, (rd_T30 y141 x5).f2, (⟨(rd_T30 y141 x5).f3.f0, wrap64 ((wrap64 ((wrap64 ((wrap64 (x1 + 1)) + 1)) + 1)) + 1)⟩ : S28), (rd_T30 y141 x5).f4, (rd_T30 y141 x5).f5, (rd_T30 y141 x5).f6⟩ : S30) : List (S30))).bind fun y142 => ((some (y142.set (x5 : Int).toNat (⟨(rd_T30 y142 x5).f0, (rd_T30 y142 x5).f1, (rd_T30 y142 x5).f2, (⟨(rd_T30 y142 x5).f3.f0, (rd_T30 y142 x5).f3.f1⟩ : S28), wrap64 ((wrap64 ((wrap64 ((wrap64 ((wrap64 (x1 + 1)) + 1)) + 1)) + 1)) + 1), (rd_T30 y142 x5).f5, (rd_T30 y142 x5).f6⟩ : S30) : List (S30))).bind fun y143 => ((some (y143.set (x5 : Int).toNat (⟨(rd_T30 y143 x5).f0, (rd_T30 y143 x5).f1, (rd_T30 y143 x5).f2, (⟨(rd_T30 y143 x5).f3.f0, (rd_T30 y143 x5).f3.f1⟩ : S28), (rd_T30 y143 x5).f4, wrap64 ((wrap64 ((wrap64 ((wrap64 ((wrap64 ((wrap64 (x1 + 1)) + 1)) + 1)) + 1)) + 1)) + 1), (rd_T30 y143 x5).f6⟩ : S30) : List (S30))).bind fun y144 => (laws_markDeviceS.l0 k (y144.set (x5 : Int).toNat (⟨(rd_T30 y144 x5).f0, (rd_T30 y144 x5).f1, (rd_T30 y144 x5).f2, (⟨(rd_T30 y144 x5).f3.f0, (rd_T30 y144 x5).f3.f1⟩ : S28), (rd_T30 y144 x5).f4, (rd_T30 y144 x5).f5, wrap64 ((wrap64 ((wrap64 ((wrap64 ((wrap64 ((wrap64 ((wrap64 (x1 + 1)) + 1)) + 1)) + 1)) + 1)) + 1)) + 1)⟩ : S30)) (wrap64 ((wrap64 ((wrap64 ((wrap64 ((wrap64 ((wrap64 ((wrap64 ((wrap64 (x1 + 1)) + 1)) + 1)) + 1)) + 1)) + 1)) + 1)) + 1)) (wrap64 (x5 + 1))))))))))) else (none))) else (some (x1, x0))
def laws_markDeviceS.f (k : Nat) (l0 : List (S30)) (a1 : Int) : Option (Int × (List (S30))) := laws_markDeviceS.l0 k l0 a1 0
theorem laws_markDeviceS.mono_l : ∀ k, (∀ y0 y1 y2, LeO (laws_markDeviceS.l0 k y0 y1 y2) (laws_markDeviceS.l0 (k + 1) y0 y1 y2))
 | 0 => fun _ _ _ r h => by simp [laws_markDeviceS.l0] at h
 | k + 1 => by
  have ih0 := laws_markDeviceS.mono_l k
  ·intro y0 y1 y2
   unfold laws_markDeviceS.l0
   repeat' first
   | (with_reducible exact ih0 _ _ _)
   | (with_reducible exact laws_markText.mono _ _)
   | (with_reducible exact LeO.refl _)
   | (with_reducible exact LeO.none _)
   | (with_reducible refine LeO.ite ?_ ?_)
   | (with_reducible refine LeO.bind ?_ (fun _ => ?_))
theorem laws_markDeviceS.mono : ∀ a0 a1 k, LeO (laws_markDeviceS.f k a0 a1) (laws_markDeviceS.f (k + 1) a0 a1) := by
 intro a0 a1 k
 have ih0 := laws_markDeviceS.mono_l k
 unfold laws_markDeviceS.f
 repeat' first
   | (with_reducible exact ih0 _ _ _)
   | (with_reducible exact laws_markText.mono _ _)
   | (with_reducible exact LeO.refl _)
   | (with_reducible exact LeO.none _)
   | (with_reducible refine LeO.ite ?_ ?_)
   | (with_reducible refine LeO.bind ?_ (fun _ => ?_))
set_option maxHeartbeats 8000000 in
set_option maxRecDepth 100000 in
theorem laws_markDeviceS.calls (k : Nat) (P0_ : Nat → Prop) (u9000_ : Value) (l0 : List (S30)) (a1 : Int) (r1 : Int) (r2 : List (S30)) (w0 w : World) (hB : Below w0.heap.size w0 w) (ho0 : Kd.R k30 30 w w0.heap.size P0_ u9000_ l0) (h : laws_markDeviceS.f k l0 a1 = some (r1, r2)) :
  Calls Try.prog 36 #[u9000_, .int .i64 a1] w fun e w' => e = .returned (.int .i64 r1) ∧ Kd.R k30 30 w' w0.heap.size (fun k_ => (P0_ k_ ∨ w.heap.size ≤ k_)) u9000_ r2 ∧ Below w0.heap.size w0 w' ∧ Kept w w' (fun k_ => P0_ k_) := by
 have HO0 := Aside0.mk (show Kd.R k30 30 w w0.heap.size (fun k_ => (P0_ k_ ∨ w.heap.size ≤ k_)) u9000_ l0 from Kd.R_mono ho0 (fun k_ hk => (.inl hk)))
 have HK := Aside0.mk (Kept.refl w (fun k_ => P0_ k_))
 have HW0 := Aside0.mk hB.size
 have HB := Aside0.mk hB
 clear hB
 have H : (laws_markDeviceS.l0 k l0 a1 0) = some (r1, r2) := h
 clear h
 have H' := Aside0.mk H
 clear H
 go_enter Try.func36, Try.ntmps36
 go_wp2
 go_loopg [1, 5] k (fun kq v1 v5 w' => ∃ (x0_1 : List (S30)) (x1_1 : Int) (x5_1 : Int), v1 = .int .i64 x1_1 ∧ v5 = .int .i64 x5_1 ∧ Aside0 (laws_markDeviceS.l0 kq x0_1 x1_1 x5_1 = some (r1, r2)) ∧ Aside0 (kq ≤ k) ∧ Aside0 (Kd.R k30 30 w' w0.heap.size (fun k_ => (P0_ k_ ∨ w.heap.size ≤ k_)) u9000_ x0_1) ∧ Aside0 (Kept w w' (fun k_ => P0_ k_)) ∧ Aside0 (Below w0.heap.size w0 w'))
 case atStart => exact ⟨(l0), (a1), (0), u3_4, u3_4, H', ⟨Nat.le_refl _⟩, ⟨by (with_reducible repeat (first | apply Kd.R_alloc | apply Kd.R_drewN | apply Kd.R_drew)); exact HO0.out⟩, ⟨by repeat (first | (with_reducible first | exact HK.out | apply Kept.alloc | apply Kept.drewN | apply Kept.drew) | exact HK.out)⟩, ⟨by repeat (first | (with_reducible first | exact HB.out | apply below_alloc | apply pw_below_drewN | apply below_drew1) | exact HB.out)⟩⟩
 case round =>
  clear H'
  try clear p2
  obtain ⟨x0_1, x1_1, x5_1, rfl, rfl, HA, HK1, HO_0, HK, HB⟩ := hrel
  cases gk with
  | zero => exact absurd HA.out (by simp [laws_markDeviceS.l0])
  | succ k1 =>
   have H := HA.out
   clear HA
   simp only [laws_markDeviceS.l0] at H
   by_cases c3 : x5_1 < (x0_1.length : Int)
   ·rw [if_pos c3] at H
    have c3b0 : decide (x5_1 < (x0_1.length : Int)) = true := decide_eq_true c3
    clear c3
    replace H := Option.bind_eq_some_iff.mp H
    obtain ⟨t136, A40, H⟩ := H
    replace H : (if 0 ≤ x5_1 then ((some (x0_1.set (x5_1 : Int).toNat (⟨t136, (rd_T30 x0_1 x5_1).f1, (rd_T30 x0_1 x5_1).f2, (⟨(rd_T30 x0_1 x5_1).f3.f0, (rd_T30 x0_1 x5_1).f3.f1⟩ : S28), (rd_T30 x0_1 x5_1).f4, (rd_T30 x0_1 x5_1).f5, (rd_T30 x0_1 x5_1).f6⟩ : S30) : List (S30))).bind fun y137 => ((some (y137.set (x5_1 : Int).toNat (⟨(rd_T30 y137 x5_1).f0, wrap64 (x1_1 + 1), (rd_T30 y137 x5_1).f2, (⟨(rd_T30 y137 x5_1).f3.f0, (rd_T30 y137 x5_1).f3.f1⟩ : S28), (rd_T30 y137 x5_1).f4, (rd_T30 y137 x5_1).f5, (rd_T30 y137 x5_1).f6⟩ : S30) : List (S30))).bind fun y138 => ((laws_markText.f k1 (wrap64 ((wrap64 (x1_1 + 1)) + 1))).bind fun t139 => ((some (y138.set (x5_1 : Int).toNat (⟨(rd_T30 y138 x5_1).f0, (rd_T30 y138 x5_1).f1, t139, (⟨(rd_T30 y138 x5_1).f3.f0, (rd_T30 y138 x5_1).f3.f1⟩ : S28), (rd_T30 y138 x5_1).f4, (rd_T30 y138 x5_1).f5, (rd_T30 y138 x5_1).f6⟩ : S30) : List (S30))).bind fun y140 => ((some (y140.set (x5_1 : Int).toNat (⟨(rd_T30 y140 x5_1).f0, (rd_T30 y140 x5_1).f1, (rd_T30 y140 x5_1).f2, (⟨wrap64 ((wrap64 ((wrap64 (x1_1 + 1)) + 1)) + 1), (rd_T30 y140 x5_1).f3.f1⟩ : S28), (rd_T30 y140 x5_1).f4, (rd_T30 y140 x5_1).f5, (rd_T30 y140 x5_1).f6⟩ : S30) : List (S30))).bind fun y141 => ((some (y141.set (x5_1 : Int).toNat (⟨(rd_T30 y141 x5_1).f0, (rd_T30 y141 x5_1).f1, (rd_T30 y141 x5_1).f2, (⟨(rd_T30 y141 x5_1).f3.f0, wrap64 ((wrap64 ((wrap64 ((wrap64 (x1_1 + 1)) + 1)) + 1)) + 1)⟩ : S28), (rd_T30 y141 x5_1).f4, (rd_T30 y141 x5_1).f5, (rd_T30 y141 x5_1).f6⟩ : S30) : List (S30))).bind fun y142 => ((some (y142.set (x5_1 : Int).toNat (⟨(rd_T30 y142 x5_1).f0, (rd_T30 y142 x5_1).f1, (rd_T30 y142 x5_1).f2, (⟨(rd_T30 y142 x5_1).f3.f0, (rd_T30 y142 x5_1).f3.f1⟩ : S28), wrap64 ((wrap64 ((wrap64 ((wrap64 ((wrap64 (x1_1 + 1)) + 1)) + 1)) + 1)) + 1), (rd_T30 y142 x5_1).f5, (rd_T30 y142 x5_1).f6⟩ : S30) : List (S30))).bind fun y143 => ((some (y143.set (x5_1 : Int).toNat (⟨(rd_T30 y143 x5_1).f0, (rd_T30 y143 x5_1).f1, (rd_T30 y143 x5_1).f2, (⟨(rd_T30 y143 x5_1).f3.f0, (rd_T30 y143 x5_1).f3.f1⟩ : S28), (rd_T30 y143 x5_1).f4, wrap64 ((wrap64 ((wrap64 ((wrap64 ((wrap64 ((wrap64 (x1_1 + 1)) + 1)) + 1)) + 1)) + 1)) + 1), (rd_T30 y143 x5_1).f6⟩ : S30) : List (S30))).bind fun y144 => (laws_markDeviceS.l0 k1 (y144.set (x5_1 : Int).toNat (⟨(rd_T30 y144 x5_1).f0, (rd_T30 y144 x5_1).f1, (rd_T30 y144 x5_1).f2, (⟨(rd_T30 y144 x5_1).f3.f0, (rd_T30 y144 x5_1).f3.f1⟩ : S28), (rd_T30 y144 x5_1).f4, (rd_T30 y144 x5_1).f5, wrap64 ((wrap64 ((wrap64 ((wrap64 ((wrap64 ((wrap64 ((wrap64 (x1_1 + 1)) + 1)) + 1)) + 1)) + 1)) + 1)) + 1)⟩ : S30)) (wrap64 ((wrap64 ((wrap64 ((wrap64 ((wrap64 ((wrap64 ((wrap64 ((wrap64 (x1_1 + 1)) + 1)) + 1)) + 1)) + 1)) + 1)) + 1)) + 1)) (wrap64 (x5_1 + 1))))))))))) else (none)) = some (r1, r2) := H
    have A4 := Aside0.mk A40
    clear A40
    by_cases c5 : 0 ≤ x5_1
    ·rw [if_pos c5] at H
     have c5b0 : decide (0 ≤ x5_1) = true := decide_eq_true c5
     clear c5
     obtain ⟨y137, hy137⟩ : ∃ y_ : List (S30), y_ = (x0_1.set (x5_1 : Int).toNat (⟨t136, (rd_T30 x0_1 x5_1).f1, (rd_T30 x0_1 x5_1).f2, (⟨(rd_T30 x0_1 x5_1).f3.f0, (rd_T30 x0_1 x5_1).f3.f1⟩ : S28), (rd_T30 x0_1 x5_1).f4, (rd_T30 x0_1 x5_1).f5, (rd_T30 x0_1 x5_1).f6⟩ : S30)) := ⟨_, rfl⟩
     replace H : ((some (y137.set (x5_1 : Int).toNat (⟨(rd_T30 y137 x5_1).f0, wrap64 (x1_1 + 1), (rd_T30 y137 x5_1).f2, (⟨(rd_T30 y137 x5_1).f3.f0, (rd_T30 y137 x5_1).f3.f1⟩ : S28), (rd_T30 y137 x5_1).f4, (rd_T30 y137 x5_1).f5, (rd_T30 y137 x5_1).f6⟩ : S30) : List (S30))).bind fun y138 => ((laws_markText.f k1 (wrap64 ((wrap64 (x1_1 + 1)) + 1))).bind fun t139 => ((some (y138.set (x5_1 : Int).toNat (⟨(rd_T30 y138 x5_1).f0, (rd_T30 y138 x5_1).f1, t139, (⟨(rd_T30 y138 x5_1).f3.f0, (rd_T30 y138 x5_1).f3.f1⟩ : S28), (rd_T30 y138 x5_1).f4, (rd_T30 y138 x5_1).f5, (rd_T30 y138 x5_1).f6⟩ : S30) : List (S30))).bind fun y140 => ((some (y140.set (x5_1 : Int).toNat (⟨(rd_T30 y140 x5_1).f0, (rd_T30 y140 x5_1).f1, (rd_T30 y140 x5_1).f2, (⟨wrap64 ((wrap64 ((wrap64 (x1_1 + 1)) + 1)) + 1), (rd_T30 y140 x5_1).f3.f1⟩ : S28), (rd_T30 y140 x5_1).f4, (rd_T30 y140 x5_1).f5, (rd_T30 y140 x5_1).f6⟩ : S30) : List (S30))).bind fun y141 => ((some (y141.set (x5_1 : Int).toNat (⟨(rd_T30 y141 x5_1).f0, (rd_T30 y141 x5_1).f1, (rd_T30 y141 x5_1).f2, (⟨(rd_T30 y141 x5_1).f3.f0, wrap64 ((wrap64 ((wrap64 ((wrap64 (x1_1 + 1)) + 1)) + 1)) + 1)⟩ : S28), (rd_T30 y141 x5_1).f4, (rd_T30 y141 x5_1).f5, (rd_T30 y141 x5_1).f6⟩ : S30) : List (S30))).bind fun y142 => ((some (y142.set (x5_1 : Int).toNat (⟨(rd_T30 y142 x5_1).f0, (rd_T30 y142 x5_1).f1, (rd_T30 y142 x5_1).f2, (⟨(rd_T30 y142 x5_1).f3.f0, (rd_T30 y142 x5_1).f3.f1⟩ : S28), wrap64 ((wrap64 ((wrap64 ((wrap64 ((wrap64 (x1_1 + 1)) + 1)) + 1)) + 1)) + 1), (rd_T30 y142 x5_1).f5, (rd_T30 y142 x5_1).f6⟩ : S30) : List (S30))).bind fun y143 => ((some (y143.set (x5_1 : Int).toNat (⟨(rd_T30 y143 x5_1).f0, (rd_T30 y143 x5_1).f1, (rd_T30 y143 x5_1).f2, (⟨(rd_T30 y143 x5_1).f3.f0, (rd_T30 y143 x5_1).f3.f1⟩ : S28), (rd_T30 y143 x5_1).f4, wrap64 ((wrap64 ((wrap64 ((wrap64 ((wrap64 ((wrap64 (x1_1 + 1)) + 1)) + 1)) + 1)) + 1)) + 1), (rd_T30 y143 x5_1).f6⟩ : S30) : List (S30))).bind fun y144 => (laws_markDeviceS.l0 k1 (y144.set (x5_1 : Int).toNat (⟨(rd_T30 y144 x5_1).f0, (rd_T30 y144 x5_1).f1, (rd_T30 y144 x5_1).f2, (⟨(rd_T30 y144 x5_1).f3.f0, (rd_T30 y144 x5_1).f3.f1⟩ : S28), (rd_T30 y144 x5_1).f4, (rd_T30 y144 x5_1).f5, wrap64 ((wrap64 ((wrap64 ((wrap64 ((wrap64 ((wrap64 ((wrap64 (x1_1 + 1)) + 1)) + 1)) + 1)) + 1)) + 1)) + 1)⟩ : S30)) (wrap64 ((wrap64 ((wrap64 ((wrap64 ((wrap64 ((wrap64 ((wrap64 ((wrap64 (x1_1 + 1)) + 1)) + 1)) + 1)) + 1)) + 1)) + 1)) + 1)) (wrap64 (x5_1 + 1)))))))))) = some (r1, r2) := by first | (rw [hy137]; with_reducible exact H) | (have H2_ := (Option.bind_some _ _).symm.trans H; rw [hy137]; with_reducible exact H2_) | (have H2_ := (Option.bind_some _ _).symm.trans H; with_reducible exact H2_) | with_reducible exact H | (rw [hy137]; exact H) | exact H
     have Ny137 := Aside0.mk hy137
     clear hy137
     obtain ⟨y138, hy138⟩ : ∃ y_ : List (S30), y_ = (y137.set (x5_1 : Int).toNat (⟨(rd_T30 y137 x5_1).f0, wrap64 (x1_1 + 1), (rd_T30 y137 x5_1).f2, (⟨(rd_T30 y137 x5_1).f3.f0, (rd_T30 y137 x5_1).f3.f1⟩ : S28), (rd_T30 y137 x5_1).f4, (rd_T30 y137 x5_1).f5, (rd_T30 y137 x5_1).f6⟩ : S30)) := ⟨_, rfl⟩
     replace H : ((laws_markText.f k1 (wrap64 ((wrap64 (x1_1 + 1)) + 1))).bind fun t139 => ((some (y138.set (x5_1 : Int).toNat (⟨(rd_T30 y138 x5_1).f0, (rd_T30 y138 x5_1).f1, t139, (⟨(rd_T30 y138 x5_1).f3.f0, (rd_T30 y138 x5_1).f3.f1⟩ : S28), (rd_T30 y138 x5_1).f4, (rd_T30 y138 x5_1).f5, (rd_T30 y138 x5_1).f6⟩ : S30) : List (S30))).bind fun y140 => ((some (y140.set (x5_1 : Int).toNat (⟨(rd_T30 y140 x5_1).f0, (rd_T30 y140 x5_1).f1, (rd_T30 y140 x5_1).f2, (⟨wrap64 ((wrap64 ((wrap64 (x1_1 + 1)) + 1)) + 1), (rd_T30 y140 x5_1).f3.f1⟩ : S28), (rd_T30 y140 x5_1).f4, (rd_T30 y140 x5_1).f5, (rd_T30 y140 x5_1).f6⟩ : S30) : List (S30))).bind fun y141 => ((some (y141.set (x5_1 : Int).toNat (⟨(rd_T30 y141 x5_1).f0, (rd_T30 y141 x5_1).f1, (rd_T30 y141 x5_1).f2, (⟨(rd_T30 y141 x5_1).f3.f0, wrap64 ((wrap64 ((wrap64 ((wrap64 (x1_1 + 1)) + 1)) + 1)) + 1)⟩ : S28), (rd_T30 y141 x5_1).f4, (rd_T30 y141 x5_1).f5, (rd_T30 y141 x5_1).f6⟩ : S30) : List (S30))).bind fun y142 => ((some (y142.set (x5_1 : Int).toNat (⟨(rd_T30 y142 x5_1).f0, (rd_T30 y142 x5_1).f1, (rd_T30 y142 x5_1).f2, (⟨(rd_T30 y142 x5_1).f3.f0, (rd_T30 y142 x5_1).f3.f1⟩ : S28), wrap64 ((wrap64 ((wrap64 ((wrap64 ((wrap64 (x1_1 + 1)) + 1)) + 1)) + 1)) + 1), (rd_T30 y142 x5_1).f5, (rd_T30 y142 x5_1).f6⟩ : S30) : List (S30))).bind fun y143 => ((some (y143.set (x5_1 : Int).toNat (⟨(rd_T30 y143 x5_1).f0, (rd_T30 y143 x5_1).f1, (rd_T30 y143 x5_1).f2, (⟨(rd_T30 y143 x5_1).f3.f0, (rd_T30 y143 x5_1).f3.f1⟩ : S28), (rd_T30 y143 x5_1).f4, wrap64 ((wrap64 ((wrap64 ((wrap64 ((wrap64 ((wrap64 (x1_1 + 1)) + 1)) + 1)) + 1)) + 1)) + 1), (rd_T30 y143 x5_1).f6⟩ : S30) : List (S30))).bind fun y144 => (laws_markDeviceS.l0 k1 (y144.set (x5_1 : Int).toNat (⟨(rd_T30 y144 x5_1).f0, (rd_T30 y144 x5_1).f1, (rd_T30 y144 x5_1).f2, (⟨(rd_T30 y144 x5_1).f3.f0, (rd_T30 y144 x5_1).f3.f1⟩ : S28), (rd_T30 y144 x5_1).f4, (rd_T30 y144 x5_1).f5, wrap64 ((wrap64 ((wrap64 ((wrap64 ((wrap64 ((wrap64 ((wrap64 (x1_1 + 1)) + 1)) + 1)) + 1)) + 1)) + 1)) + 1)⟩ : S30)) (wrap64 ((wrap64 ((wrap64 ((wrap64 ((wrap64 ((wrap64 ((wrap64 ((wrap64 (x1_1 + 1)) + 1)) + 1)) + 1)) + 1)) + 1)) + 1)) + 1)) (wrap64 (x5_1 + 1))))))))) = some (r1, r2) := by first | (rw [hy138]; with_reducible exact H) | (have H2_ := (Option.bind_some _ _).symm.trans H; rw [hy138]; with_reducible exact H2_) | (have H2_ := (Option.bind_some _ _).symm.trans H; with_reducible exact H2_) | with_reducible exact H | (rw [hy138]; exact H) | exact H
     have Ny138 := Aside0.mk hy138
     clear hy138
     replace H := Option.bind_eq_some_iff.mp H
     obtain ⟨t139, A80, H⟩ := H
     replace H : ((some (y138.set (x5_1 : Int).toNat (⟨(rd_T30 y138 x5_1).f0, (rd_T30 y138 x5_1).f1, t139, (⟨(rd_T30 y138 x5_1).f3.f0, (rd_T30 y138 x5_1).f3.f1⟩ : S28), (rd_T30 y138 x5_1).f4, (rd_T30 y138 x5_1).f5, (rd_T30 y138 x5_1).f6⟩ : S30) : List (S30))).bind fun y140 => ((some (y140.set (x5_1 : Int).toNat (⟨(rd_T30 y140 x5_1).f0, (rd_T30 y140 x5_1).f1, (rd_T30 y140 x5_1).f2, (⟨wrap64 ((wrap64 ((wrap64 (x1_1 + 1)) + 1)) + 1), (rd_T30 y140 x5_1).f3.f1⟩ : S28), (rd_T30 y140 x5_1).f4, (rd_T30 y140 x5_1).f5, (rd_T30 y140 x5_1).f6⟩ : S30) : List (S30))).bind fun y141 => ((some (y141.set (x5_1 : Int).toNat (⟨(rd_T30 y141 x5_1).f0, (rd_T30 y141 x5_1).f1, (rd_T30 y141 x5_1).f2, (⟨(rd_T30 y141 x5_1).f3.f0, wrap64 ((wrap64 ((wrap64 ((wrap64 (x1_1 + 1)) + 1)) + 1)) + 1)⟩ : S28), (rd_T30 y141 x5_1).f4, (rd_T30 y141 x5_1).f5, (rd_T30 y141 x5_1).f6⟩ : S30) : List (S30))).bind fun y142 => ((some (y142.set (x5_1 : Int).toNat (⟨(rd_T30 y142 x5_1).f0, (rd_T30 y142 x5_1).f1, (rd_T30 y142 x5_1).f2, (⟨(rd_T30 y142 x5_1).f3.f0, (rd_T30 y142 x5_1).f3.f1⟩ : S28), wrap64 ((wrap64 ((wrap64 ((wrap64 ((wrap64 (x1_1 + 1)) + 1)) + 1)) + 1)) + 1), (rd_T30 y142 x5_1).f5, (rd_T30 y142 x5_1).f6⟩ : S30) : List (S30))).bind fun y143 => ((some (y143.set (x5_1 : Int).toNat (⟨(rd_T30 y143 x5_1).f0, (rd_T30 y143 x5_1).f1, (rd_T30 y143 x5_1).f2, (⟨(rd_T30 y143 x5_1).f3.f0, (rd_T30 y143 x5_1).f3.f1⟩ : S28), (rd_T30 y143 x5_1).f4, wrap64 ((wrap64 ((wrap64 ((wrap64 ((wrap64 ((wrap64 (x1_1 + 1)) + 1)) + 1)) + 1)) + 1)) + 1), (rd_T30 y143 x5_1).f6⟩ : S30) : List (S30))).bind fun y144 => (laws_markDeviceS.l0 k1 (y144.set (x5_1 : Int).toNat (⟨(rd_T30 y144 x5_1).f0, (rd_T30 y144 x5_1).f1, (rd_T30 y144 x5_1).f2, (⟨(rd_T30 y144 x5_1).f3.f0, (rd_T30 y144 x5_1).f3.f1⟩ : S28), (rd_T30 y144 x5_1).f4, (rd_T30 y144 x5_1).f5, wrap64 ((wrap64 ((wrap64 ((wrap64 ((wrap64 ((wrap64 ((wrap64 (x1_1 + 1)) + 1)) + 1)) + 1)) + 1)) + 1)) + 1)⟩ : S30)) (wrap64 ((wrap64 ((wrap64 ((wrap64 ((wrap64 ((wrap64 ((wrap64 ((wrap64 (x1_1 + 1)) + 1)) + 1)) + 1)) + 1)) + 1)) + 1)) + 1)) (wrap64 (x5_1 + 1)))))))) = some (r1, r2) := H
     have A8 := Aside0.mk A80
     clear A80
     obtain ⟨y140, hy140⟩ : ∃ y_ : List (S30), y_ = (y138.set (x5_1 : Int).toNat (⟨(rd_T30 y138 x5_1).f0, (rd_T30 y138 x5_1).f1, t139, (⟨(rd_T30 y138 x5_1).f3.f0, (rd_T30 y138 x5_1).f3.f1⟩ : S28), (rd_T30 y138 x5_1).f4, (rd_T30 y138 x5_1).f5, (rd_T30 y138 x5_1).f6⟩ : S30)) := ⟨_, rfl⟩
     replace H : ((some (y140.set (x5_1 : Int).toNat (⟨(rd_T30 y140 x5_1).f0, (rd_T30 y140 x5_1).f1, (rd_T30 y140 x5_1).f2, (⟨wrap64 ((wrap64 ((wrap64 (x1_1 + 1)) + 1)) + 1), (rd_T30 y140 x5_1).f3.f1⟩ : S28), (rd_T30 y140 x5_1).f4, (rd_T30 y140 x5_1).f5, (rd_T30 y140 x5_1).f6⟩ : S30) : List (S30))).bind fun y141 => ((some (y141.set (x5_1 : Int).toNat (⟨(rd_T30 y141 x5_1).f0, (rd_T30 y141 x5_1).f1, (rd_T30 y141 x5_1).f2, (⟨(rd_T30 y141 x5_1).f3.f0, wrap64 ((wrap64 ((wrap64 ((wrap64 (x1_1 + 1)) + 1)) + 1)) + 1)⟩ : S28), (rd_T30 y141 x5_1).f4, (rd_T30 y141 x5_1).f5, (rd_T30 y141 x5_1).f6⟩ : S30) : List (S30))).bind fun y142 => ((some (y142.set (x5_1 : Int).toNat (⟨(rd_T30 y142 x5_1).f0, (rd_T30 y142 x5_1).f1, (rd_T30 y142 x5_1).f2, (⟨(rd_T30 y142 x5_1).f3.f0, (rd_T30 y142 x5_1).f3.f1⟩ : S28), wrap64 ((wrap64 ((wrap64 ((wrap64 ((wrap64 (x1_1 + 1)) + 1)) + 1)) + 1)) + 1), (rd_T30 y142 x5_1).f5, (rd_T30 y142 x5_1).f6⟩ : S30) : List (S30))).bind fun y143 => ((some (y143.set (x5_1 : Int).toNat (⟨(rd_T30 y143 x5_1).f0, (rd_T30 y143 x5_1).f1, (rd_T30 y143 x5_1).f2, (⟨(rd_T30 y143 x5_1).f3.f0, (rd_T30 y143 x5_1).f3.f1⟩ : S28), (rd_T30 y143 x5_1).f4, wrap64 ((wrap64 ((wrap64 ((wrap64 ((wrap64 ((wrap64 (x1_1 + 1)) + 1)) + 1)) + 1)) + 1)) + 1), (rd_T30 y143 x5_1).f6⟩ : S30) : List (S30))).bind fun y144 => (laws_markDeviceS.l0 k1 (y144.set (x5_1 : Int).toNat (⟨(rd_T30 y144 x5_1).f0, (rd_T30 y144 x5_1).f1, (rd_T30 y144 x5_1).f2, (⟨(rd_T30 y144 x5_1).f3.f0, (rd_T30 y144 x5_1).f3.f1⟩ : S28), (rd_T30 y144 x5_1).f4, (rd_T30 y144 x5_1).f5, wrap64 ((wrap64 ((wrap64 ((wrap64 ((wrap64 ((wrap64 ((wrap64 (x1_1 + 1)) + 1)) + 1)) + 1)) + 1)) + 1)) + 1)⟩ : S30)) (wrap64 ((wrap64 ((wrap64 ((wrap64 ((wrap64 ((wrap64 ((wrap64 ((wrap64 (x1_1 + 1)) + 1)) + 1)) + 1)) + 1)) + 1)) + 1)) + 1)) (wrap64 (x5_1 + 1))))))) = some (r1, r2) := by first | (rw [hy140]; with_reducible exact H) | (have H2_ := (Option.bind_some _ _).symm.trans H; rw [hy140]; with_reducible exact H2_) | (have H2_ := (Option.bind_some _ _).symm.trans H; with_reducible exact H2_) | with_reducible exact H | (rw [hy140]; exact H) | exact H
     have Ny140 := Aside0.mk hy140
     clear hy140
     obtain ⟨y141, hy141⟩ : ∃ y_ : List (S30), y_ = (y140.set (x5_1 : Int).toNat (⟨(rd_T30 y140 x5_1).f0, (rd_T30 y140 x5_1).f1, (rd_T30 y140 x5_1).f2, (⟨wrap64 ((wrap64 ((wrap64 (x1_1 + 1)) + 1)) + 1), (rd_T30 y140 x5_1).f3.f1⟩ : S28), (rd_T30 y140 x5_1).f4, (rd_T30 y140 x5_1).f5, (rd_T30 y140 x5_1).f6⟩ : S30)) := ⟨_, rfl⟩
     replace H : ((some (y141.set (x5_1 : Int).toNat (⟨(rd_T30 y141 x5_1).f0, (rd_T30 y141 x5_1).f1, (rd_T30 y141 x5_1).f2, (⟨(rd_T30 y141 x5_1).f3.f0, wrap64 ((wrap64 ((wrap64 ((wrap64 (x1_1 + 1)) + 1)) + 1)) + 1)⟩ : S28), (rd_T30 y141 x5_1).f4, (rd_T30 y141 x5_1).f5, (rd_T30 y141 x5_1).f6⟩ : S30) : List (S30))).bind fun y142 => ((some (y142.set (x5_1 : Int).toNat (⟨(rd_T30 y142 x5_1).f0, (rd_T30 y142 x5_1).f1, (rd_T30 y142 x5_1).f2, (⟨(rd_T30 y142 x5_1).f3.f0, (rd_T30 y142 x5_1).f3.f1⟩ : S28), wrap64 ((wrap64 ((wrap64 ((wrap64 ((wrap64 (x1_1 + 1)) + 1)) + 1)) + 1)) + 1), (rd_T30 y142 x5_1).f5, (rd_T30 y142 x5_1).f6⟩ : S30) : List (S30))).bind fun y143 => ((some (y143.set (x5_1 : Int).toNat (⟨(rd_T30 y143 x5_1).f0, (rd_T30 y143 x5_1).f1, (rd_T30 y143 x5_1).f2, (⟨(rd_T30 y143 x5_1).f3.f0, (rd_T30 y143 x5_1).f3.f1⟩ : S28), (rd_T30 y143 x5_1).f4, wrap64 ((wrap64 ((wrap64 ((wrap64 ((wrap64 ((wrap64 (x1_1 + 1)) + 1)) + 1)) + 1)) + 1)) + 1), (rd_T30 y143 x5_1).f6⟩ : S30) : List (S30))).bind fun y144 => (laws_markDeviceS.l0 k1 (y144.set (x5_1 : Int).toNat (⟨(rd_T30 y144 x5_1).f0, (rd_T30 y144 x5_1).f1, (rd_T30 y144 x5_1).f2, (⟨(rd_T30 y144 x5_1).f3.f0, (rd_T30 y144 x5_1).f3.f1⟩ : S28), (rd_T30 y144 x5_1).f4, (rd_T30 y144 x5_1).f5, wrap64 ((wrap64 ((wrap64 ((wrap64 ((wrap64 ((wrap64 ((wrap64 (x1_1 + 1)) + 1)) + 1)) + 1)) + 1)) + 1)) + 1)⟩ : S30)) (wrap64 ((wrap64 ((wrap64 ((wrap64 ((wrap64 ((wrap64 ((wrap64 ((wrap64 (x1_1 + 1)) + 1)) + 1)) + 1)) + 1)) + 1)) + 1)) + 1)) (wrap64 (x5_1 + 1)))))) = some (r1, r2) := by first | (rw [hy141]; with_reducible exact H) | (have H2_ := (Option.bind_some _ _).symm.trans H; rw [hy141]; with_reducible exact H2_) | (have H2_ := (Option.bind_some _ _).symm.trans H; with_reducible exact H2_) | with_reducible exact H | (rw [hy141]; exact H) | exact H
     have Ny141 := Aside0.mk hy141
     clear hy141
     obtain ⟨y142, hy142⟩ : ∃ y_ : List (S30), y_ = (y141.set (x5_1 : Int).toNat (⟨(rd_T30 y141 x5_1).f0, (rd_T30 y141 x5_1).f1, (rd_T30 y141 x5_1).f2, (⟨(rd_T30 y141 x5_1).f3.f0, wrap64 ((wrap64 ((wrap64 ((wrap64 (x1_1 + 1)) + 1)) + 1)) + 1)⟩ : S28), (rd_T30 y141 x5_1).f4, (rd_T30 y141 x5_1).f5, (rd_T30 y141 x5_1).f6⟩ : S30)) := ⟨_, rfl⟩
     replace H : ((some (y142.set (x5_1 : Int).toNat (⟨(rd_T30 y142 x5_1).f0, (rd_T30 y142 x5_1).f1, (rd_T30 y142 x5_1).f2, (⟨(rd_T30 y142 x5_1).f3.f0, (rd_T30 y142 x5_1).f3.f1⟩ : S28), wrap64 ((wrap64 ((wrap64 ((wrap64 ((wrap64 (x1_1 + 1)) + 1)) + 1)) + 1)) + 1), (rd_T30 y142 x5_1).f5, (rd_T30 y142 x5_1).f6⟩ : S30) : List (S30))).bind fun y143 => ((some (y143.set (x5_1 : Int).toNat (⟨(rd_T30 y143 x5_1).f0, (rd_T30 y143 x5_1).f1, (rd_T30 y143 x5_1).f2, (⟨(rd_T30 y143 x5_1).f3.f0, (rd_T30 y143 x5_1).f3.f1⟩ : S28), (rd_T30 y143 x5_1).f4, wrap64 ((wrap64 ((wrap64 ((wrap64 ((wrap64 ((wrap64 (x1_1 + 1)) + 1)) + 1)) + 1)) + 1)) + 1), (rd_T30 y143 x5_1).f6⟩ : S30) : List (S30))).bind fun y144 => (laws_markDeviceS.l0 k1 (y144.set (x5_1 : Int).toNat (⟨(rd_T30 y144 x5_1).f0, (rd_T30 y144 x5_1).f1, (rd_T30 y144 x5_1).f2, (⟨(rd_T30 y144 x5_1).f3.f0, (rd_T30 y144 x5_1).f3.f1⟩ : S28), (rd_T30 y144 x5_1).f4, (rd_T30 y144 x5_1).f5, wrap64 ((wrap64 ((wrap64 ((wrap64 ((wrap64 ((wrap64 ((wrap64 (x1_1 + 1)) + 1)) + 1)) + 1)) + 1)) + 1)) + 1)⟩ : S30)) (wrap64 ((wrap64 ((wrap64 ((wrap64 ((wrap64 ((wrap64 ((wrap64 ((wrap64 (x1_1 + 1)) + 1)) + 1)) + 1)) + 1)) + 1)) + 1)) + 1)) (wrap64 (x5_1 + 1))))) = some (r1, r2) := by first | (rw [hy142]; with_reducible exact H) | (have H2_ := (Option.bind_some _ _).symm.trans H; rw [hy142]; with_reducible exact H2_) | (have H2_ := (Option.bind_some _ _).symm.trans H; with_reducible exact H2_) | with_reducible exact H | (rw [hy142]; exact H) | exact H
     have Ny142 := Aside0.mk hy142
     clear hy142
     obtain ⟨y143, hy143⟩ : ∃ y_ : List (S30), y_ = (y142.set (x5_1 : Int).toNat (⟨(rd_T30 y142 x5_1).f0, (rd_T30 y142 x5_1).f1, (rd_T30 y142 x5_1).f2, (⟨(rd_T30 y142 x5_1).f3.f0, (rd_T30 y142 x5_1).f3.f1⟩ : S28), wrap64 ((wrap64 ((wrap64 ((wrap64 ((wrap64 (x1_1 + 1)) + 1)) + 1)) + 1)) + 1), (rd_T30 y142 x5_1).f5, (rd_T30 y142 x5_1).f6⟩ : S30)) := ⟨_, rfl⟩
     replace H : ((some (y143.set (x5_1 : Int).toNat (⟨(rd_T30 y143 x5_1).f0, (rd_T30 y143 x5_1).f1, (rd_T30 y143 x5_1).f2, (⟨(rd_T30 y143 x5_1).f3.f0, (rd_T30 y143 x5_1).f3.f1⟩ : S28), (rd_T30 y143 x5_1).f4, wrap64 ((wrap64 ((wrap64 ((wrap64 ((wrap64 ((wrap64 (x1_1 + 1)) + 1)) + 1)) + 1)) + 1)) + 1), (rd_T30 y143 x5_1).f6⟩ : S30) : List (S30))).bind fun y144 => (laws_markDeviceS.l0 k1 (y144.set (x5_1 : Int).toNat (⟨(rd_T30 y144 x5_1).f0, (rd_T30 y144 x5_1).f1, (rd_T30 y144 x5_1).f2, (⟨(rd_T30 y144 x5_1).f3.f0, (rd_T30 y144 x5_1).f3.f1⟩ : S28), (rd_T30 y144 x5_1).f4, (rd_T30 y144 x5_1).f5, wrap64 ((wrap64 ((wrap64 ((wrap64 ((wrap64 ((wrap64 ((wrap64 (x1_1 + 1)) + 1)) + 1)) + 1)) + 1)) + 1)) + 1)⟩ : S30)) (wrap64 ((wrap64 ((wrap64 ((wrap64 ((wrap64 ((wrap64 ((wrap64 ((wrap64 (x1_1 + 1)) + 1)) + 1)) + 1)) + 1)) + 1)) + 1)) + 1)) (wrap64 (x5_1 + 1)))) = some (r1, r2) := by first | (rw [hy143]; with_reducible exact H) | (have H2_ := (Option.bind_some _ _).symm.trans H; rw [hy143]; with_reducible exact H2_) | (have H2_ := (Option.bind_some _ _).symm.trans H; with_reducible exact H2_) | with_reducible exact H | (rw [hy143]; exact H) | exact H
     have Ny143 := Aside0.mk hy143
     clear hy143
     obtain ⟨y144, hy144⟩ : ∃ y_ : List (S30), y_ = (y143.set (x5_1 : Int).toNat (⟨(rd_T30 y143 x5_1).f0, (rd_T30 y143 x5_1).f1, (rd_T30 y143 x5_1).f2, (⟨(rd_T30 y143 x5_1).f3.f0, (rd_T30 y143 x5_1).f3.f1⟩ : S28), (rd_T30 y143 x5_1).f4, wrap64 ((wrap64 ((wrap64 ((wrap64 ((wrap64 ((wrap64 (x1_1 + 1)) + 1)) + 1)) + 1)) + 1)) + 1), (rd_T30 y143 x5_1).f6⟩ : S30)) := ⟨_, rfl⟩
     replace H : (laws_markDeviceS.l0 k1 (y144.set (x5_1 : Int).toNat (⟨(rd_T30 y144 x5_1).f0, (rd_T30 y144 x5_1).f1, (rd_T30 y144 x5_1).f2, (⟨(rd_T30 y144 x5_1).f3.f0, (rd_T30 y144 x5_1).f3.f1⟩ : S28), (rd_T30 y144 x5_1).f4, (rd_T30 y144 x5_1).f5, wrap64 ((wrap64 ((wrap64 ((wrap64 ((wrap64 ((wrap64 ((wrap64 (x1_1 + 1)) + 1)) + 1)) + 1)) + 1)) + 1)) + 1)⟩ : S30)) (wrap64 ((wrap64 ((wrap64 ((wrap64 ((wrap64 ((wrap64 ((wrap64 ((wrap64 (x1_1 + 1)) + 1)) + 1)) + 1)) + 1)) + 1)) + 1)) + 1)) (wrap64 (x5_1 + 1))) = some (r1, r2) := by first | (rw [hy144]; with_reducible exact H) | (have H2_ := (Option.bind_some _ _).symm.trans H; rw [hy144]; with_reducible exact H2_) | (have H2_ := (Option.bind_some _ _).symm.trans H; with_reducible exact H2_) | with_reducible exact H | (rw [hy144]; exact H) | exact H
     have Ny144 := Aside0.mk hy144
     clear hy144
     obtain ⟨y145, hy145⟩ : ∃ y_ : List (S30), y_ = (y144.set (x5_1 : Int).toNat (⟨(rd_T30 y144 x5_1).f0, (rd_T30 y144 x5_1).f1, (rd_T30 y144 x5_1).f2, (⟨(rd_T30 y144 x5_1).f3.f0, (rd_T30 y144 x5_1).f3.f1⟩ : S28), (rd_T30 y144 x5_1).f4, (rd_T30 y144 x5_1).f5, wrap64 ((wrap64 ((wrap64 ((wrap64 ((wrap64 ((wrap64 ((wrap64 (x1_1 + 1)) + 1)) + 1)) + 1)) + 1)) + 1)) + 1)⟩ : S30)) := ⟨_, rfl⟩
     replace H : (laws_markDeviceS.l0 k1 y145 (wrap64 ((wrap64 ((wrap64 ((wrap64 ((wrap64 ((wrap64 ((wrap64 ((wrap64 (x1_1 + 1)) + 1)) + 1)) + 1)) + 1)) + 1)) + 1)) + 1)) (wrap64 (x5_1 + 1))) = some (r1, r2) := by first | (rw [hy145]; with_reducible exact H) | (have H2_ := (Option.bind_some _ _).symm.trans H; rw [hy145]; with_reducible exact H2_) | (have H2_ := (Option.bind_some _ _).symm.trans H; with_reducible exact H2_) | with_reducible exact H | (rw [hy145]; exact H) | exact H
     have Ny145 := Aside0.mk hy145
     clear hy145
     have H' := Aside0.mk H
     clear H
     obtain ⟨Ao15, co15, eo15⟩ := Kd.R_slice HO_0.out
     subst eo15
     go_wp2_with (first | ((with_reducible refine gate_callee (f := 68) rfl ?_); refine goesL_ (some 15) rfl rfl Try.func68 (by kernel_rfl) rfl #[.int .i64 x1_1] rfl u3_5 ?_; (with_reducible refine (laws_markText.calls k1 x1_1 t136 _ A4.out).mono ?_); rintro e w16 ⟨rfl, hb⟩; refine ⟨_, rfl, ?_⟩; have n0_ := Aside0.mk (Kd.R_below u3_1 hb); have n1_ := Aside0.mk (Kept.below (S := (fun k_ => P0_ k_)) u3_0 hb); have n2_ := Aside0.mk (below_step u3_2 hb); clear HO_0; clear HK; clear HB; have HO_0 := n0_; have HK := n1_; have HB := n2_; clear n0_ n1_ n2_; (try clear hb); (try clear hb2); (try clear hk); (try clear hi); have p6 : 0 ≤ (x5_1 : Int) := of_decide_eq_true u3_3; have q6 : (x5_1 : Int) < ((x0_1.length : Int) : Int) := of_decide_eq_true u3_3; obtain ⟨go6, co6, eo6, gb6, gl6, cl6, HG6⟩ := Kd.R_form HO_0.out (by omega); (first | cases eo6 | (injection eo6 with ea_ en_ ec_; (first | subst ea_ | (injection ea_ with ea_; subst ea_)); subst ec_; clear en_)); have GB6 := Aside0.mk gb6; have GG6 := Aside0.mk HG6; clear gb6 gl6 HG6; have HMgo6 := Aside0.mk (show (P0_ go6 ∨ w.heap.size ≤ go6) from (HO_0.out.1 _ rfl)); obtain ⟨ce6, hcl6, hM6, hcc6, hfr6⟩ := Kd.R_elem HO_0.out z30 (x5_1 : Int) p6 q6; obtain rfl := k30_openM hM6; have hx6_0 : w16.cell? ⟨go6, (x5_1 : Int).toNat * 8, none⟩ = some (.string ((rd_T30 x0_1 x5_1).f0)) := hcc6 0 _ rfl; have hx6_1 : w16.cell? ⟨go6, (x5_1 : Int).toNat * 8 + 1, none⟩ = some (.int .i64 ((rd_T30 x0_1 x5_1).f1)) := hcc6 1 _ rfl; have hx6_2 : w16.cell? ⟨go6, (x5_1 : Int).toNat * 8 + 2, none⟩ = some (.string ((rd_T30 x0_1 x5_1).f2)) := hcc6 2 _ rfl; have hx6_3 : w16.cell? ⟨go6, (x5_1 : Int).toNat * 8 + 3, none⟩ = some (.int .i64 ((rd_T30 x0_1 x5_1).f3.f0)) := hcc6 3 _ rfl; have hx6_4 : w16.cell? ⟨go6, (x5_1 : Int).toNat * 8 + 4, none⟩ = some (.int .i64 ((rd_T30 x0_1 x5_1).f3.f1)) := hcc6 4 _ rfl; have hx6_5 : w16.cell? ⟨go6, (x5_1 : Int).toNat * 8 + 5, none⟩ = some (.int .i64 ((rd_T30 x0_1 x5_1).f4)) := hcc6 5 _ rfl; have hx6_6 : w16.cell? ⟨go6, (x5_1 : Int).toNat * 8 + 6, none⟩ = some (.int .i64 ((rd_T30 x0_1 x5_1).f5)) := hcc6 6 _ rfl; have hx6_7 : w16.cell? ⟨go6, (x5_1 : Int).toNat * 8 + 7, none⟩ = some (.int .i64 ((rd_T30 x0_1 x5_1).f6)) := hcc6 7 _ rfl; have hf6_0 : w16.frozen? ⟨go6, (x5_1 : Int).toNat * 8, none⟩ = false := hfr6 0; have hf6_1 : w16.frozen? ⟨go6, (x5_1 : Int).toNat * 8 + 1, none⟩ = false := hfr6 1; have hf6_2 : w16.frozen? ⟨go6, (x5_1 : Int).toNat * 8 + 2, none⟩ = false := hfr6 2; have hf6_3 : w16.frozen? ⟨go6, (x5_1 : Int).toNat * 8 + 3, none⟩ = false := hfr6 3; have hf6_4 : w16.frozen? ⟨go6, (x5_1 : Int).toNat * 8 + 4, none⟩ = false := hfr6 4; have hf6_5 : w16.frozen? ⟨go6, (x5_1 : Int).toNat * 8 + 5, none⟩ = false := hfr6 5; have hf6_6 : w16.frozen? ⟨go6, (x5_1 : Int).toNat * 8 + 6, none⟩ = false := hfr6 6; have hf6_7 : w16.frozen? ⟨go6, (x5_1 : Int).toNat * 8 + 7, none⟩ = false := hfr6 7; clear hcl6 hcc6 hfr6 hM6; replace p6 := eq_true p6; replace q6 := eq_true q6; have HX17 := Aside0.mk (show Kd.R k30 30 w16 w0.heap.size (fun k_ => (P0_ k_ ∨ w.heap.size ≤ k_)) (.slice (some ⟨go6, 0, none⟩) x0_1.length co15) x0_1 from u3_1); obtain ⟨ce17, hcl17, hM17, hcc17, hfr17⟩ := Kd.R_elem HX17.out z30 (x5_1 : Int) (of_decide_eq_true u3_3) (by have h_ : (x5_1 : Int) < ((x0_1.length : Int) : Int) := of_decide_eq_true u3_3; first | exact h_ | (have e_ := (Kd.R_reads' HO_0.out).1; omega) | simpa using h_); obtain rfl := k30_openM hM17; have HP17 := Kd.R_seg HX17.out (x5_1 : Int) (of_decide_eq_true u3_3) (by have h_ : (x5_1 : Int) < ((x0_1.length : Int) : Int) := of_decide_eq_true u3_3; first | exact h_ | (have e_ := (Kd.R_reads' HO_0.out).1; omega) | simpa using h_) (seg := [.string t136]) (j := 0) hcl17 hcc17 (show 1 ≤ 8 from by decide) (x' := (⟨t136, (rd_T30 x0_1 x5_1).f1, (rd_T30 x0_1 x5_1).f2, (⟨(rd_T30 x0_1 x5_1).f3.f0, (rd_T30 x0_1 x5_1).f3.f1⟩ : S28), (rd_T30 x0_1 x5_1).f4, (rd_T30 x0_1 x5_1).f5, (rd_T30 x0_1 x5_1).f6⟩ : S30)) (k30_mkM _ _ _ (⟨t136, (rd_T30 x0_1 x5_1).f1, (rd_T30 x0_1 x5_1).f2, (⟨(rd_T30 x0_1 x5_1).f3.f0, (rd_T30 x0_1 x5_1).f3.f1⟩ : S28), (rd_T30 x0_1 x5_1).f4, (rd_T30 x0_1 x5_1).f5, (rd_T30 x0_1 x5_1).f6⟩ : S30) ) (fun _ hk => hk); have hx17_0 := hcc17 0 _ rfl; (try simp only [show (k30).sz = 8 from rfl, Nat.mul_one, Nat.add_zero] at hx17_0); have hf17_0 := hfr17 0; (try simp only [show (k30).sz = 8 from rfl, Nat.mul_one, Nat.add_zero] at hf17_0); clear hcl17 hcc17 hfr17 hM17) | ((with_reducible refine gate_store (t := 9) (p := 17) rfl ?_); refine store_event (t := 9) (p := 17) (v := ?vo_w18) (w1 := (w16.setCell ⟨go6, (x5_1 : Int).toNat * 8, none⟩ (.string t136))) ?hg ?ho ?hn ?hr ?_; (case ho => rfl); (case hg => rfl); (case hn => rfl); (case hr => first | (go_simp; done) | (go_simp; rfl)); intro w18 hw; have hg : w16.grownBy w18 (some go6) := (by rw [hw]; exact HP17.2); have hp_ : Kd.R k30 30 w18 w0.heap.size (fun k_ => (P0_ k_ ∨ w.heap.size ≤ k_)) (.slice (some ⟨go6, 0, none⟩) x0_1.length co15) y137 := (by rw [hw, Ny137.out]; exact HP17.1); clear HP17; have n0_ := Aside0.mk (hp_); have n1_ := Aside0.mk ((by rw [hw]; exact below_set (HB.out) GB6.out : Below w0.heap.size w0 w18)); have n2_ := Aside0.mk (Kept.of_grown (S := (fun k_ => P0_ k_)) hg u3_0 (fun k_ e_ => (HO_0.out.1 k_ e_))); clear HO_0; clear HB; clear HK; have HO_0 := n0_; have HB := n1_; have HK := n2_; clear n0_ n1_ n2_; clear hg hw hp_; have p7 : 0 ≤ (x5_1 : Int) := of_decide_eq_true u3_3; have q7 : (x5_1 : Int) < ((x0_1.length : Int) : Int) := of_decide_eq_true u3_3; obtain ⟨ce7, hcl7, hM7, hcc7, hfr7⟩ := Kd.R_elem HO_0.out z30 (x5_1 : Int) p7 q7; obtain rfl := k30_openM hM7; have hx7_0 : w18.cell? ⟨go6, (x5_1 : Int).toNat * 8, none⟩ = some (.string ((rd_T30 y137 x5_1).f0)) := hcc7 0 _ rfl; have hx7_1 : w18.cell? ⟨go6, (x5_1 : Int).toNat * 8 + 1, none⟩ = some (.int .i64 ((rd_T30 y137 x5_1).f1)) := hcc7 1 _ rfl; have hx7_2 : w18.cell? ⟨go6, (x5_1 : Int).toNat * 8 + 2, none⟩ = some (.string ((rd_T30 y137 x5_1).f2)) := hcc7 2 _ rfl; have hx7_3 : w18.cell? ⟨go6, (x5_1 : Int).toNat * 8 + 3, none⟩ = some (.int .i64 ((rd_T30 y137 x5_1).f3.f0)) := hcc7 3 _ rfl; have hx7_4 : w18.cell? ⟨go6, (x5_1 : Int).toNat * 8 + 4, none⟩ = some (.int .i64 ((rd_T30 y137 x5_1).f3.f1)) := hcc7 4 _ rfl; have hx7_5 : w18.cell? ⟨go6, (x5_1 : Int).toNat * 8 + 5, none⟩ = some (.int .i64 ((rd_T30 y137 x5_1).f4)) := hcc7 5 _ rfl; have hx7_6 : w18.cell? ⟨go6, (x5_1 : Int).toNat * 8 + 6, none⟩ = some (.int .i64 ((rd_T30 y137 x5_1).f5)) := hcc7 6 _ rfl; have hx7_7 : w18.cell? ⟨go6, (x5_1 : Int).toNat * 8 + 7, none⟩ = some (.int .i64 ((rd_T30 y137 x5_1).f6)) := hcc7 7 _ rfl; have hf7_0 : w18.frozen? ⟨go6, (x5_1 : Int).toNat * 8, none⟩ = false := hfr7 0; have hf7_1 : w18.frozen? ⟨go6, (x5_1 : Int).toNat * 8 + 1, none⟩ = false := hfr7 1; have hf7_2 : w18.frozen? ⟨go6, (x5_1 : Int).toNat * 8 + 2, none⟩ = false := hfr7 2; have hf7_3 : w18.frozen? ⟨go6, (x5_1 : Int).toNat * 8 + 3, none⟩ = false := hfr7 3; have hf7_4 : w18.frozen? ⟨go6, (x5_1 : Int).toNat * 8 + 4, none⟩ = false := hfr7 4; have hf7_5 : w18.frozen? ⟨go6, (x5_1 : Int).toNat * 8 + 5, none⟩ = false := hfr7 5; have hf7_6 : w18.frozen? ⟨go6, (x5_1 : Int).toNat * 8 + 6, none⟩ = false := hfr7 6; have hf7_7 : w18.frozen? ⟨go6, (x5_1 : Int).toNat * 8 + 7, none⟩ = false := hfr7 7; clear hcl7 hcc7 hfr7 hM7; replace p7 := eq_true p7; replace q7 := eq_true q7; have HX19 := Aside0.mk (show Kd.R k30 30 w18 w0.heap.size (fun k_ => (P0_ k_ ∨ w.heap.size ≤ k_)) (.slice (some ⟨go6, 0, none⟩) x0_1.length co15) y137 from u3_1); obtain ⟨ce19, hcl19, hM19, hcc19, hfr19⟩ := Kd.R_elem HX19.out z30 (x5_1 : Int) (of_decide_eq_true u3_3) (by have h_ : (x5_1 : Int) < ((x0_1.length : Int) : Int) := of_decide_eq_true u3_3; first | exact h_ | (have e_ := (Kd.R_reads' HO_0.out).1; omega) | simpa using h_); obtain rfl := k30_openM hM19; have HP19 := Kd.R_seg HX19.out (x5_1 : Int) (of_decide_eq_true u3_3) (by have h_ : (x5_1 : Int) < ((x0_1.length : Int) : Int) := of_decide_eq_true u3_3; first | exact h_ | (have e_ := (Kd.R_reads' HO_0.out).1; omega) | simpa using h_) (seg := [.int .i64 (wrap64 (x1_1 + 1))]) (j := 1) hcl19 hcc19 (show 2 ≤ 8 from by decide) (x' := (⟨(rd_T30 y137 x5_1).f0, wrap64 (x1_1 + 1), (rd_T30 y137 x5_1).f2, (⟨(rd_T30 y137 x5_1).f3.f0, (rd_T30 y137 x5_1).f3.f1⟩ : S28), (rd_T30 y137 x5_1).f4, (rd_T30 y137 x5_1).f5, (rd_T30 y137 x5_1).f6⟩ : S30)) (k30_mkM _ _ _ (⟨(rd_T30 y137 x5_1).f0, wrap64 (x1_1 + 1), (rd_T30 y137 x5_1).f2, (⟨(rd_T30 y137 x5_1).f3.f0, (rd_T30 y137 x5_1).f3.f1⟩ : S28), (rd_T30 y137 x5_1).f4, (rd_T30 y137 x5_1).f5, (rd_T30 y137 x5_1).f6⟩ : S30) ) (fun _ hk => hk); have hx19_1 := hcc19 1 _ rfl; (try simp only [show (k30).sz = 8 from rfl, Nat.mul_one, Nat.add_zero] at hx19_1); have hf19_1 := hfr19 1; (try simp only [show (k30).sz = 8 from rfl, Nat.mul_one, Nat.add_zero] at hf19_1); clear hcl19 hcc19 hfr19 hM19) | ((with_reducible refine gate_store (t := 3) (p := 24) rfl ?_); refine store_event (t := 3) (p := 24) (v := ?vo_w20) (w1 := (w18.setCell ⟨go6, (x5_1 : Int).toNat * 8 + 1, none⟩ (.int .i64 (wrap64 (x1_1 + 1))))) ?hg ?ho ?hn ?hr ?_; (case ho => rfl); (case hg => rfl); (case hn => rfl); (case hr => first | (go_simp; done) | (go_simp; rfl)); intro w20 hw; have hg : w18.grownBy w20 (some go6) := (by rw [hw]; exact HP19.2); have hp_ : Kd.R k30 30 w20 w0.heap.size (fun k_ => (P0_ k_ ∨ w.heap.size ≤ k_)) (.slice (some ⟨go6, 0, none⟩) x0_1.length co15) y138 := (by rw [hw, Ny138.out]; exact HP19.1); clear HP19; have n0_ := Aside0.mk (hp_); have n1_ := Aside0.mk ((by rw [hw]; exact below_set (HB.out) GB6.out : Below w0.heap.size w0 w20)); have n2_ := Aside0.mk (Kept.of_grown (S := (fun k_ => P0_ k_)) hg u3_0 (fun k_ e_ => (HO_0.out.1 k_ e_))); clear HO_0; clear HB; clear HK; have HO_0 := n0_; have HB := n1_; have HK := n2_; clear n0_ n1_ n2_; clear hg hw hp_) | ((with_reducible refine gate_callee (f := 68) rfl ?_); refine goesL_ (some 30) rfl rfl Try.func68 (by kernel_rfl) rfl #[.int .i64 (wrap64 ((wrap64 (x1_1 + 1)) + 1))] rfl u3_5 ?_; (with_reducible refine (laws_markText.calls k1 (wrap64 ((wrap64 (x1_1 + 1)) + 1)) t139 _ A8.out).mono ?_); rintro e w21 ⟨rfl, hb⟩; refine ⟨_, rfl, ?_⟩; have n0_ := Aside0.mk (Kd.R_below u3_1 hb); have n1_ := Aside0.mk (Kept.below (S := (fun k_ => P0_ k_)) u3_0 hb); have n2_ := Aside0.mk (below_step u3_2 hb); clear HO_0; clear HK; clear HB; have HO_0 := n0_; have HK := n1_; have HB := n2_; clear n0_ n1_ n2_; (try clear hb); (try clear hb2); (try clear hk); (try clear hi); have p9 : 0 ≤ (x5_1 : Int) := of_decide_eq_true u3_3; have q9 : (x5_1 : Int) < ((x0_1.length : Int) : Int) := of_decide_eq_true u3_3; obtain ⟨ce9, hcl9, hM9, hcc9, hfr9⟩ := Kd.R_elem HO_0.out z30 (x5_1 : Int) p9 q9; obtain rfl := k30_openM hM9; have hx9_0 : w21.cell? ⟨go6, (x5_1 : Int).toNat * 8, none⟩ = some (.string ((rd_T30 y138 x5_1).f0)) := hcc9 0 _ rfl; have hx9_1 : w21.cell? ⟨go6, (x5_1 : Int).toNat * 8 + 1, none⟩ = some (.int .i64 ((rd_T30 y138 x5_1).f1)) := hcc9 1 _ rfl; have hx9_2 : w21.cell? ⟨go6, (x5_1 : Int).toNat * 8 + 2, none⟩ = some (.string ((rd_T30 y138 x5_1).f2)) := hcc9 2 _ rfl; have hx9_3 : w21.cell? ⟨go6, (x5_1 : Int).toNat * 8 + 3, none⟩ = some (.int .i64 ((rd_T30 y138 x5_1).f3.f0)) := hcc9 3 _ rfl; have hx9_4 : w21.cell? ⟨go6, (x5_1 : Int).toNat * 8 + 4, none⟩ = some (.int .i64 ((rd_T30 y138 x5_1).f3.f1)) := hcc9 4 _ rfl; have hx9_5 : w21.cell? ⟨go6, (x5_1 : Int).toNat * 8 + 5, none⟩ = some (.int .i64 ((rd_T30 y138 x5_1).f4)) := hcc9 5 _ rfl; have hx9_6 : w21.cell? ⟨go6, (x5_1 : Int).toNat * 8 + 6, none⟩ = some (.int .i64 ((rd_T30 y138 x5_1).f5)) := hcc9 6 _ rfl; have hx9_7 : w21.cell? ⟨go6, (x5_1 : Int).toNat * 8 + 7, none⟩ = some (.int .i64 ((rd_T30 y138 x5_1).f6)) := hcc9 7 _ rfl; have hf9_0 : w21.frozen? ⟨go6, (x5_1 : Int).toNat * 8, none⟩ = false := hfr9 0; have hf9_1 : w21.frozen? ⟨go6, (x5_1 : Int).toNat * 8 + 1, none⟩ = false := hfr9 1; have hf9_2 : w21.frozen? ⟨go6, (x5_1 : Int).toNat * 8 + 2, none⟩ = false := hfr9 2; have hf9_3 : w21.frozen? ⟨go6, (x5_1 : Int).toNat * 8 + 3, none⟩ = false := hfr9 3; have hf9_4 : w21.frozen? ⟨go6, (x5_1 : Int).toNat * 8 + 4, none⟩ = false := hfr9 4; have hf9_5 : w21.frozen? ⟨go6, (x5_1 : Int).toNat * 8 + 5, none⟩ = false := hfr9 5; have hf9_6 : w21.frozen? ⟨go6, (x5_1 : Int).toNat * 8 + 6, none⟩ = false := hfr9 6; have hf9_7 : w21.frozen? ⟨go6, (x5_1 : Int).toNat * 8 + 7, none⟩ = false := hfr9 7; clear hcl9 hcc9 hfr9 hM9; replace p9 := eq_true p9; replace q9 := eq_true q9; have HX22 := Aside0.mk (show Kd.R k30 30 w21 w0.heap.size (fun k_ => (P0_ k_ ∨ w.heap.size ≤ k_)) (.slice (some ⟨go6, 0, none⟩) x0_1.length co15) y138 from u3_1); obtain ⟨ce22, hcl22, hM22, hcc22, hfr22⟩ := Kd.R_elem HX22.out z30 (x5_1 : Int) (of_decide_eq_true u3_3) (by have h_ : (x5_1 : Int) < ((x0_1.length : Int) : Int) := of_decide_eq_true u3_3; first | exact h_ | (have e_ := (Kd.R_reads' HO_0.out).1; omega) | simpa using h_); obtain rfl := k30_openM hM22; have HP22 := Kd.R_seg HX22.out (x5_1 : Int) (of_decide_eq_true u3_3) (by have h_ : (x5_1 : Int) < ((x0_1.length : Int) : Int) := of_decide_eq_true u3_3; first | exact h_ | (have e_ := (Kd.R_reads' HO_0.out).1; omega) | simpa using h_) (seg := [.string t139]) (j := 2) hcl22 hcc22 (show 3 ≤ 8 from by decide) (x' := (⟨(rd_T30 y138 x5_1).f0, (rd_T30 y138 x5_1).f1, t139, (⟨(rd_T30 y138 x5_1).f3.f0, (rd_T30 y138 x5_1).f3.f1⟩ : S28), (rd_T30 y138 x5_1).f4, (rd_T30 y138 x5_1).f5, (rd_T30 y138 x5_1).f6⟩ : S30)) (k30_mkM _ _ _ (⟨(rd_T30 y138 x5_1).f0, (rd_T30 y138 x5_1).f1, t139, (⟨(rd_T30 y138 x5_1).f3.f0, (rd_T30 y138 x5_1).f3.f1⟩ : S28), (rd_T30 y138 x5_1).f4, (rd_T30 y138 x5_1).f5, (rd_T30 y138 x5_1).f6⟩ : S30) ) (fun _ hk => hk); have hx22_2 := hcc22 2 _ rfl; (try simp only [show (k30).sz = 8 from rfl, Nat.mul_one, Nat.add_zero] at hx22_2); have hf22_2 := hfr22 2; (try simp only [show (k30).sz = 8 from rfl, Nat.mul_one, Nat.add_zero] at hf22_2); clear hcl22 hcc22 hfr22 hM22) | ((with_reducible refine gate_store (t := 9) (p := 32) rfl ?_); refine store_event (t := 9) (p := 32) (v := ?vo_w23) (w1 := (w21.setCell ⟨go6, (x5_1 : Int).toNat * 8 + 2, none⟩ (.string t139))) ?hg ?ho ?hn ?hr ?_; (case ho => rfl); (case hg => rfl); (case hn => rfl); (case hr => first | (go_simp; done) | (go_simp; rfl)); intro w23 hw; have hg : w21.grownBy w23 (some go6) := (by rw [hw]; exact HP22.2); have hp_ : Kd.R k30 30 w23 w0.heap.size (fun k_ => (P0_ k_ ∨ w.heap.size ≤ k_)) (.slice (some ⟨go6, 0, none⟩) x0_1.length co15) y140 := (by rw [hw, Ny140.out]; exact HP22.1); clear HP22; have n0_ := Aside0.mk (hp_); have n1_ := Aside0.mk ((by rw [hw]; exact below_set (HB.out) GB6.out : Below w0.heap.size w0 w23)); have n2_ := Aside0.mk (Kept.of_grown (S := (fun k_ => P0_ k_)) hg u3_0 (fun k_ e_ => (HO_0.out.1 k_ e_))); clear HO_0; clear HB; clear HK; have HO_0 := n0_; have HB := n1_; have HK := n2_; clear n0_ n1_ n2_; clear hg hw hp_; have p10 : 0 ≤ (x5_1 : Int) := of_decide_eq_true u3_3; have q10 : (x5_1 : Int) < ((x0_1.length : Int) : Int) := of_decide_eq_true u3_3; obtain ⟨ce10, hcl10, hM10, hcc10, hfr10⟩ := Kd.R_elem HO_0.out z30 (x5_1 : Int) p10 q10; obtain rfl := k30_openM hM10; have hx10_0 : w23.cell? ⟨go6, (x5_1 : Int).toNat * 8, none⟩ = some (.string ((rd_T30 y140 x5_1).f0)) := hcc10 0 _ rfl; have hx10_1 : w23.cell? ⟨go6, (x5_1 : Int).toNat * 8 + 1, none⟩ = some (.int .i64 ((rd_T30 y140 x5_1).f1)) := hcc10 1 _ rfl; have hx10_2 : w23.cell? ⟨go6, (x5_1 : Int).toNat * 8 + 2, none⟩ = some (.string ((rd_T30 y140 x5_1).f2)) := hcc10 2 _ rfl; have hx10_3 : w23.cell? ⟨go6, (x5_1 : Int).toNat * 8 + 3, none⟩ = some (.int .i64 ((rd_T30 y140 x5_1).f3.f0)) := hcc10 3 _ rfl; have hx10_4 : w23.cell? ⟨go6, (x5_1 : Int).toNat * 8 + 4, none⟩ = some (.int .i64 ((rd_T30 y140 x5_1).f3.f1)) := hcc10 4 _ rfl; have hx10_5 : w23.cell? ⟨go6, (x5_1 : Int).toNat * 8 + 5, none⟩ = some (.int .i64 ((rd_T30 y140 x5_1).f4)) := hcc10 5 _ rfl; have hx10_6 : w23.cell? ⟨go6, (x5_1 : Int).toNat * 8 + 6, none⟩ = some (.int .i64 ((rd_T30 y140 x5_1).f5)) := hcc10 6 _ rfl; have hx10_7 : w23.cell? ⟨go6, (x5_1 : Int).toNat * 8 + 7, none⟩ = some (.int .i64 ((rd_T30 y140 x5_1).f6)) := hcc10 7 _ rfl; have hf10_0 : w23.frozen? ⟨go6, (x5_1 : Int).toNat * 8, none⟩ = false := hfr10 0; have hf10_1 : w23.frozen? ⟨go6, (x5_1 : Int).toNat * 8 + 1, none⟩ = false := hfr10 1; have hf10_2 : w23.frozen? ⟨go6, (x5_1 : Int).toNat * 8 + 2, none⟩ = false := hfr10 2; have hf10_3 : w23.frozen? ⟨go6, (x5_1 : Int).toNat * 8 + 3, none⟩ = false := hfr10 3; have hf10_4 : w23.frozen? ⟨go6, (x5_1 : Int).toNat * 8 + 4, none⟩ = false := hfr10 4; have hf10_5 : w23.frozen? ⟨go6, (x5_1 : Int).toNat * 8 + 5, none⟩ = false := hfr10 5; have hf10_6 : w23.frozen? ⟨go6, (x5_1 : Int).toNat * 8 + 6, none⟩ = false := hfr10 6; have hf10_7 : w23.frozen? ⟨go6, (x5_1 : Int).toNat * 8 + 7, none⟩ = false := hfr10 7; clear hcl10 hcc10 hfr10 hM10; replace p10 := eq_true p10; replace q10 := eq_true q10; have HX24 := Aside0.mk (show Kd.R k30 30 w23 w0.heap.size (fun k_ => (P0_ k_ ∨ w.heap.size ≤ k_)) (.slice (some ⟨go6, 0, none⟩) x0_1.length co15) y140 from u3_1); obtain ⟨ce24, hcl24, hM24, hcc24, hfr24⟩ := Kd.R_elem HX24.out z30 (x5_1 : Int) (of_decide_eq_true u3_3) (by have h_ : (x5_1 : Int) < ((x0_1.length : Int) : Int) := of_decide_eq_true u3_3; first | exact h_ | (have e_ := (Kd.R_reads' HO_0.out).1; omega) | simpa using h_); obtain rfl := k30_openM hM24; have HP24 := Kd.R_seg HX24.out (x5_1 : Int) (of_decide_eq_true u3_3) (by have h_ : (x5_1 : Int) < ((x0_1.length : Int) : Int) := of_decide_eq_true u3_3; first | exact h_ | (have e_ := (Kd.R_reads' HO_0.out).1; omega) | simpa using h_) (seg := [.int .i64 (wrap64 ((wrap64 ((wrap64 (x1_1 + 1)) + 1)) + 1))]) (j := 3) hcl24 hcc24 (show 4 ≤ 8 from by decide) (x' := (⟨(rd_T30 y140 x5_1).f0, (rd_T30 y140 x5_1).f1, (rd_T30 y140 x5_1).f2, (⟨wrap64 ((wrap64 ((wrap64 (x1_1 + 1)) + 1)) + 1), (rd_T30 y140 x5_1).f3.f1⟩ : S28), (rd_T30 y140 x5_1).f4, (rd_T30 y140 x5_1).f5, (rd_T30 y140 x5_1).f6⟩ : S30)) (k30_mkM _ _ _ (⟨(rd_T30 y140 x5_1).f0, (rd_T30 y140 x5_1).f1, (rd_T30 y140 x5_1).f2, (⟨wrap64 ((wrap64 ((wrap64 (x1_1 + 1)) + 1)) + 1), (rd_T30 y140 x5_1).f3.f1⟩ : S28), (rd_T30 y140 x5_1).f4, (rd_T30 y140 x5_1).f5, (rd_T30 y140 x5_1).f6⟩ : S30) ) (fun _ hk => hk); have hx24_3 := hcc24 3 _ rfl; (try simp only [show (k30).sz = 8 from rfl, Nat.mul_one, Nat.add_zero] at hx24_3); have hf24_3 := hfr24 3; (try simp only [show (k30).sz = 8 from rfl, Nat.mul_one, Nat.add_zero] at hf24_3); clear hcl24 hcc24 hfr24 hM24) | ((with_reducible refine gate_store (t := 3) (p := 40) rfl ?_); refine store_event (t := 3) (p := 40) (v := ?vo_w25) (w1 := (w23.setCell ⟨go6, (x5_1 : Int).toNat * 8 + 3, none⟩ (.int .i64 (wrap64 ((wrap64 ((wrap64 (x1_1 + 1)) + 1)) + 1))))) ?hg ?ho ?hn ?hr ?_; (case ho => rfl); (case hg => rfl); (case hn => rfl); (case hr => first | (go_simp; done) | (go_simp; rfl)); intro w25 hw; have hg : w23.grownBy w25 (some go6) := (by rw [hw]; exact HP24.2); have hp_ : Kd.R k30 30 w25 w0.heap.size (fun k_ => (P0_ k_ ∨ w.heap.size ≤ k_)) (.slice (some ⟨go6, 0, none⟩) x0_1.length co15) y141 := (by rw [hw, Ny141.out]; exact HP24.1); clear HP24; have n0_ := Aside0.mk (hp_); have n1_ := Aside0.mk ((by rw [hw]; exact below_set (HB.out) GB6.out : Below w0.heap.size w0 w25)); have n2_ := Aside0.mk (Kept.of_grown (S := (fun k_ => P0_ k_)) hg u3_0 (fun k_ e_ => (HO_0.out.1 k_ e_))); clear HO_0; clear HB; clear HK; have HO_0 := n0_; have HB := n1_; have HK := n2_; clear n0_ n1_ n2_; clear hg hw hp_; have p11 : 0 ≤ (x5_1 : Int) := of_decide_eq_true u3_3; have q11 : (x5_1 : Int) < ((x0_1.length : Int) : Int) := of_decide_eq_true u3_3; obtain ⟨ce11, hcl11, hM11, hcc11, hfr11⟩ := Kd.R_elem HO_0.out z30 (x5_1 : Int) p11 q11; obtain rfl := k30_openM hM11; have hx11_0 : w25.cell? ⟨go6, (x5_1 : Int).toNat * 8, none⟩ = some (.string ((rd_T30 y141 x5_1).f0)) := hcc11 0 _ rfl; have hx11_1 : w25.cell? ⟨go6, (x5_1 : Int).toNat * 8 + 1, none⟩ = some (.int .i64 ((rd_T30 y141 x5_1).f1)) := hcc11 1 _ rfl; have hx11_2 : w25.cell? ⟨go6, (x5_1 : Int).toNat * 8 + 2, none⟩ = some (.string ((rd_T30 y141 x5_1).f2)) := hcc11 2 _ rfl; have hx11_3 : w25.cell? ⟨go6, (x5_1 : Int).toNat * 8 + 3, none⟩ = some (.int .i64 ((rd_T30 y141 x5_1).f3.f0)) := hcc11 3 _ rfl; have hx11_4 : w25.cell? ⟨go6, (x5_1 : Int).toNat * 8 + 4, none⟩ = some (.int .i64 ((rd_T30 y141 x5_1).f3.f1)) := hcc11 4 _ rfl; have hx11_5 : w25.cell? ⟨go6, (x5_1 : Int).toNat * 8 + 5, none⟩ = some (.int .i64 ((rd_T30 y141 x5_1).f4)) := hcc11 5 _ rfl; have hx11_6 : w25.cell? ⟨go6, (x5_1 : Int).toNat * 8 + 6, none⟩ = some (.int .i64 ((rd_T30 y141 x5_1).f5)) := hcc11 6 _ rfl; have hx11_7 : w25.cell? ⟨go6, (x5_1 : Int).toNat * 8 + 7, none⟩ = some (.int .i64 ((rd_T30 y141 x5_1).f6)) := hcc11 7 _ rfl; have hf11_0 : w25.frozen? ⟨go6, (x5_1 : Int).toNat * 8, none⟩ = false := hfr11 0; have hf11_1 : w25.frozen? ⟨go6, (x5_1 : Int).toNat * 8 + 1, none⟩ = false := hfr11 1; have hf11_2 : w25.frozen? ⟨go6, (x5_1 : Int).toNat * 8 + 2, none⟩ = false := hfr11 2; have hf11_3 : w25.frozen? ⟨go6, (x5_1 : Int).toNat * 8 + 3, none⟩ = false := hfr11 3; have hf11_4 : w25.frozen? ⟨go6, (x5_1 : Int).toNat * 8 + 4, none⟩ = false := hfr11 4; have hf11_5 : w25.frozen? ⟨go6, (x5_1 : Int).toNat * 8 + 5, none⟩ = false := hfr11 5; have hf11_6 : w25.frozen? ⟨go6, (x5_1 : Int).toNat * 8 + 6, none⟩ = false := hfr11 6; have hf11_7 : w25.frozen? ⟨go6, (x5_1 : Int).toNat * 8 + 7, none⟩ = false := hfr11 7; clear hcl11 hcc11 hfr11 hM11; replace p11 := eq_true p11; replace q11 := eq_true q11; have HX26 := Aside0.mk (show Kd.R k30 30 w25 w0.heap.size (fun k_ => (P0_ k_ ∨ w.heap.size ≤ k_)) (.slice (some ⟨go6, 0, none⟩) x0_1.length co15) y141 from u3_1); obtain ⟨ce26, hcl26, hM26, hcc26, hfr26⟩ := Kd.R_elem HX26.out z30 (x5_1 : Int) (of_decide_eq_true u3_3) (by have h_ : (x5_1 : Int) < ((x0_1.length : Int) : Int) := of_decide_eq_true u3_3; first | exact h_ | (have e_ := (Kd.R_reads' HO_0.out).1; omega) | simpa using h_); obtain rfl := k30_openM hM26; have HP26 := Kd.R_seg HX26.out (x5_1 : Int) (of_decide_eq_true u3_3) (by have h_ : (x5_1 : Int) < ((x0_1.length : Int) : Int) := of_decide_eq_true u3_3; first | exact h_ | (have e_ := (Kd.R_reads' HO_0.out).1; omega) | simpa using h_) (seg := [.int .i64 (wrap64 ((wrap64 ((wrap64 ((wrap64 (x1_1 + 1)) + 1)) + 1)) + 1))]) (j := 4) hcl26 hcc26 (show 5 ≤ 8 from by decide) (x' := (⟨(rd_T30 y141 x5_1).f0, (rd_T30 y141 x5_1).f1, (rd_T30 y141 x5_1).f2, (⟨(rd_T30 y141 x5_1).f3.f0, wrap64 ((wrap64 ((wrap64 ((wrap64 (x1_1 + 1)) + 1)) + 1)) + 1)⟩ : S28), (rd_T30 y141 x5_1).f4, (rd_T30 y141 x5_1).f5, (rd_T30 y141 x5_1).f6⟩ : S30)) (k30_mkM _ _ _ (⟨(rd_T30 y141 x5_1).f0, (rd_T30 y141 x5_1).f1, (rd_T30 y141 x5_1).f2, (⟨(rd_T30 y141 x5_1).f3.f0, wrap64 ((wrap64 ((wrap64 ((wrap64 (x1_1 + 1)) + 1)) + 1)) + 1)⟩ : S28), (rd_T30 y141 x5_1).f4, (rd_T30 y141 x5_1).f5, (rd_T30 y141 x5_1).f6⟩ : S30) ) (fun _ hk => hk); have hx26_4 := hcc26 4 _ rfl; (try simp only [show (k30).sz = 8 from rfl, Nat.mul_one, Nat.add_zero] at hx26_4); have hf26_4 := hfr26 4; (try simp only [show (k30).sz = 8 from rfl, Nat.mul_one, Nat.add_zero] at hf26_4); clear hcl26 hcc26 hfr26 hM26) | ((with_reducible refine gate_store (t := 3) (p := 48) rfl ?_); refine store_event (t := 3) (p := 48) (v := ?vo_w27) (w1 := (w25.setCell ⟨go6, (x5_1 : Int).toNat * 8 + 4, none⟩ (.int .i64 (wrap64 ((wrap64 ((wrap64 ((wrap64 (x1_1 + 1)) + 1)) + 1)) + 1))))) ?hg ?ho ?hn ?hr ?_; (case ho => rfl); (case hg => rfl); (case hn => rfl); (case hr => first | (go_simp; done) | (go_simp; rfl)); intro w27 hw; have hg : w25.grownBy w27 (some go6) := (by rw [hw]; exact HP26.2); have hp_ : Kd.R k30 30 w27 w0.heap.size (fun k_ => (P0_ k_ ∨ w.heap.size ≤ k_)) (.slice (some ⟨go6, 0, none⟩) x0_1.length co15) y142 := (by rw [hw, Ny142.out]; exact HP26.1); clear HP26; have n0_ := Aside0.mk (hp_); have n1_ := Aside0.mk ((by rw [hw]; exact below_set (HB.out) GB6.out : Below w0.heap.size w0 w27)); have n2_ := Aside0.mk (Kept.of_grown (S := (fun k_ => P0_ k_)) hg u3_0 (fun k_ e_ => (HO_0.out.1 k_ e_))); clear HO_0; clear HB; clear HK; have HO_0 := n0_; have HB := n1_; have HK := n2_; clear n0_ n1_ n2_; clear hg hw hp_; have p12 : 0 ≤ (x5_1 : Int) := of_decide_eq_true u3_3; have q12 : (x5_1 : Int) < ((x0_1.length : Int) : Int) := of_decide_eq_true u3_3; obtain ⟨ce12, hcl12, hM12, hcc12, hfr12⟩ := Kd.R_elem HO_0.out z30 (x5_1 : Int) p12 q12; obtain rfl := k30_openM hM12; have hx12_0 : w27.cell? ⟨go6, (x5_1 : Int).toNat * 8, none⟩ = some (.string ((rd_T30 y142 x5_1).f0)) := hcc12 0 _ rfl; have hx12_1 : w27.cell? ⟨go6, (x5_1 : Int).toNat * 8 + 1, none⟩ = some (.int .i64 ((rd_T30 y142 x5_1).f1)) := hcc12 1 _ rfl; have hx12_2 : w27.cell? ⟨go6, (x5_1 : Int).toNat * 8 + 2, none⟩ = some (.string ((rd_T30 y142 x5_1).f2)) := hcc12 2 _ rfl; have hx12_3 : w27.cell? ⟨go6, (x5_1 : Int).toNat * 8 + 3, none⟩ = some (.int .i64 ((rd_T30 y142 x5_1).f3.f0)) := hcc12 3 _ rfl; have hx12_4 : w27.cell? ⟨go6, (x5_1 : Int).toNat * 8 + 4, none⟩ = some (.int .i64 ((rd_T30 y142 x5_1).f3.f1)) := hcc12 4 _ rfl; have hx12_5 : w27.cell? ⟨go6, (x5_1 : Int).toNat * 8 + 5, none⟩ = some (.int .i64 ((rd_T30 y142 x5_1).f4)) := hcc12 5 _ rfl; have hx12_6 : w27.cell? ⟨go6, (x5_1 : Int).toNat * 8 + 6, none⟩ = some (.int .i64 ((rd_T30 y142 x5_1).f5)) := hcc12 6 _ rfl; have hx12_7 : w27.cell? ⟨go6, (x5_1 : Int).toNat * 8 + 7, none⟩ = some (.int .i64 ((rd_T30 y142 x5_1).f6)) := hcc12 7 _ rfl; have hf12_0 : w27.frozen? ⟨go6, (x5_1 : Int).toNat * 8, none⟩ = false := hfr12 0; have hf12_1 : w27.frozen? ⟨go6, (x5_1 : Int).toNat * 8 + 1, none⟩ = false := hfr12 1; have hf12_2 : w27.frozen? ⟨go6, (x5_1 : Int).toNat * 8 + 2, none⟩ = false := hfr12 2; have hf12_3 : w27.frozen? ⟨go6, (x5_1 : Int).toNat * 8 + 3, none⟩ = false := hfr12 3; have hf12_4 : w27.frozen? ⟨go6, (x5_1 : Int).toNat * 8 + 4, none⟩ = false := hfr12 4; have hf12_5 : w27.frozen? ⟨go6, (x5_1 : Int).toNat * 8 + 5, none⟩ = false := hfr12 5; have hf12_6 : w27.frozen? ⟨go6, (x5_1 : Int).toNat * 8 + 6, none⟩ = false := hfr12 6; have hf12_7 : w27.frozen? ⟨go6, (x5_1 : Int).toNat * 8 + 7, none⟩ = false := hfr12 7; clear hcl12 hcc12 hfr12 hM12; replace p12 := eq_true p12; replace q12 := eq_true q12; have HX28 := Aside0.mk (show Kd.R k30 30 w27 w0.heap.size (fun k_ => (P0_ k_ ∨ w.heap.size ≤ k_)) (.slice (some ⟨go6, 0, none⟩) x0_1.length co15) y142 from u3_1); obtain ⟨ce28, hcl28, hM28, hcc28, hfr28⟩ := Kd.R_elem HX28.out z30 (x5_1 : Int) (of_decide_eq_true u3_3) (by have h_ : (x5_1 : Int) < ((x0_1.length : Int) : Int) := of_decide_eq_true u3_3; first | exact h_ | (have e_ := (Kd.R_reads' HO_0.out).1; omega) | simpa using h_); obtain rfl := k30_openM hM28; have HP28 := Kd.R_seg HX28.out (x5_1 : Int) (of_decide_eq_true u3_3) (by have h_ : (x5_1 : Int) < ((x0_1.length : Int) : Int) := of_decide_eq_true u3_3; first | exact h_ | (have e_ := (Kd.R_reads' HO_0.out).1; omega) | simpa using h_) (seg := [.int .i64 (wrap64 ((wrap64 ((wrap64 ((wrap64 ((wrap64 (x1_1 + 1)) + 1)) + 1)) + 1)) + 1))]) (j := 5) hcl28 hcc28 (show 6 ≤ 8 from by decide) (x' := (⟨(rd_T30 y142 x5_1).f0, (rd_T30 y142 x5_1).f1, (rd_T30 y142 x5_1).f2, (⟨(rd_T30 y142 x5_1).f3.f0, (rd_T30 y142 x5_1).f3.f1⟩ : S28), wrap64 ((wrap64 ((wrap64 ((wrap64 ((wrap64 (x1_1 + 1)) + 1)) + 1)) + 1)) + 1), (rd_T30 y142 x5_1).f5, (rd_T30 y142 x5_1).f6⟩ : S30)) (k30_mkM _ _ _ (⟨(rd_T30 y142 x5_1).f0, (rd_T30 y142 x5_1).f1, (rd_T30 y142 x5_1).f2, (⟨(rd_T30 y142 x5_1).f3.f0, (rd_T30 y142 x5_1).f3.f1⟩ : S28), wrap64 ((wrap64 ((wrap64 ((wrap64 ((wrap64 (x1_1 + 1)) + 1)) + 1)) + 1)) + 1), (rd_T30 y142 x5_1).f5, (rd_T30 y142 x5_1).f6⟩ : S30) ) (fun _ hk => hk); have hx28_5 := hcc28 5 _ rfl; (try simp only [show (k30).sz = 8 from rfl, Nat.mul_one, Nat.add_zero] at hx28_5); have hf28_5 := hfr28 5; (try simp only [show (k30).sz = 8 from rfl, Nat.mul_one, Nat.add_zero] at hf28_5); clear hcl28 hcc28 hfr28 hM28) | ((with_reducible refine gate_store (t := 3) (p := 55) rfl ?_); refine store_event (t := 3) (p := 55) (v := ?vo_w29) (w1 := (w27.setCell ⟨go6, (x5_1 : Int).toNat * 8 + 5, none⟩ (.int .i64 (wrap64 ((wrap64 ((wrap64 ((wrap64 ((wrap64 (x1_1 + 1)) + 1)) + 1)) + 1)) + 1))))) ?hg ?ho ?hn ?hr ?_; (case ho => rfl); (case hg => rfl); (case hn => rfl); (case hr => first | (go_simp; done) | (go_simp; rfl)); intro w29 hw; have hg : w27.grownBy w29 (some go6) := (by rw [hw]; exact HP28.2); have hp_ : Kd.R k30 30 w29 w0.heap.size (fun k_ => (P0_ k_ ∨ w.heap.size ≤ k_)) (.slice (some ⟨go6, 0, none⟩) x0_1.length co15) y143 := (by rw [hw, Ny143.out]; exact HP28.1); clear HP28; have n0_ := Aside0.mk (hp_); have n1_ := Aside0.mk ((by rw [hw]; exact below_set (HB.out) GB6.out : Below w0.heap.size w0 w29)); have n2_ := Aside0.mk (Kept.of_grown (S := (fun k_ => P0_ k_)) hg u3_0 (fun k_ e_ => (HO_0.out.1 k_ e_))); clear HO_0; clear HB; clear HK; have HO_0 := n0_; have HB := n1_; have HK := n2_; clear n0_ n1_ n2_; clear hg hw hp_; have p13 : 0 ≤ (x5_1 : Int) := of_decide_eq_true u3_3; have q13 : (x5_1 : Int) < ((x0_1.length : Int) : Int) := of_decide_eq_true u3_3; obtain ⟨ce13, hcl13, hM13, hcc13, hfr13⟩ := Kd.R_elem HO_0.out z30 (x5_1 : Int) p13 q13; obtain rfl := k30_openM hM13; have hx13_0 : w29.cell? ⟨go6, (x5_1 : Int).toNat * 8, none⟩ = some (.string ((rd_T30 y143 x5_1).f0)) := hcc13 0 _ rfl; have hx13_1 : w29.cell? ⟨go6, (x5_1 : Int).toNat * 8 + 1, none⟩ = some (.int .i64 ((rd_T30 y143 x5_1).f1)) := hcc13 1 _ rfl; have hx13_2 : w29.cell? ⟨go6, (x5_1 : Int).toNat * 8 + 2, none⟩ = some (.string ((rd_T30 y143 x5_1).f2)) := hcc13 2 _ rfl; have hx13_3 : w29.cell? ⟨go6, (x5_1 : Int).toNat * 8 + 3, none⟩ = some (.int .i64 ((rd_T30 y143 x5_1).f3.f0)) := hcc13 3 _ rfl; have hx13_4 : w29.cell? ⟨go6, (x5_1 : Int).toNat * 8 + 4, none⟩ = some (.int .i64 ((rd_T30 y143 x5_1).f3.f1)) := hcc13 4 _ rfl; have hx13_5 : w29.cell? ⟨go6, (x5_1 : Int).toNat * 8 + 5, none⟩ = some (.int .i64 ((rd_T30 y143 x5_1).f4)) := hcc13 5 _ rfl; have hx13_6 : w29.cell? ⟨go6, (x5_1 : Int).toNat * 8 + 6, none⟩ = some (.int .i64 ((rd_T30 y143 x5_1).f5)) := hcc13 6 _ rfl; have hx13_7 : w29.cell? ⟨go6, (x5_1 : Int).toNat * 8 + 7, none⟩ = some (.int .i64 ((rd_T30 y143 x5_1).f6)) := hcc13 7 _ rfl; have hf13_0 : w29.frozen? ⟨go6, (x5_1 : Int).toNat * 8, none⟩ = false := hfr13 0; have hf13_1 : w29.frozen? ⟨go6, (x5_1 : Int).toNat * 8 + 1, none⟩ = false := hfr13 1; have hf13_2 : w29.frozen? ⟨go6, (x5_1 : Int).toNat * 8 + 2, none⟩ = false := hfr13 2; have hf13_3 : w29.frozen? ⟨go6, (x5_1 : Int).toNat * 8 + 3, none⟩ = false := hfr13 3; have hf13_4 : w29.frozen? ⟨go6, (x5_1 : Int).toNat * 8 + 4, none⟩ = false := hfr13 4; have hf13_5 : w29.frozen? ⟨go6, (x5_1 : Int).toNat * 8 + 5, none⟩ = false := hfr13 5; have hf13_6 : w29.frozen? ⟨go6, (x5_1 : Int).toNat * 8 + 6, none⟩ = false := hfr13 6; have hf13_7 : w29.frozen? ⟨go6, (x5_1 : Int).toNat * 8 + 7, none⟩ = false := hfr13 7; clear hcl13 hcc13 hfr13 hM13; replace p13 := eq_true p13; replace q13 := eq_true q13; have HX30 := Aside0.mk (show Kd.R k30 30 w29 w0.heap.size (fun k_ => (P0_ k_ ∨ w.heap.size ≤ k_)) (.slice (some ⟨go6, 0, none⟩) x0_1.length co15) y143 from u3_1); obtain ⟨ce30, hcl30, hM30, hcc30, hfr30⟩ := Kd.R_elem HX30.out z30 (x5_1 : Int) (of_decide_eq_true u3_3) (by have h_ : (x5_1 : Int) < ((x0_1.length : Int) : Int) := of_decide_eq_true u3_3; first | exact h_ | (have e_ := (Kd.R_reads' HO_0.out).1; omega) | simpa using h_); obtain rfl := k30_openM hM30; have HP30 := Kd.R_seg HX30.out (x5_1 : Int) (of_decide_eq_true u3_3) (by have h_ : (x5_1 : Int) < ((x0_1.length : Int) : Int) := of_decide_eq_true u3_3; first | exact h_ | (have e_ := (Kd.R_reads' HO_0.out).1; omega) | simpa using h_) (seg := [.int .i64 (wrap64 ((wrap64 ((wrap64 ((wrap64 ((wrap64 ((wrap64 (x1_1 + 1)) + 1)) + 1)) + 1)) + 1)) + 1))]) (j := 6) hcl30 hcc30 (show 7 ≤ 8 from by decide) (x' := (⟨(rd_T30 y143 x5_1).f0, (rd_T30 y143 x5_1).f1, (rd_T30 y143 x5_1).f2, (⟨(rd_T30 y143 x5_1).f3.f0, (rd_T30 y143 x5_1).f3.f1⟩ : S28), (rd_T30 y143 x5_1).f4, wrap64 ((wrap64 ((wrap64 ((wrap64 ((wrap64 ((wrap64 (x1_1 + 1)) + 1)) + 1)) + 1)) + 1)) + 1), (rd_T30 y143 x5_1).f6⟩ : S30)) (k30_mkM _ _ _ (⟨(rd_T30 y143 x5_1).f0, (rd_T30 y143 x5_1).f1, (rd_T30 y143 x5_1).f2, (⟨(rd_T30 y143 x5_1).f3.f0, (rd_T30 y143 x5_1).f3.f1⟩ : S28), (rd_T30 y143 x5_1).f4, wrap64 ((wrap64 ((wrap64 ((wrap64 ((wrap64 ((wrap64 (x1_1 + 1)) + 1)) + 1)) + 1)) + 1)) + 1), (rd_T30 y143 x5_1).f6⟩ : S30) ) (fun _ hk => hk); have hx30_6 := hcc30 6 _ rfl; (try simp only [show (k30).sz = 8 from rfl, Nat.mul_one, Nat.add_zero] at hx30_6); have hf30_6 := hfr30 6; (try simp only [show (k30).sz = 8 from rfl, Nat.mul_one, Nat.add_zero] at hf30_6); clear hcl30 hcc30 hfr30 hM30) | ((with_reducible refine gate_store (t := 3) (p := 62) rfl ?_); refine store_event (t := 3) (p := 62) (v := ?vo_w31) (w1 := (w29.setCell ⟨go6, (x5_1 : Int).toNat * 8 + 6, none⟩ (.int .i64 (wrap64 ((wrap64 ((wrap64 ((wrap64 ((wrap64 ((wrap64 (x1_1 + 1)) + 1)) + 1)) + 1)) + 1)) + 1))))) ?hg ?ho ?hn ?hr ?_; (case ho => rfl); (case hg => rfl); (case hn => rfl); (case hr => first | (go_simp; done) | (go_simp; rfl)); intro w31 hw; have hg : w29.grownBy w31 (some go6) := (by rw [hw]; exact HP30.2); have hp_ : Kd.R k30 30 w31 w0.heap.size (fun k_ => (P0_ k_ ∨ w.heap.size ≤ k_)) (.slice (some ⟨go6, 0, none⟩) x0_1.length co15) y144 := (by rw [hw, Ny144.out]; exact HP30.1); clear HP30; have n0_ := Aside0.mk (hp_); have n1_ := Aside0.mk ((by rw [hw]; exact below_set (HB.out) GB6.out : Below w0.heap.size w0 w31)); have n2_ := Aside0.mk (Kept.of_grown (S := (fun k_ => P0_ k_)) hg u3_0 (fun k_ e_ => (HO_0.out.1 k_ e_))); clear HO_0; clear HB; clear HK; have HO_0 := n0_; have HB := n1_; have HK := n2_; clear n0_ n1_ n2_; clear hg hw hp_; have p14 : 0 ≤ (x5_1 : Int) := of_decide_eq_true u3_3; have q14 : (x5_1 : Int) < ((x0_1.length : Int) : Int) := of_decide_eq_true u3_3; obtain ⟨ce14, hcl14, hM14, hcc14, hfr14⟩ := Kd.R_elem HO_0.out z30 (x5_1 : Int) p14 q14; obtain rfl := k30_openM hM14; have hx14_0 : w31.cell? ⟨go6, (x5_1 : Int).toNat * 8, none⟩ = some (.string ((rd_T30 y144 x5_1).f0)) := hcc14 0 _ rfl; have hx14_1 : w31.cell? ⟨go6, (x5_1 : Int).toNat * 8 + 1, none⟩ = some (.int .i64 ((rd_T30 y144 x5_1).f1)) := hcc14 1 _ rfl; have hx14_2 : w31.cell? ⟨go6, (x5_1 : Int).toNat * 8 + 2, none⟩ = some (.string ((rd_T30 y144 x5_1).f2)) := hcc14 2 _ rfl; have hx14_3 : w31.cell? ⟨go6, (x5_1 : Int).toNat * 8 + 3, none⟩ = some (.int .i64 ((rd_T30 y144 x5_1).f3.f0)) := hcc14 3 _ rfl; have hx14_4 : w31.cell? ⟨go6, (x5_1 : Int).toNat * 8 + 4, none⟩ = some (.int .i64 ((rd_T30 y144 x5_1).f3.f1)) := hcc14 4 _ rfl; have hx14_5 : w31.cell? ⟨go6, (x5_1 : Int).toNat * 8 + 5, none⟩ = some (.int .i64 ((rd_T30 y144 x5_1).f4)) := hcc14 5 _ rfl; have hx14_6 : w31.cell? ⟨go6, (x5_1 : Int).toNat * 8 + 6, none⟩ = some (.int .i64 ((rd_T30 y144 x5_1).f5)) := hcc14 6 _ rfl; have hx14_7 : w31.cell? ⟨go6, (x5_1 : Int).toNat * 8 + 7, none⟩ = some (.int .i64 ((rd_T30 y144 x5_1).f6)) := hcc14 7 _ rfl; have hf14_0 : w31.frozen? ⟨go6, (x5_1 : Int).toNat * 8, none⟩ = false := hfr14 0; have hf14_1 : w31.frozen? ⟨go6, (x5_1 : Int).toNat * 8 + 1, none⟩ = false := hfr14 1; have hf14_2 : w31.frozen? ⟨go6, (x5_1 : Int).toNat * 8 + 2, none⟩ = false := hfr14 2; have hf14_3 : w31.frozen? ⟨go6, (x5_1 : Int).toNat * 8 + 3, none⟩ = false := hfr14 3; have hf14_4 : w31.frozen? ⟨go6, (x5_1 : Int).toNat * 8 + 4, none⟩ = false := hfr14 4; have hf14_5 : w31.frozen? ⟨go6, (x5_1 : Int).toNat * 8 + 5, none⟩ = false := hfr14 5; have hf14_6 : w31.frozen? ⟨go6, (x5_1 : Int).toNat * 8 + 6, none⟩ = false := hfr14 6; have hf14_7 : w31.frozen? ⟨go6, (x5_1 : Int).toNat * 8 + 7, none⟩ = false := hfr14 7; clear hcl14 hcc14 hfr14 hM14; replace p14 := eq_true p14; replace q14 := eq_true q14; have HX32 := Aside0.mk (show Kd.R k30 30 w31 w0.heap.size (fun k_ => (P0_ k_ ∨ w.heap.size ≤ k_)) (.slice (some ⟨go6, 0, none⟩) x0_1.length co15) y144 from u3_1); obtain ⟨ce32, hcl32, hM32, hcc32, hfr32⟩ := Kd.R_elem HX32.out z30 (x5_1 : Int) (of_decide_eq_true u3_3) (by have h_ : (x5_1 : Int) < ((x0_1.length : Int) : Int) := of_decide_eq_true u3_3; first | exact h_ | (have e_ := (Kd.R_reads' HO_0.out).1; omega) | simpa using h_); obtain rfl := k30_openM hM32; have HP32 := Kd.R_seg HX32.out (x5_1 : Int) (of_decide_eq_true u3_3) (by have h_ : (x5_1 : Int) < ((x0_1.length : Int) : Int) := of_decide_eq_true u3_3; first | exact h_ | (have e_ := (Kd.R_reads' HO_0.out).1; omega) | simpa using h_) (seg := [.int .i64 (wrap64 ((wrap64 ((wrap64 ((wrap64 ((wrap64 ((wrap64 ((wrap64 (x1_1 + 1)) + 1)) + 1)) + 1)) + 1)) + 1)) + 1))]) (j := 7) hcl32 hcc32 (show 8 ≤ 8 from by decide) (x' := (⟨(rd_T30 y144 x5_1).f0, (rd_T30 y144 x5_1).f1, (rd_T30 y144 x5_1).f2, (⟨(rd_T30 y144 x5_1).f3.f0, (rd_T30 y144 x5_1).f3.f1⟩ : S28), (rd_T30 y144 x5_1).f4, (rd_T30 y144 x5_1).f5, wrap64 ((wrap64 ((wrap64 ((wrap64 ((wrap64 ((wrap64 ((wrap64 (x1_1 + 1)) + 1)) + 1)) + 1)) + 1)) + 1)) + 1)⟩ : S30)) (k30_mkM _ _ _ (⟨(rd_T30 y144 x5_1).f0, (rd_T30 y144 x5_1).f1, (rd_T30 y144 x5_1).f2, (⟨(rd_T30 y144 x5_1).f3.f0, (rd_T30 y144 x5_1).f3.f1⟩ : S28), (rd_T30 y144 x5_1).f4, (rd_T30 y144 x5_1).f5, wrap64 ((wrap64 ((wrap64 ((wrap64 ((wrap64 ((wrap64 ((wrap64 (x1_1 + 1)) + 1)) + 1)) + 1)) + 1)) + 1)) + 1)⟩ : S30) ) (fun _ hk => hk); have hx32_7 := hcc32 7 _ rfl; (try simp only [show (k30).sz = 8 from rfl, Nat.mul_one, Nat.add_zero] at hx32_7); have hf32_7 := hfr32 7; (try simp only [show (k30).sz = 8 from rfl, Nat.mul_one, Nat.add_zero] at hf32_7); clear hcl32 hcc32 hfr32 hM32) | ((with_reducible refine gate_store (t := 3) (p := 69) rfl ?_); refine store_event (t := 3) (p := 69) (v := ?vo_w33) (w1 := (w31.setCell ⟨go6, (x5_1 : Int).toNat * 8 + 7, none⟩ (.int .i64 (wrap64 ((wrap64 ((wrap64 ((wrap64 ((wrap64 ((wrap64 ((wrap64 (x1_1 + 1)) + 1)) + 1)) + 1)) + 1)) + 1)) + 1))))) ?hg ?ho ?hn ?hr ?_; (case ho => rfl); (case hg => rfl); (case hn => rfl); (case hr => first | (go_simp; done) | (go_simp; rfl)); intro w33 hw; have hg : w31.grownBy w33 (some go6) := (by rw [hw]; exact HP32.2); have hp_ : Kd.R k30 30 w33 w0.heap.size (fun k_ => (P0_ k_ ∨ w.heap.size ≤ k_)) (.slice (some ⟨go6, 0, none⟩) x0_1.length co15) y145 := (by rw [hw, Ny145.out]; exact HP32.1); clear HP32; have n0_ := Aside0.mk (hp_); have n1_ := Aside0.mk ((by rw [hw]; exact below_set (HB.out) GB6.out : Below w0.heap.size w0 w33)); have n2_ := Aside0.mk (Kept.of_grown (S := (fun k_ => P0_ k_)) hg u3_0 (fun k_ e_ => (HO_0.out.1 k_ e_))); clear HO_0; clear HB; clear HK; have HO_0 := n0_; have HB := n1_; have HK := n2_; clear n0_ n1_ n2_; clear hg hw hp_))
     go_roundg k1
     case measure => have := HK1.out; omega
     case rel => exact ⟨(y145), (wrap64 ((wrap64 ((wrap64 ((wrap64 ((wrap64 ((wrap64 ((wrap64 ((wrap64 (x1_1 + 1)) + 1)) + 1)) + 1)) + 1)) + 1)) + 1)) + 1)), (wrap64 (x5_1 + 1)), u3_4, u3_4, H', ⟨by have := HK1.out; omega⟩, ⟨by (with_reducible repeat (first | apply Kd.R_alloc | apply Kd.R_drewN | apply Kd.R_drew)); exact HO_0.out⟩, ⟨by repeat (first | (with_reducible first | exact HK.out | apply Kept.alloc | apply Kept.drewN | apply Kept.drew) | exact HK.out)⟩, ⟨by repeat (first | (with_reducible first | exact HB.out | apply below_alloc | apply pw_below_drewN | apply below_drew1) | exact HB.out)⟩⟩
    ·rw [if_neg c5] at H
     exact absurd H (by simp)
   ·rw [if_neg c3] at H
    have c3b0 : decide (x5_1 < (x0_1.length : Int)) = false := decide_eq_false c3
    clear c3
    simp only [Option.some.injEq, Prod.mk.injEq] at H
    obtain ⟨rfl, rfl⟩ := H
    obtain ⟨Ao34, co34, eo34⟩ := Kd.R_slice HO_0.out
    subst eo34
    go_wp2
    go_ret
    exact ⟨by first | rfl | (simp [*] <;> rfl), by (with_reducible repeat (first | apply Kd.R_alloc | apply Kd.R_drewN | apply Kd.R_drew)); exact HO_0.out, by repeat (first | (with_reducible first | exact HB.out | apply below_alloc | apply pw_below_drewN | apply below_drew1) | exact HB.out), by repeat (first | (with_reducible first | exact HK.out | apply Kept.alloc | apply Kept.drewN | apply Kept.drew) | exact HK.out)⟩

end Go.Proofs.Ytkedcokhcgklpaa.MFnExactShiftRig
