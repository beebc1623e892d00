-- Written by a program for this claim.
import Derived.Shelf.Abstract
import Derived.Lib.EndianMore
import Derived.Deep.RegionLaw
import Derived.Shelf.RegionOpenPlain
import Derived.Laws.IdiomCopy
import Derived.Laws.OwnMore
import Derived.Lib.SliceRun
import Derived.Test.YtkedcokhcgklpaaMFnRigx0
import Derived.Test.YtkedcokhcgklpaaMFnRigx2
import Derived.Test.YtkedcokhcgklpaaMFnRigx4
namespace Go.Proofs.Ytkedcokhcgklpaa.MFnRig
open Go.RowKit Go.Proofs.YtkedcokhcgklpaaW.PrintWords Go.Proofs.YtkedcokhcgklpaaW.PrintLast Go.Proofs.YtkedcokhcgklpaaW.PrintMore
attribute [local go_sem] max2_int min2_int max_two min_two max_three min_three max_four min_four   -- for this text's walks alone
set_option linter.unusedVariables false
set_option linter.unusedSimpArgs false

theorem s5_0 {p : Prop} (h : p := by repeat (first | (with_reducible first | exact HB.out | apply below_alloc | apply pw_below_drewN | apply below_drew1 | refine below_set ?_ GE138.out) | exact HB.out)) : p := h
theorem s5_1 {p : Prop} (h : p := by repeat (first | (with_reducible first | exact HB.out | apply below_alloc | apply pw_below_drewN | apply below_drew1) | exact HB.out)) : p := h
theorem y5_0 {p : Prop} (h : p := by repeat (first | exact (Kd.C_below HR0.out HB.out) | (with_reducible refine Kd.C_alloc ?_ _) | (with_reducible refine Kd.C_drewN ?_ _) | (with_reducible refine Kd.C_drew ?_))) : p := h
theorem y5_1 {p : Prop} (h : p := by repeat (first | exact HR0.out | (with_reducible refine Kd.C_alloc ?_ _) | (with_reducible refine Kd.C_drewN ?_ _) | (with_reducible refine Kd.C_drew ?_))) : p := h
theorem u5_0 {p : Prop} (h : p := by repeat (first | (with_reducible first | exact HB.out | apply below_alloc | apply pw_below_drewN | apply below_drew1) | exact HB.out)) : p := h
theorem u5_1 {p : Prop} (h : p := by (try simp only [List.map_toArray, List.map_cons, List.map_nil]); first | done | rfl | (simp only [List.length_drop, List.length_take]; rfl)) : p := h
theorem u5_2 {p : Prop} (h : p := by (with_reducible repeat (first | apply Kd.R_alloc | apply Kd.R_drewN | apply Kd.R_drew)); exact HO156.out) : p := h
def laws_big.f (l0 : List Int) : Option (Bool) := some (decide ((l0.length : Int) > 4096))
set_option maxHeartbeats 8000000 in
set_option maxRecDepth 100000 in
theorem laws_big.calls (A0 : Option Addr) (c0 : Nat) (l0 : List Int) (r : Bool) (w : World) (hr0 : Kd.C (Kd.int .u8) w A0 l0.length l0) (hc0 : l0.length ≤ c0) (h : laws_big.f l0 = some r) :
  Calls Try.prog 28 #[.slice A0 l0.length c0] w fun e w' => e = .returned (.bool r) ∧ Drawn0 w w' := by
 have HR0 := Aside0.mk hr0
 have HC0 := Aside0.mk hc0
 clear hr0 hc0
 have H : (some (decide ((l0.length : Int) > 4096))) = some r := h
 clear h
 obtain rfl := Option.some.inj H
 go_enter Try.func28, Try.ntmps28
 go_wp2
 go_ret
 exact ⟨by first | rfl | (simp; done) | (simp [*]; done), by repeat (first | exact Drawn0.refl _ | apply Drawn0.step)⟩

mutual
def impl_OnLine.j0 : Nat → List (S30) → ByteArray → List ByteArray → Bool → Option (List ByteArray)
 | 0, _, _, _, _ => none
 | k + 1, x0, x1, x5, x15 => if x15 = true then (some x5) else (impl_OnLine.l0 k x1 x5 x0 (x0.length : Int) 0)
def impl_OnLine.l0 : Nat → ByteArray → List ByteArray → List (S30) → Int → Int → Option (List ByteArray)
 | 0, _, _, _, _, _ => none
 | k + 1, x1, x5, x17, x18, x19 => if x19 < x18 then (if 0 ≤ x19 then (if x19 < (x17.length : Int) then (if ((rd_T30 x17 x19).f2).toList = x1.toList then (if x5.length < 8796093022208 then (impl_OnLine.l0 k x1 (x5 ++ [(rd_T30 x17 x19).f0]) x17 x18 (wrap64 (x19 + 1))) else (none)) else (impl_OnLine.l0 k x1 x5 x17 x18 (wrap64 (x19 + 1)))) else (none)) else (none)) else (some x5)
end
def impl_OnLine.f (k : Nat) (l0 : List (S30)) (a1 : ByteArray) : Option (List ByteArray) := (some (([] : List ByteArray) : List ByteArray)).bind fun y133 => ((impl_IsRig.f k l0).bind fun t136 => (if t136 = true then (impl_OnLine.j0 k l0 a1 y133 (a1.toList == ([] : List UInt8))) else (impl_OnLine.j0 k l0 a1 y133 true)))
theorem impl_OnLine.mono_l : ∀ k, (∀ y0 y1 y2 y3, LeO (impl_OnLine.j0 k y0 y1 y2 y3) (impl_OnLine.j0 (k + 1) y0 y1 y2 y3)) ∧ (∀ y0 y1 y2 y3 y4, LeO (impl_OnLine.l0 k y0 y1 y2 y3 y4) (impl_OnLine.l0 (k + 1) y0 y1 y2 y3 y4))
 | 0 => ⟨fun _ _ _ _ r h => by simp [impl_OnLine.j0] at h, fun _ _ _ _ _ r h => by simp [impl_OnLine.l0] at h⟩
 | k + 1 => by
  obtain ⟨ih0, ih1⟩ := impl_OnLine.mono_l k
  refine ⟨?_, ?_⟩
  ·intro y0 y1 y2 y3
   unfold impl_OnLine.j0
   repeat' first
   | (with_reducible exact ih0 _ _ _ _)
   | (with_reducible exact ih1 _ _ _ _ _)
   | (with_reducible exact impl_IsRig.mono _ _)
   | (with_reducible exact LeO.refl _)
   | (with_reducible exact LeO.none _)
   | (with_reducible refine LeO.ite ?_ ?_)
   | (with_reducible refine LeO.bind ?_ (fun _ => ?_))
  ·intro y0 y1 y2 y3 y4
   unfold impl_OnLine.l0
   repeat' first
   | (with_reducible exact ih0 _ _ _ _)
   | (with_reducible exact ih1 _ _ _ _ _)
   | (with_reducible exact impl_IsRig.mono _ _)
   | (with_reducible exact LeO.refl _)
   | (with_reducible exact LeO.none _)
   | (with_reducible refine LeO.ite ?_ ?_)
   | (with_reducible refine LeO.bind ?_ (fun _ => ?_))
theorem impl_OnLine.mono : ∀ a0 a1 k, LeO (impl_OnLine.f k a0 a1) (impl_OnLine.f (k + 1) a0 a1) := by
 intro a0 a1 k
 obtain ⟨ih0, ih1⟩ := impl_OnLine.mono_l k
 unfold impl_OnLine.f
 repeat' first
   | (with_reducible exact ih0 _ _ _ _)
   | (with_reducible exact ih1 _ _ _ _ _)
   | (with_reducible exact impl_IsRig.mono _ _)
   | (with_reducible exact LeO.refl _)
   | (with_reducible exact LeO.none _)
   | (with_reducible refine LeO.ite ?_ ?_)
   | (with_reducible refine LeO.bind ?_ (fun _ => ?_))
set_option maxHeartbeats 8000000 in
set_option maxRecDepth 100000 in
theorem impl_OnLine.calls (k : Nat) (A0 : Option Addr) (c0 : Nat) (l0 : List (S30)) (a1 : ByteArray) (r : List ByteArray) (w : World) (hr0 : Kd.C k30 w A0 l0.length l0) (hc0 : l0.length ≤ c0) (h : impl_OnLine.f k l0 a1 = some r) :
  Calls Try.prog 32 #[.slice A0 l0.length c0, .string a1] w fun e w' => ∃ v0_ : Value, e = .returned (v0_) ∧ Kd.R Kd.string 9 w' w.heap.size (fun _ => True) v0_ r ∧ Below w.heap.size w w' := by
 have hu30 := Try.underlying30
 have HR0 := Aside0.mk hr0
 have HC0 := Aside0.mk hc0
 clear hr0 hc0
 have HB := Aside0.mk (Below.refl w.heap.size w)
 have H : ((some (([] : List ByteArray) : List ByteArray)).bind fun y133 => ((impl_IsRig.f k l0).bind fun t136 => (if t136 = true then (impl_OnLine.j0 k l0 a1 y133 (a1.toList == ([] : List UInt8))) else (impl_OnLine.j0 k l0 a1 y133 true)))) = some r := h
 clear h
 obtain ⟨y133, hy133⟩ : ∃ y_ : List ByteArray, y_ = (([] : List ByteArray)) := ⟨_, rfl⟩
 replace H : ((impl_IsRig.f k l0).bind fun t136 => (if t136 = true then (impl_OnLine.j0 k l0 a1 y133 (a1.toList == ([] : List UInt8))) else (impl_OnLine.j0 k l0 a1 y133 true))) = some r := by first | (rw [hy133]; with_reducible exact H) | (have H2_ := (Option.bind_some _ _).symm.trans H; rw [hy133]; with_reducible exact H2_) | (have H2_ := (Option.bind_some _ _).symm.trans H; with_reducible exact H2_) | with_reducible exact H | (rw [hy133]; exact H) | exact H
 have Ny133 := Aside0.mk hy133
 clear hy133
 have HC3 := Aside0.mk H
 clear H
 go_enter Try.func32, Try.ntmps32
 go_upto_region 2 with (first | ((with_reducible refine gate_dst (N := 8) rfl ?_); refine Kd.R_lit Kd.string _ 9 ?hg (N := 8) ?hd (xs := ([] : List ByteArray)) (inner := []) (ok := fun _ => True) (okp := fun _ => True) ?hr ?hp (fun _ hk => hk) trivial (Below.refl _ _) (Nat.le_refl _) (by simp) ?_; (case hd => rfl); (case hg => rfl); (case hr => exact gq); (case hp => exact (Reps.none _ _)); intro v134 w4 ho5 hb hg_ hnew_; clear hg_ hnew_; (first | rw [← Ny133.out] at ho5 | (simp only [Int.reduceToNat] at ho5; rw [← Ny133.out] at ho5)); have n0_ := Aside0.mk (Kd.R_lower ho5 (below_size u5_0)); have n1_ := Aside0.mk (below_step u5_0 hb); clear HB; have HO135 := n0_; have HB := n1_; clear n0_ n1_; clear hb ho5))
 (try simp only [Act.put, List.setIfInBounds_toArray, List.set_cons_zero, List.set_cons_succ])
 go_cut [15] (fun v15 wc => ∃ (kq : Nat) (x15_2 : Bool), v15 = .bool x15_2 ∧ Aside0 (impl_OnLine.j0 kq l0 a1 y133 x15_2 = some r) ∧ Aside0 (kq ≤ k) ∧ Aside0 (Kd.R Kd.string 9 wc w.heap.size (fun _ => True) v134 y133) ∧ Aside0 (Below w.heap.size w wc))
 case first =>
  have H := HC3.out
  clear HC3
  replace H := Option.bind_eq_some_iff.mp H
  obtain ⟨t136, A60, H⟩ := H
  replace H : (if t136 = true then (impl_OnLine.j0 k l0 a1 y133 (a1.toList == ([] : List UInt8))) else (impl_OnLine.j0 k l0 a1 y133 true)) = some r := H
  have A6 := Aside0.mk A60
  clear A60
  by_cases c7 : t136 = true
  ·subst c7
   have H1 : (impl_OnLine.j0 k l0 a1 y133 (a1.toList == ([] : List UInt8))) = some r := by rw [if_pos rfl] at H; exact H
   clear H
   have H := H1
   clear H1
   have H' := Aside0.mk H
   clear H
   go_wp2_with (first | ((with_reducible refine gate_callee (f := 25) rfl ?_); refine goesL_ (some 10) rfl rfl Try.func25 (by kernel_rfl) rfl #[.slice A0 l0.length c0] rfl u5_1 ?_; (with_reducible refine (impl_IsRig.calls k _ _ l0 true _ ?side1 ?side2 A6.out).mono ?_); (case side1 => exact y5_0); (case side2 => exact HC0.out); rintro e w8 ⟨rfl, hb⟩; refine ⟨_, rfl, ?_⟩; have n0_ := Aside0.mk (Kd.R_below (by (with_reducible repeat (first | apply Kd.R_alloc | apply Kd.R_drewN | apply Kd.R_drew)); exact HO135.out) hb); have n1_ := Aside0.mk (below_step u5_0 hb); clear HO135; clear HB; have HO135 := n0_; have HB := n1_; clear n0_ n1_; (try clear hb); (try clear hb2); (try clear hk); (try clear hi)))
   go_meet
   case rel => exact ⟨_, ((a1.toList == ([] : List UInt8))), (by first | rfl | (simp; done) | (simp [*]; done)), H', ⟨by first | omega | exact Nat.le_refl _⟩, ⟨by (with_reducible repeat (first | apply Kd.R_alloc | apply Kd.R_drewN | apply Kd.R_drew)); exact HO135.out⟩, ⟨s5_1⟩⟩
  ·replace c7 := Bool.eq_false_iff.mpr c7
   subst c7
   have H1 : (impl_OnLine.j0 k l0 a1 y133 true) = some r := by rw [if_neg (show ¬ (false = true) by decide)] at H; exact H
   clear H
   have H := H1
   clear H1
   have H' := Aside0.mk H
   clear H
   go_wp2_with (first | ((with_reducible refine gate_callee (f := 25) rfl ?_); refine goesL_ (some 10) rfl rfl Try.func25 (by kernel_rfl) rfl #[.slice A0 l0.length c0] rfl u5_1 ?_; (with_reducible refine (impl_IsRig.calls k _ _ l0 false _ ?side1 ?side2 A6.out).mono ?_); (case side1 => exact y5_0); (case side2 => exact HC0.out); rintro e w9 ⟨rfl, hb⟩; refine ⟨_, rfl, ?_⟩; have n0_ := Aside0.mk (Kd.R_below (by (with_reducible repeat (first | apply Kd.R_alloc | apply Kd.R_drewN | apply Kd.R_drew)); exact HO135.out) hb); have n1_ := Aside0.mk (below_step u5_0 hb); clear HO135; clear HB; have HO135 := n0_; have HB := n1_; clear n0_ n1_; (try clear hb); (try clear hb2); (try clear hk); (try clear hi)))
   go_meet
   case rel => exact ⟨_, (true), (by first | rfl | (simp; done) | (simp [*]; done)), H', ⟨by first | omega | exact Nat.le_refl _⟩, ⟨by (with_reducible repeat (first | apply Kd.R_alloc | apply Kd.R_drewN | apply Kd.R_drew)); exact HO135.out⟩, ⟨s5_1⟩⟩
 case rest =>
  clear HC3
  try clear c2
  try clear p2
  try clear c3
  try clear c7
  obtain ⟨kq, x15_2, rfl, HA, HJ2, HO_5, HB⟩ := hcut
  cases kq with
  | zero => exact absurd HA.out (by simp [impl_OnLine.j0])
  | succ kj2 =>
   have H := HA.out
   clear HA
   simp only [impl_OnLine.j0] at H
   by_cases c10 : x15_2 = true
   ·subst c10
    have H1 : (some y133) = some r := by rw [if_pos rfl] at H; exact H
    clear H
    have H := H1
    clear H1
    obtain rfl := Option.some.inj H
    go_wp2
    go_ret
    exact ⟨_, by first | rfl | (simp [*] <;> rfl), by (with_reducible repeat (first | apply Kd.R_alloc | apply Kd.R_drewN | apply Kd.R_drew)); exact HO_5.out, s5_1⟩
   ·replace c10 := Bool.eq_false_iff.mpr c10
    subst c10
    have H1 : (impl_OnLine.l0 kj2 a1 y133 l0 (l0.length : Int) 0) = some r := by rw [if_neg (show ¬ (false = true) by decide)] at H; exact H
    clear H
    have H := H1
    clear H1
    have H' := Aside0.mk H
    clear H
    go_wp2
    go_loopg [5, 19] kj2 (fun kq v5 v19 w' => ∃ (x5_2 : List ByteArray) (x19_2 : Int), v19 = .int .i64 x19_2 ∧ Aside0 (impl_OnLine.l0 kq a1 x5_2 l0 (l0.length : Int) x19_2 = some r) ∧ Aside0 (kq ≤ kj2) ∧ Aside0 (Kd.R Kd.string 9 w' w.heap.size (fun _ => True) v5 x5_2) ∧ Aside0 (Below w.heap.size w w'))
    case atStart => exact ⟨(y133), (0), (by first | rfl | (simp; done) | (simp [*]; done)), H', ⟨Nat.le_refl _⟩, ⟨by (with_reducible repeat (first | apply Kd.R_alloc | apply Kd.R_drewN | apply Kd.R_drew)); exact HO_5.out⟩, ⟨s5_1⟩⟩
    case round =>
     clear H'
     try clear c1
     try clear c2
     try clear p2
     try clear c3
     try clear c7
     try clear c10
     try clear p2
     obtain ⟨x5_2, x19_2, rfl, HA, HK2, HO_5, HB⟩ := hrel
     cases gk with
     | zero => exact absurd HA.out (by simp [impl_OnLine.l0])
     | succ k2 =>
      have H := HA.out
      clear HA
      simp only [impl_OnLine.l0] at H
      by_cases c11 : x19_2 < (l0.length : Int)
      ·rw [if_pos c11] at H
       have c11b0 : decide (x19_2 < (l0.length : Int)) = true := decide_eq_true c11
       clear c11
       by_cases c12 : 0 ≤ x19_2
       ·rw [if_pos c12] at H
        have c12b0 : decide (0 ≤ x19_2) = true := decide_eq_true c12
        clear c12
        by_cases c13 : x19_2 < (l0.length : Int)
        ·rw [if_pos c13] at H
         have c13b0 : decide (x19_2 < (l0.length : Int)) = true := decide_eq_true c13
         clear c13
         by_cases c14 : ((rd_T30 l0 x19_2).f2).toList = a1.toList
         ·rw [if_pos c14] at H
          have c14b0 : (((rd_T30 l0 x19_2).f2).toList == a1.toList) = true := beq_iff_eq.mpr c14
          have c14b1 : (((rd_T30 l0 x19_2).f2).toList != a1.toList) = false := bne_eq_false_iff_eq.mpr c14
          clear c14
          by_cases c15 : x5_2.length < 8796093022208
          ·rw [if_pos c15] at H
           have LMc15 := Aside0.mk c15
           clear c15
           obtain ⟨y139, hy139⟩ : ∃ y_ : List ByteArray, y_ = (x5_2 ++ [(rd_T30 l0 x19_2).f0]) := ⟨_, rfl⟩
           replace H : (impl_OnLine.l0 k2 a1 y139 l0 (l0.length : Int) (wrap64 (x19_2 + 1))) = some r := by first | (rw [hy139]; with_reducible exact H) | (have H2_ := (Option.bind_some _ _).symm.trans H; rw [hy139]; with_reducible exact H2_) | (have H2_ := (Option.bind_some _ _).symm.trans H; with_reducible exact H2_) | with_reducible exact H | (rw [hy139]; exact H) | exact H
           have Ny139 := Aside0.mk hy139
           clear hy139
           have H' := Aside0.mk H
           clear H
           have p137 : 0 ≤ (x19_2 : Int) := of_decide_eq_true (by assumption)
           have q137 : x19_2 < (l0.length : Int) := of_decide_eq_true (by assumption)
           obtain ⟨ad137, e137, hx137_0, hx137_1, hx137_2, hx137_3, hx137_4, hx137_5, hx137_6, hx137_7⟩ := at_T30 (Kd.C_below HR0.out HB.out) x19_2 p137 q137
           cases e137
           replace p137 := eq_true p137
           replace q137 := eq_true q137
           go_wp2_with (first | ((with_reducible refine gate_dst (N := 7) rfl ?_); refine box_event ?hg (N := 7) ?hd (cs := #[.string (⟨#[]⟩ : ByteArray), .int .i64 0, .string (⟨#[]⟩ : ByteArray), .int .i64 0, .int .i64 0, .int .i64 0, .int .i64 0, .int .i64 0]) (t := 30) ?hr ?_; (case hd => rfl); (case hg => rfl); (case hr => exact gq); intro gb138 hg w16 hbox hb; have n0_ := Aside0.mk (Kd.R_below (by (with_reducible repeat (first | apply Kd.R_alloc | apply Kd.R_drewN | apply Kd.R_drew)); exact HO_5.out) hb); have n1_ := Aside0.mk (below_step u5_0 hb); have n2_ := Aside0.mk (hbox); have n3_ := bsw w hg (below_size u5_0); have n4_ := bsw w hg (below_size u5_0); clear HO_5; clear HB; have HO_5 := n0_; have HB := n1_; have BK138 := n2_; have GW138 := n3_; have GE138 := n4_; clear n0_ n1_ n2_ n3_ n4_; clear hb hbox hg; obtain ⟨hcz17_0, hcz17_1, hcz17_2, hcz17_3, hcz17_4, hcz17_5, hcz17_6, hcz17_7, hfz17_0, hfz17_1, hfz17_2, hfz17_3, hfz17_4, hfz17_5, hfz17_6, hfz17_7⟩ := cf8 BK138.out) | ((with_reducible refine gate_builtin (b := .append) (xs := #[.tmp 27, .tmp 30]) rfl ?_); at_builtin; refine Kd.R_append Kd.string (w0 := w) w.heap.size rfl (.tmp 27) (.tmp 30) 49 9 (.string ⟨#[]⟩) 16 rfl Try.underlying49 info9 rfl (by decide) (by omega) u5 x5_2 ((rd_T30 l0 x19_2).f0) [.string ((rd_T30 l0 x19_2).f0)] (fun _ => True) (fun _ => False) rfl (by first | (go_simp; done) | (go_simp; rfl)) ?aP (fun _ hk => hk.elim) ?aF ?aO ?aB ?aS ?aL ?_; (case aP => exact rfl); (case aB => exact (by repeat (first | (with_reducible first | exact HB.out | apply below_alloc | apply pw_below_drewN | apply below_drew1 | refine below_set ?_ GE138.out) | exact HB.out))); (case aF => exact (fun _ _ => trivial)); (case aO => exact (by (with_reducible repeat (first | apply Kd.R_alloc | apply Kd.R_drewN | apply Kd.R_drew)); exact Kd.R_mono (Kd.R_far (p := ⟨gb138, 7, none⟩) (Kd.R_far (p := ⟨gb138, 6, none⟩) (Kd.R_far (p := ⟨gb138, 5, none⟩) (Kd.R_far (p := ⟨gb138, 4, none⟩) (Kd.R_far (p := ⟨gb138, 3, none⟩) (Kd.R_far (p := ⟨gb138, 2, none⟩) (Kd.R_far (p := ⟨gb138, 1, none⟩) (Kd.R_far (p := ⟨gb138, 0, none⟩) (Kd.R_types HO_5.out BK138.out (by decide)) (fun _ hk => hk.2) (.string ((rd_T30 l0 x19_2).f0))) (fun _ hk => hk.2) (.int .i64 ((rd_T30 l0 x19_2).f1))) (fun _ hk => hk.2) (.string ((rd_T30 l0 x19_2).f2))) (fun _ hk => hk.2) (.int .i64 ((rd_T30 l0 x19_2).f3.f0))) (fun _ hk => hk.2) (.int .i64 ((rd_T30 l0 x19_2).f3.f1))) (fun _ hk => hk.2) (.int .i64 ((rd_T30 l0 x19_2).f4))) (fun _ hk => hk.2) (.int .i64 ((rd_T30 l0 x19_2).f5))) (fun _ hk => hk.2) (.int .i64 ((rd_T30 l0 x19_2).f6))) (fun _ hk => trivial))); (case aS => exact (below_size (by repeat (first | (with_reducible first | exact HB.out | apply below_alloc | apply pw_below_drewN | apply below_drew1 | refine below_set ?_ GE138.out) | exact HB.out)))); (case aL => have := LMc15.out; omega); intro v140 w18 ho hb hg hat; rw [← Ny139.out] at ho; have n0_ := Aside0.mk (blk_grown (g := gb138) (o := .cells #[.string ((rd_T30 l0 x19_2).f0), .int .i64 ((rd_T30 l0 x19_2).f1), .string ((rd_T30 l0 x19_2).f2), .int .i64 ((rd_T30 l0 x19_2).f3.f0), .int .i64 ((rd_T30 l0 x19_2).f3.f1), .int .i64 ((rd_T30 l0 x19_2).f4), .int .i64 ((rd_T30 l0 x19_2).f5), .int .i64 ((rd_T30 l0 x19_2).f6)] 30 (0, 0)) (by (with_reducible repeat (first | refine blk_drewN ?_ _ | refine blk_drew ?_ | refine blk_alloc ?_ _)); refine blk_put (cs := #[.string ((rd_T30 l0 x19_2).f0), .int .i64 ((rd_T30 l0 x19_2).f1), .string ((rd_T30 l0 x19_2).f2), .int .i64 ((rd_T30 l0 x19_2).f3.f0), .int .i64 ((rd_T30 l0 x19_2).f3.f1), .int .i64 ((rd_T30 l0 x19_2).f4), .int .i64 ((rd_T30 l0 x19_2).f5), .int .i64 0]) ?_ 7 _ rfl; refine blk_put (cs := #[.string ((rd_T30 l0 x19_2).f0), .int .i64 ((rd_T30 l0 x19_2).f1), .string ((rd_T30 l0 x19_2).f2), .int .i64 ((rd_T30 l0 x19_2).f3.f0), .int .i64 ((rd_T30 l0 x19_2).f3.f1), .int .i64 ((rd_T30 l0 x19_2).f4), .int .i64 0, .int .i64 0]) ?_ 6 _ rfl; refine blk_put (cs := #[.string ((rd_T30 l0 x19_2).f0), .int .i64 ((rd_T30 l0 x19_2).f1), .string ((rd_T30 l0 x19_2).f2), .int .i64 ((rd_T30 l0 x19_2).f3.f0), .int .i64 ((rd_T30 l0 x19_2).f3.f1), .int .i64 0, .int .i64 0, .int .i64 0]) ?_ 5 _ rfl; refine blk_put (cs := #[.string ((rd_T30 l0 x19_2).f0), .int .i64 ((rd_T30 l0 x19_2).f1), .string ((rd_T30 l0 x19_2).f2), .int .i64 ((rd_T30 l0 x19_2).f3.f0), .int .i64 0, .int .i64 0, .int .i64 0, .int .i64 0]) ?_ 4 _ rfl; refine blk_put (cs := #[.string ((rd_T30 l0 x19_2).f0), .int .i64 ((rd_T30 l0 x19_2).f1), .string ((rd_T30 l0 x19_2).f2), .int .i64 0, .int .i64 0, .int .i64 0, .int .i64 0, .int .i64 0]) ?_ 3 _ rfl; refine blk_put (cs := #[.string ((rd_T30 l0 x19_2).f0), .int .i64 ((rd_T30 l0 x19_2).f1), .string (⟨#[]⟩ : ByteArray), .int .i64 0, .int .i64 0, .int .i64 0, .int .i64 0, .int .i64 0]) ?_ 2 _ rfl; (with_reducible repeat (first | refine blk_drewN ?_ _ | refine blk_drew ?_ | refine blk_alloc ?_ _)); refine blk_put (cs := #[.string ((rd_T30 l0 x19_2).f0), .int .i64 0, .string (⟨#[]⟩ : ByteArray), .int .i64 0, .int .i64 0, .int .i64 0, .int .i64 0, .int .i64 0]) ?_ 1 _ rfl; (with_reducible repeat (first | refine blk_drewN ?_ _ | refine blk_drew ?_ | refine blk_alloc ?_ _)); refine blk_put (cs := #[.string (⟨#[]⟩ : ByteArray), .int .i64 0, .string (⟨#[]⟩ : ByteArray), .int .i64 0, .int .i64 0, .int .i64 0, .int .i64 0, .int .i64 0]) ?_ 0 _ rfl; (with_reducible repeat (first | refine blk_drewN ?_ _ | refine blk_drew ?_ | refine blk_alloc ?_ _)); exact BK138.out) hg (Kd.R_ne HO_5.out BK138.out (by decide))); have n1_ := Aside0.mk (hb); have n2_ := Aside0.mk (ho); clear BK138; clear HB; clear HO_5; have BK138 := n0_; have HB := n1_; have HO141 := n2_; clear n0_ n1_ n2_; clear ho hb hg hat))
           go_roundg k2
           case measure => have := HJ2.out; have := HK2.out; omega
           case rel => exact ⟨(y139), (wrap64 (x19_2 + 1)), (by first | rfl | (simp; done) | (simp [*]; done)), H', ⟨by have := HJ2.out; have := HK2.out; omega⟩, ⟨by (with_reducible repeat (first | apply Kd.R_alloc | apply Kd.R_drewN | apply Kd.R_drew)); exact HO141.out⟩, ⟨s5_0⟩⟩
          ·rw [if_neg c15] at H
           exact absurd H (by simp)
         ·rw [if_neg c14] at H
          have c14b0 : (((rd_T30 l0 x19_2).f2).toList == a1.toList) = false := beq_eq_false_iff_ne.mpr c14
          have c14b1 : (((rd_T30 l0 x19_2).f2).toList != a1.toList) = true := bne_iff_ne.mpr c14
          have H' := Aside0.mk H
          clear H
          have p137 : 0 ≤ (x19_2 : Int) := of_decide_eq_true (by assumption)
          have q137 : x19_2 < (l0.length : Int) := of_decide_eq_true (by assumption)
          obtain ⟨ad137, e137, hx137_0, hx137_1, hx137_2, hx137_3, hx137_4, hx137_5, hx137_6, hx137_7⟩ := at_T30 (Kd.C_below HR0.out HB.out) x19_2 p137 q137
          cases e137
          replace p137 := eq_true p137
          replace q137 := eq_true q137
          go_wp2_with (first | ((with_reducible refine gate_dst (N := 7) rfl ?_); refine box_event ?hg (N := 7) ?hd (cs := #[.string (⟨#[]⟩ : ByteArray), .int .i64 0, .string (⟨#[]⟩ : ByteArray), .int .i64 0, .int .i64 0, .int .i64 0, .int .i64 0, .int .i64 0]) (t := 30) ?hr ?_; (case hd => rfl); (case hg => rfl); (case hr => exact gq); intro gb138 hg w19 hbox hb; have n0_ := Aside0.mk (Kd.R_below (by (with_reducible repeat (first | apply Kd.R_alloc | apply Kd.R_drewN | apply Kd.R_drew)); exact HO_5.out) hb); have n1_ := Aside0.mk (below_step u5_0 hb); have n2_ := Aside0.mk (hbox); have n3_ := bsw w hg (below_size u5_0); have n4_ := bsw w hg (below_size u5_0); clear HO_5; clear HB; have HO_5 := n0_; have HB := n1_; have BK138 := n2_; have GW138 := n3_; have GE138 := n4_; clear n0_ n1_ n2_ n3_ n4_; clear hb hbox hg; obtain ⟨hcz20_0, hcz20_1, hcz20_2, hcz20_3, hcz20_4, hcz20_5, hcz20_6, hcz20_7, hfz20_0, hfz20_1, hfz20_2, hfz20_3, hfz20_4, hfz20_5, hfz20_6, hfz20_7⟩ := cf8 BK138.out))
          go_roundg k2
          case measure => have := HJ2.out; have := HK2.out; omega
          case rel => exact ⟨(x5_2), (wrap64 (x19_2 + 1)), (by first | rfl | (simp; done) | (simp [*]; done)), H', ⟨by have := HJ2.out; have := HK2.out; omega⟩, ⟨by (with_reducible repeat (first | apply Kd.R_alloc | apply Kd.R_drewN | apply Kd.R_drew)); exact Kd.R_mono (Kd.R_far (p := ⟨gb138, 7, none⟩) (Kd.R_far (p := ⟨gb138, 6, none⟩) (Kd.R_far (p := ⟨gb138, 5, none⟩) (Kd.R_far (p := ⟨gb138, 4, none⟩) (Kd.R_far (p := ⟨gb138, 3, none⟩) (Kd.R_far (p := ⟨gb138, 2, none⟩) (Kd.R_far (p := ⟨gb138, 1, none⟩) (Kd.R_far (p := ⟨gb138, 0, none⟩) (Kd.R_types HO_5.out BK138.out (by decide)) (fun _ hk => hk.2) (.string ((rd_T30 l0 x19_2).f0))) (fun _ hk => hk.2) (.int .i64 ((rd_T30 l0 x19_2).f1))) (fun _ hk => hk.2) (.string ((rd_T30 l0 x19_2).f2))) (fun _ hk => hk.2) (.int .i64 ((rd_T30 l0 x19_2).f3.f0))) (fun _ hk => hk.2) (.int .i64 ((rd_T30 l0 x19_2).f3.f1))) (fun _ hk => hk.2) (.int .i64 ((rd_T30 l0 x19_2).f4))) (fun _ hk => hk.2) (.int .i64 ((rd_T30 l0 x19_2).f5))) (fun _ hk => hk.2) (.int .i64 ((rd_T30 l0 x19_2).f6))) (fun _ hk => trivial)⟩, ⟨s5_0⟩⟩
        ·rw [if_neg c13] at H
         exact absurd H (by simp)
       ·rw [if_neg c12] at H
        exact absurd H (by simp)
      ·rw [if_neg c11] at H
       have c11b0 : decide (x19_2 < (l0.length : Int)) = false := decide_eq_false c11
       clear c11
       obtain rfl := Option.some.inj H
       go_wp2
       go_ret
       exact ⟨_, by first | rfl | (simp [*] <;> rfl), by (with_reducible repeat (first | apply Kd.R_alloc | apply Kd.R_drewN | apply Kd.R_drew)); exact HO_5.out, s5_1⟩

def spec_l6Copies.f (l0 : List (S30)) : Option ((List (S30))) := (some (([] : List (S30)) : List (S30))).bind fun y142 => (if y142.length + l0.length < 1759218604441 then (some (y142 ++ l0)) else (none))
set_option maxHeartbeats 8000000 in
set_option maxRecDepth 100000 in
theorem spec_l6Copies.calls (A0 : Option Addr) (c0 : Nat) (l0 : List (S30)) (r : List (S30)) (w : World) (hr0 : Kd.C k30 w A0 l0.length l0) (hc0 : l0.length ≤ c0) (h : spec_l6Copies.f l0 = some r) :
  Calls Try.prog 69 #[.slice A0 l0.length c0] w fun e w' => ∃ v0_ : Value, e = .returned (v0_) ∧ Kd.R k30 30 w' w.heap.size (fun _ => True) v0_ r ∧ Below w.heap.size w w' := by
 have HR0 := Aside0.mk hr0
 have HC0 := Aside0.mk hc0
 clear hr0 hc0
 have HB := Aside0.mk (Below.refl w.heap.size w)
 have H : ((some (([] : List (S30)) : List (S30))).bind fun y142 => (if y142.length + l0.length < 1759218604441 then (some (y142 ++ l0)) else (none))) = some r := h
 clear h
 obtain ⟨y142, hy142⟩ : ∃ y_ : List (S30), y_ = (([] : List (S30))) := ⟨_, rfl⟩
 replace H : (if y142.length + l0.length < 1759218604441 then (some (y142 ++ l0)) else (none)) = some r := by first | (rw [hy142]; with_reducible exact H) | (have H2_ := (Option.bind_some _ _).symm.trans H; rw [hy142]; with_reducible exact H2_) | (have H2_ := (Option.bind_some _ _).symm.trans H; with_reducible exact H2_) | with_reducible exact H | (rw [hy142]; exact H) | exact H
 have Ny142 := Aside0.mk hy142
 clear hy142
 by_cases c2 : y142.length + l0.length < 1759218604441
 ·rw [if_pos c2] at H
  have LMc2 := Aside0.mk c2
  clear c2
  obtain ⟨y145, hy145⟩ : ∃ y_ : List (S30), y_ = (y142 ++ l0) := ⟨_, rfl⟩
  replace H : (some y145) = some r := by first | (rw [hy145]; with_reducible exact H) | (have H2_ := (Option.bind_some _ _).symm.trans H; rw [hy145]; with_reducible exact H2_) | (have H2_ := (Option.bind_some _ _).symm.trans H; with_reducible exact H2_) | with_reducible exact H | (rw [hy145]; exact H) | exact H
  have Ny145 := Aside0.mk hy145
  clear hy145
  obtain rfl := Option.some.inj H
  go_enter Try.func69, Try.ntmps69
  go_wp2_with (first | ((with_reducible refine gate_dst (N := 3) rfl ?_); refine Kd.R_lit k30 _ 30 ?hg (N := 3) ?hd (xs := ([] : List (S30))) (inner := []) (ok := fun _ => True) (okp := fun _ => True) ?hr ?hp (fun _ hk => hk) trivial (Below.refl _ _) (Nat.le_refl _) (by simp) ?_; (case hd => rfl); (case hg => rfl); (case hr => exact gq); (case hp => exact (Reps.none _ _)); intro v143 w3 ho4 hb hg_ hnew_; clear hg_ hnew_; (first | rw [← Ny142.out] at ho4 | (simp only [Int.reduceToNat] at ho4; rw [← Ny142.out] at ho4)); have n0_ := Aside0.mk (Kd.R_lower ho4 (below_size u5_0)); have n1_ := Aside0.mk (below_step u5_0 hb); clear HB; have HO144 := n0_; have HB := n1_; clear n0_ n1_; clear hb ho4) | ((with_reducible refine gate_builtin (b := .append) (xs := #[.tmp 3, .tmp 4]) rfl ?_); at_builtin; refine Kd.R_append_rows k30 (w0 := w) w.heap.size rfl (.tmp 3) (.tmp 4) 36 30 (.agg #[(.string ⟨#[]⟩), (.int .i64 0), (.string ⟨#[]⟩), (.int .i64 0), (.int .i64 0), (.int .i64 0), (.int .i64 0), (.int .i64 0)]) 80 rfl Try.underlying36 info30 rfl (by decide) (by omega) v143 y142 l0 _ _ _ (fun _ => True) (fun _ => False) rfl rfl ?aO ?aR (fun _ _ h => h) (fun _ h => h.elim) ?aF ?aB ?aS ?aL ?_; (case aR => repeat (first | exact (Kd.C_below HR0.out HB.out) | (with_reducible refine Kd.C_alloc ?_ _) | (with_reducible refine Kd.C_drewN ?_ _) | (with_reducible refine Kd.C_drew ?_))); (case aB => exact u5_0); (case aF => exact (fun _ _ => trivial)); (case aO => exact (by (with_reducible repeat (first | apply Kd.R_alloc | apply Kd.R_drewN | apply Kd.R_drew)); exact HO144.out)); (case aS => exact (below_size u5_0)); (case aL => have := LMc2.out; omega); intro v146 w5 ho hb hg hat; rw [← Ny145.out] at ho; have n0_ := Aside0.mk (hb); have n1_ := Aside0.mk (ho); clear HB; clear HO144; have HB := n0_; have HO147 := n1_; clear n0_ n1_; clear ho hb hg hat))
  go_ret
  exact ⟨_, by first | rfl | (simp [*] <;> rfl), by (with_reducible repeat (first | apply Kd.R_alloc | apply Kd.R_drewN | apply Kd.R_drew)); exact HO147.out, s5_1⟩
 ·rw [if_neg c2] at H
  exact absurd H (by simp)

def impl_Device.f (l0 : List (S30)) : Option ((List (S30))) := (some (([] : List (S30)) : List (S30))).bind fun y148 => (if y148.length + l0.length < 1759218604441 then (some (y148 ++ l0)) else (none))
set_option maxHeartbeats 8000000 in
set_option maxRecDepth 100000 in
theorem impl_Device.calls (A0 : Option Addr) (c0 : Nat) (l0 : List (S30)) (r : List (S30)) (w : World) (hr0 : Kd.C k30 w A0 l0.length l0) (hc0 : l0.length ≤ c0) (h : impl_Device.f l0 = some r) :
  Calls Try.prog 70 #[.slice A0 l0.length c0] w fun e w' => ∃ v0_ : Value, e = .returned (v0_) ∧ Kd.R k30 30 w' w.heap.size (fun _ => True) v0_ r ∧ Below w.heap.size w w' := by
 have qT : ∀ (w : World) (a : Option Addr) (n c n' c' : Nat), (binOp .eql 36 (.slice a n c) (.slice none n' c')).run Try.prog w = .ok (.bool a.isNone) w := fun w a n c n' c' => Lib.run_eql_slice_nil w _ _ a n c n' c' Try.underlying36
 cases A0 with
 | none =>
  have hl : l0 = [] := by
   cases l0 with
   | nil => rfl
   | cons x t => obtain ⟨ad, e, _⟩ := at_T30 hr0 0 (by omega) (by simp only [List.length_cons]; omega); cases e
  subst hl
  have hr : r = [] := by
   have h' : some ([] : List S30) = some r := h
   exact (Option.some.inj h').symm
  subst hr
  go_enter Try.func70, Try.ntmps70
  go_wp2
  go_ret
  exact ⟨_, rfl, Kd.R_nil _ _ _ _ _, Below.refl _ _⟩
 | some ad =>
  have HR0 := Aside0.mk hr0
  have HC0 := Aside0.mk hc0
  clear hr0 hc0
  have HB := Aside0.mk (Below.refl w.heap.size w)
  have H : ((some (([] : List (S30)) : List (S30))).bind fun y145 => (if y145.length + l0.length < 1759218604441 then (some (y145 ++ l0)) else (none))) = some r := h
  clear h
  obtain ⟨y145, hy145⟩ : ∃ y_ : List (S30), y_ = (([] : List (S30))) := ⟨_, rfl⟩
  replace H : (if y145.length + l0.length < 1759218604441 then (some (y145 ++ l0)) else (none)) = some r := by first | (rw [hy145]; with_reducible exact H) | (have H2_ := (Option.bind_some _ _).symm.trans H; rw [hy145]; with_reducible exact H2_) | (have H2_ := (Option.bind_some _ _).symm.trans H; with_reducible exact H2_) | with_reducible exact H | (rw [hy145]; exact H) | exact H
  have Ny145 := Aside0.mk hy145
  clear hy145
  by_cases c2 : y145.length + l0.length < 1759218604441
  ·rw [if_pos c2] at H
   have LMc2 := Aside0.mk c2
   clear c2
   obtain ⟨y148, hy148⟩ : ∃ y_ : List (S30), y_ = (y145 ++ l0) := ⟨_, rfl⟩
   replace H : (some y148) = some r := by first | (rw [hy148]; with_reducible exact H) | (have H2_ := (Option.bind_some _ _).symm.trans H; rw [hy148]; with_reducible exact H2_) | (have H2_ := (Option.bind_some _ _).symm.trans H; with_reducible exact H2_) | with_reducible exact H | (rw [hy148]; exact H) | exact H
   have Ny148 := Aside0.mk hy148
   clear hy148
   obtain rfl := Option.some.inj H
   go_enter Try.func70, Try.ntmps70
   go_wp2_with (first | ((with_reducible refine gate_dst (N := 5) rfl ?_); refine Kd.R_lit k30 _ 30 ?hg (N := 5) ?hd (xs := ([] : List (S30))) (inner := []) (ok := fun _ => True) (okp := fun _ => True) ?hr ?hp (fun _ hk => hk) trivial (Below.refl _ _) (Nat.le_refl _) (by simp) ?_; (case hd => rfl); (case hg => rfl); (case hr => exact gq); (case hp => exact (Reps.none _ _)); intro v146 w3 ho4 hb hg_ hnew_; clear hg_ hnew_; (first | rw [← Ny145.out] at ho4 | (simp only [Int.reduceToNat] at ho4; rw [← Ny145.out] at ho4)); have n0_ := Aside0.mk (Kd.R_lower ho4 (below_size u5_0)); have n1_ := Aside0.mk (below_step u5_0 hb); clear HB; have HO147 := n0_; have HB := n1_; clear n0_ n1_; clear hb ho4) | ((with_reducible refine gate_builtin (b := .append) (xs := #[.tmp 5, .tmp 6]) rfl ?_); at_builtin; refine Kd.R_append_rows k30 (w0 := w) w.heap.size rfl (.tmp 5) (.tmp 6) 36 30 (.agg #[(.string ⟨#[]⟩), (.int .i64 0), (.string ⟨#[]⟩), (.int .i64 0), (.int .i64 0), (.int .i64 0), (.int .i64 0), (.int .i64 0)]) 80 rfl Try.underlying36 info30 rfl (by decide) (by omega) v146 y145 l0 _ _ _ (fun _ => True) (fun _ => False) rfl rfl ?aO ?aR (fun _ _ h => h) (fun _ h => h.elim) ?aF ?aB ?aS ?aL ?_; (case aR => repeat (first | exact (Kd.C_below HR0.out HB.out) | (with_reducible refine Kd.C_alloc ?_ _) | (with_reducible refine Kd.C_drewN ?_ _) | (with_reducible refine Kd.C_drew ?_))); (case aB => exact u5_0); (case aF => exact (fun _ _ => trivial)); (case aO => exact (by (with_reducible repeat (first | apply Kd.R_alloc | apply Kd.R_drewN | apply Kd.R_drew)); exact HO147.out)); (case aS => exact (below_size u5_0)); (case aL => have := LMc2.out; omega); intro v149 w5 ho hb hg hat; rw [← Ny148.out] at ho; have n0_ := Aside0.mk (hb); have n1_ := Aside0.mk (ho); clear HB; clear HO147; have HB := n0_; have HO150 := n1_; clear n0_ n1_; clear ho hb hg hat))
   go_ret
   exact ⟨_, by first | rfl | (simp [*] <;> rfl), by (with_reducible repeat (first | apply Kd.R_alloc | apply Kd.R_drewN | apply Kd.R_drew)); exact HO150.out, s5_1⟩
  ·rw [if_neg c2] at H
   exact absurd H (by simp)

theorem run_clear_k {P : Program} (w : World) (t e ty : TypeId) (z : Value) (zs : List Value) (n c b o : Nat) (ht : P.underlying t = some (.slice e)) (hv : ∀ w, (zeroValue e).run P w = .ok z w) (hzs : (Builtin.zeroCells z.cells n).toList = zs) (hn : 0 < n)
  (hc : ∀ j, j < zs.length → (w.cell? ⟨b, o + j, none⟩).isSome = true) (hf : ∀ j, j < zs.length → w.frozen? ⟨b, o + j, none⟩ = false) (h1 : ∀ v ∈ zs, v.oneCell' = true) :
  (Builtin.clear_ #[t] ty #[.slice (some ⟨b, o, none⟩) n c]).run P w = .ok (.tuple #[]) (w.setCells b o zs) := by
 have hst := run_storeCells_cells (P := P) b o zs 0 w (by simpa using hc) (by simpa using hf) h1
 simp only [Nat.add_zero] at hst
 obtain ⟨m, rfl⟩ : ∃ m, n = m + 1 := ⟨n - 1, by omega⟩
 simp [Builtin.clear_, run_underlying ht, hv, hzs, hst]
theorem own_setCells_out {base : Nat} {e : TypeId} {size g n cap : Nat} {xs : List Value} : ∀ (vs : List Value) (o : Nat) (w : World), w.ownsRow base e size (.slice (some ⟨g, 0, none⟩) n cap) n xs → n * size ≤ o →
  (w.setCells g o vs).ownsRow base e size (.slice (some ⟨g, 0, none⟩) n cap) n xs
 | [], _, _, h, _ => h
 | v :: r, o, w, h, ho => by
  have h2 := h.stored o v
  have hx : xs.set o v = xs := List.set_eq_of_length_le (by rw [h.1]; exact ho)
  rw [hx] at h2
  exact own_setCells_out r (o + 1) _ h2.1 (by omega)
theorem own_setCells_in {base : Nat} {e : TypeId} {size g n cap : Nat} : ∀ (vs : List Value) (o : Nat) (w : World) (xs : List Value), w.ownsRow base e size (.slice (some ⟨g, 0, none⟩) n cap) n xs → o + vs.length ≤ xs.length →
  (w.setCells g o vs).ownsRow base e size (.slice (some ⟨g, 0, none⟩) n cap) n (xs.take o ++ vs ++ xs.drop (o + vs.length))
 | [], o, w, xs, h, _ => by
  simpa [World.setCells] using h
 | v :: r, o, w, xs, h, ho => by
  simp only [List.length_cons] at ho
  have h2 := (h.stored o v).1
  have h3 := own_setCells_in r (o + 1) _ (xs.set o v) h2 (by rw [List.length_set]; omega)
  have ho' : o < xs.length := by omega
  have e1 : (xs.set o v).take (o + 1) = xs.take o ++ [v] := by
   rw [List.take_set, List.take_succ_eq_append_getElem ho']
   have hl : (xs.take o).length = o := by rw [List.length_take]; omega
   generalize xs.take o = p at hl
   generalize xs[o] = q
   subst hl
   simp
  have e2 : (xs.set o v).drop (o + 1 + r.length) = xs.drop (o + (r.length + 1)) := by
   rw [List.drop_set_of_lt (by omega), show o + 1 + r.length = o + (r.length + 1) by omega]
  rw [e1, e2] at h3
  simpa [World.setCells] using h3
theorem own_take {base : Nat} {e : TypeId} {size g n m cap : Nat} {xs : List Value} {w : World} (h : w.ownsRow base e size (.slice (some ⟨g, 0, none⟩) n cap) n xs) (hm : m ≤ n) :
  w.ownsRow base e size (.slice (some ⟨g, 0, none⟩) m cap) m (xs.take (m * size)) := by
 have hlen := h.1
 have hms : m * size ≤ n * size := Nat.mul_le_mul_right _ hm
 rcases h.2 with ⟨h', _⟩ | ⟨g', cap', cur, h', hb, hg, hnc', hcm, hcs, htake⟩
 ·simp at h'
 ·simp only [Value.slice.injEq, Option.some.injEq, Addr.mk.injEq, and_true, true_and] at h'
  obtain ⟨rfl, rfl⟩ := h'
  refine ⟨by rw [List.length_take, hlen]; omega, .inr ⟨g, cap, cur, rfl, hb, hg, by omega, hcm, hcs, ?_⟩⟩
  rw [← htake, List.take_take, Nat.min_eq_left hms]

theorem kd_M_any {α : Type} {d : Kd α} (hE : d.E = []) {w w1 : World} {base : Nat} {ok ok1 : Nat → Prop} {x : α} {cs : List Value} (h : d.M w base ok x cs) : d.M w1 base ok1 x cs :=
 d.M_mono (fun k hk => by obtain ⟨_, _, _, q, hq, _⟩ := hk; rw [hE] at hq; cases hq) (d.M_move (fun k hk => by obtain ⟨_, _, _, q, hq, _⟩ := hk; rw [hE] at hq; cases hq) (d.M_bound h))
theorem reps_one {α : Type} {R : α → List Value → Prop} {size : Nat} {ps : List α} {cs : List Value} (h : Reps R size ps cs) (hs : 0 < size) (h1 : ∀ p c, R p c → ∀ u ∈ c, u.oneCell' = true) : ∀ u ∈ cs, u.oneCell' = true := by
 intro u hu
 obtain ⟨t, ht, rfl⟩ := List.getElem_of_mem hu
 have hj : t / size < ps.length := by
  rw [h.1, Nat.mul_comm] at ht
  exact Nat.div_lt_of_lt_mul ht
 refine h1 _ _ (h.2 (t / size) _ (List.getElem?_eq_getElem hj)) _ (List.mem_iff_getElem?.2 ⟨t % size, ?_⟩)
 rw [List.getElem?_take, if_pos (Nat.mod_lt _ hs), List.getElem?_drop, Nat.mul_comm, Nat.div_add_mod, List.getElem?_eq_getElem ht]
theorem reps_cut {α : Type} {R : α → List Value → Prop} {size : Nat} {ps : List α} {cs : List Value} (h : Reps R size ps cs) (i : Nat) (hi : i < ps.length) : Reps R size (ps.take i ++ ps.drop (i + 1)) (cs.take (i * size) ++ cs.drop ((i + 1) * size)) := by
 have hle : (i + 1) * size ≤ cs.length := by rw [h.1]; exact Nat.mul_le_mul_right _ hi
 have hadd : (i + 1) * size = i * size + size := by rw [Nat.add_mul, Nat.one_mul]
 have htl : (cs.take (i * size)).length = i * size := by rw [List.length_take]; omega
 have hpl : (ps.take i).length = i := by rw [List.length_take]; omega
 refine ⟨?_, fun j p hj => ?_⟩
 ·rw [List.length_append, htl, List.length_drop, List.length_append, hpl, List.length_drop, h.1, ← Nat.sub_mul, Nat.add_mul]
 ·rcases Nat.lt_or_ge j i with hji | hji
  ·rw [List.getElem?_append_left (by omega), List.getElem?_take, if_pos hji] at hj
   have hm : j * size + size ≤ i * size := by rw [← Nat.succ_mul]; exact Nat.mul_le_mul_right _ hji
   have h2 := h.2 j p hj
   rw [List.drop_append_of_le_length (by omega), List.take_append_of_le_length (by rw [List.length_drop]; omega), List.drop_take, List.take_take, Nat.min_eq_left (by omega)]
   exact h2
  ·rw [List.getElem?_append_right (by omega), hpl, List.getElem?_drop] at hj
   have hm : i * size ≤ j * size := Nat.mul_le_mul_right _ hji
   have h2 := h.2 _ p hj
   rw [List.drop_append, List.drop_eq_nil_of_le (by omega), List.nil_append, htl, List.drop_drop]
   have e : (i + 1) * size + (j * size - i * size) = (i + 1 + (j - i)) * size := by rw [Nat.add_mul (i + 1), Nat.sub_mul]
   rw [e]
   exact h2
set_option maxHeartbeats 4000000 in
set_option maxRecDepth 100000 in
theorem del_calls (g i n cap base : Nat) (xs : List Value) (w : World) (hown : w.ownsRow base 30 8 (.slice (some ⟨g, 0, none⟩) n cap) n xs) (hi : i < n) (hnc : n ≤ cap) (h1 : ∀ u ∈ xs, u.oneCell' = true) :
  Calls Try.prog 71 #[.slice (some ⟨g, 0, none⟩) n cap, .int .i64 (i : Int), .int .i64 ((i + 1 : Nat) : Int)] w fun e w' => e = .returned (.slice (some ⟨g, 0, none⟩) (n - 1) cap) ∧ w'.ownsRow base 30 8 (.slice (some ⟨g, 0, none⟩) (n - 1) cap) (n - 1) (xs.take (i * 8) ++ xs.drop ((i + 1) * 8)) ∧ Below base w w' := by
 have hu := Try.underlying30
 have HO := Aside0.mk hown
 clear hown
 have b1 : decide (0 ≤ (i : Int)) = true := decide_eq_true (Int.natCast_nonneg i)
 have b2 : decide ((i : Int) ≤ (n : Int)) = true := decide_eq_true (by omega)
 have b3 : decide ((i : Int) ≤ (cap : Int)) = true := decide_eq_true (by omega)
 have b4 : decide ((i : Int) ≤ ((i + 1 : Nat) : Int)) = true := decide_eq_true (by omega)
 have b5 : decide (((i + 1 : Nat) : Int) ≤ (n : Int)) = true := decide_eq_true (by omega)
 have b6 : decide (((i + 1 : Nat) : Int) ≤ (cap : Int)) = true := decide_eq_true (by omega)
 have b7 : decide ((n : Int) ≤ (cap : Int)) = true := decide_eq_true (by omega)
 have b8 : decide (0 ≤ (n : Int)) = true := decide_eq_true (by omega)
 have b9 : decide (0 ≤ ((i + 1 : Nat) : Int)) = true := decide_eq_true (by omega)
 have e1 : ((i : Int) == ((i + 1 : Nat) : Int)) = false := beq_eq_false_iff_ne.2 (by omega)
 have hk : ∀ (u : Value), u ∈ xs.drop ((i + 1) * 8) → u.oneCell' = true := fun u hu => h1 u (List.mem_of_mem_drop hu)
 obtain ⟨inf, hinf, hz0, hsz, _⟩ := info_parts info30
 have hlen : xs.length = n * 8 := HO.out.1
 have hown1 : w.drew.ownsRow base 30 8 (.slice (some ⟨g, 0, none⟩) i cap) i (xs.take (i * 8)) := by
  have h := HO.out.drew
  rcases h.2 with ⟨h', _⟩ | ⟨g', cap', cur, h', hb, hg, hnc', hcm, hcs, htake⟩
  ·simp at h'
  ·simp only [Value.slice.injEq, Option.some.injEq, Addr.mk.injEq, and_true, true_and] at h'
   obtain ⟨rfl, rfl⟩ := h'
   refine ⟨by rw [List.length_take, hlen]; omega, .inr ⟨g, cap, cur, rfl, hb, hg, by omega, hcm, hcs, ?_⟩⟩
   rw [← htake, List.take_take, Nat.min_eq_left (by omega)]
 obtain ⟨A, hA, hsrc⟩ : ∃ A : Addr, (if cap = i + 1 then some (⟨g, 0, none⟩ : Addr) else some ⟨g, (i + 1) * 8, none⟩) = some A ∧ Aside0 (∀ t u, (xs.drop ((i + 1) * 8))[t]? = some u → w.drew.cell? (A.add t) = some u) := by
  by_cases hc : cap = i + 1
  ·refine ⟨⟨g, 0, none⟩, by simp [hc], ⟨fun t u hu => ?_⟩⟩
   rw [List.getElem?_drop, List.getElem?_eq_none (by omega)] at hu
   cases hu
  ·refine ⟨⟨g, (i + 1) * 8, none⟩, by simp [hc], ⟨fun t u hu => ?_⟩⟩
   rw [List.getElem?_drop] at hu
   have hlt : (i + 1) * 8 + t < xs.length := (List.getElem?_eq_some_iff.1 hu).1
   have := HO.out.drew.cellAt ((i + 1) * 8 + t) (by omega)
   rw [hu] at this
   rw [Addr.add_lit]
   exact this
 have s1 : Aside0 ((xs.drop ((i + 1) * 8)).length = (n - (i + 1)) * 8) := ⟨by rw [List.length_drop, hlen, Nat.sub_mul]⟩
 have s3 : Aside0 (∀ t, t < (xs.drop ((i + 1) * 8)).length → (w.drew.cell? ⟨g, 0 + i * 8 + t, none⟩).isSome = true ∧ w.drew.frozen? ⟨g, 0 + i * 8 + t, none⟩ = false) := ⟨by
  intro t ht
  rw [List.length_drop, hlen] at ht
  rw [Nat.zero_add]
  refine ⟨?_, HO.out.drew.frozenAt (i * 8 + t)⟩
  rw [HO.out.drew.cellAt (i * 8 + t) (by omega), List.getElem?_eq_getElem (by omega)]
  rfl⟩
 obtain ⟨W1, hW1⟩ : ∃ W1, W1 = w.drew.setCells g (i * 8) (xs.drop ((i + 1) * 8)) := ⟨_, rfl⟩
 have ho1 : Aside0 (W1.ownsRow base 30 8 (.slice (some ⟨g, 0, none⟩) n cap) n (xs.take (i * 8) ++ xs.drop ((i + 1) * 8) ++ xs.drop (i * 8 + (xs.drop ((i + 1) * 8)).length))) := ⟨by
  rw [hW1]
  exact own_setCells_in _ (i * 8) _ xs HO.out.drew (by rw [List.length_drop, hlen]; omega)⟩
 have hcl : ∀ ty, (Builtin.clear_ #[36] ty #[.slice (some ⟨g, (i + (n - (i + 1))) * 8, none⟩) (n - (i + (n - (i + 1)))) (cap - (i + (n - (i + 1))))]).run Try.prog W1 = .ok (.tuple #[]) (W1.setCells g ((i + (n - (i + 1))) * 8) [.string ⟨#[]⟩, .int .i64 0, .string ⟨#[]⟩, .int .i64 0, .int .i64 0, .int .i64 0, .int .i64 0, .int .i64 0]) := fun ty =>
  run_clear_k W1 36 30 ty _ [.string ⟨#[]⟩, .int .i64 0, .string ⟨#[]⟩, .int .i64 0, .int .i64 0, .int .i64 0, .int .i64 0, .int .i64 0] _ _ g _ Try.underlying36 Try.zeroValue30 (by rw [show n - (i + (n - (i + 1))) = 1 by omega]; first | kernel_rfl | (simp [Builtin.zeroCells, Value.cells]; done) | decide) (by omega)
   (fun j hj => by
    simp only [List.length_cons, List.length_nil] at hj
    rw [ho1.out.cellAt _ (by omega), List.getElem?_eq_getElem (by have := ho1.out.1; omega)]; rfl)
   (fun j _ => ho1.out.frozenAt _) (by simp only [List.forall_mem_cons]; exact ⟨rfl, rfl, rfl, rfl, rfl, rfl, rfl, rfl, fun _ h => by cases h⟩)
 have q3 : (cap = i + (n - (i + 1))) = False := by simp; omega
 have q1 : 0 ≤ (i : Int) + 1 := by omega
 have q2 : (i : Int) + 1 ≤ (n : Int) := by omega
 have hic : i ≤ cap := by omega
 have hjc : i + 1 ≤ cap := by omega
 have hjn : i + 1 ≤ n := by omega
 subst hW1
 go_enter Try.func71, Try.ntmps71
 go_wp2_with fail
 go_region_law_o (refine step_append_room rfl (.tmp 22) (.tmp 25) 36 rfl 30 inf 8 Try.underlying36 hinf hsz g 0 i cap (by simp [Act.eval, Act.put]) A (n - (i + 1)) (cap - (i + 1)) (xs.drop ((i + 1) * 8)) (by simp [Act.eval, Act.put]) s1.out hsrc.out hk (by omega) s3.out ?_)
 go_wp2
 go_ret
 refine ⟨by rw [show i + (n - (i + 1)) = n - 1 by omega]; try rfl, ?_, ?_⟩
 ·have h3 := own_setCells_in [.string ⟨#[]⟩, .int .i64 0, .string ⟨#[]⟩, .int .i64 0, .int .i64 0, .int .i64 0, .int .i64 0, .int .i64 0] ((i + (n - (i + 1))) * 8) _ _ ho1.out (by have := ho1.out.1; rw [this]; simp only [List.length_cons, List.length_nil]; omega)
  have h4 := own_take h3 (show n - 1 ≤ n by omega)
  have hA : (xs.take (i * 8) ++ xs.drop ((i + 1) * 8)).length = (n - 1) * 8 := by
   rw [List.length_append, List.length_take, List.length_drop, hlen]; omega
  have hT : ∀ (a b c : List Value) (m : Nat), a.length = m → List.take m (List.take m (a ++ b) ++ c) = a := by
   intro a b c m h; subst h; simp
  have e0 : i + (n - (i + 1)) = n - 1 := by omega
  rw [e0, List.append_assoc (List.take _ _)] at h4
  rw [e0]
  rw [hT _ _ _ _ hA] at h4
  exact h4
 ·have hbg : base ≤ g := (HO.out.lt g rfl).1
  exact (below_drew1 (Below.refl base w)).trans ((Lib.below_setCells_w hbg _ _ _).trans (Lib.below_setCells_w hbg _ _ _))
theorem del_R (base : Nat) (ok : Nat → Prop) (v : Value) (xs : List S30) (i : Nat) (w : World) (hR : Kd.R k30 30 w base ok v xs) (hi : i < xs.length) :
  Calls Try.prog 71 #[v, .int .i64 (i : Int), .int .i64 ((i + 1 : Nat) : Int)] w fun e w' => ∃ v1, e = .returned v1 ∧ Kd.R k30 30 w' base ok v1 (xs.take i ++ xs.drop (i + 1)) ∧ Below base w w' := by
 obtain ⟨h0, inner, ho, hr⟩ := hR
 have h1 : ∀ u ∈ inner, u.oneCell' = true := reps_one hr (by decide) (fun p c hp => k30.K_one (k30.K_of_M hp))
 rcases ho.2 with ⟨rfl, hn⟩ | ⟨g, cap, cur, rfl, hbg, hg, hnc, hcm, hcs, htake⟩
 ·omega
 ·refine (del_calls g i xs.length cap base inner w ho hi hnc h1).mono ?_
  rintro e w' ⟨rfl, ho', hb⟩
  have hl : (xs.take i ++ xs.drop (i + 1)).length = xs.length - 1 := by rw [List.length_append, List.length_take, List.length_drop]; omega
  refine ⟨_, rfl, ⟨h0, _, by rw [hl]; exact ho', (reps_cut hr i hi).imp_ (fun p c hp => kd_M_any rfl hp)⟩, hb⟩
def delRow (xs : List S30) (i : Int) : Option (List S30) := if 0 ≤ i ∧ i < (xs.length : Int) ∧ i < 1000000 then some (xs.take i.toNat ++ xs.drop (i.toNat + 1)) else none
theorem delRow_calls (base : Nat) (ok : Nat → Prop) (A : Option Addr) (c : Nat) (xs : List S30) (i : Int) (r : List S30) (w : World) (HO : Kd.R k30 30 w base ok (.slice A xs.length c) xs) (h : delRow xs i = some r) :
  Calls Try.prog 71 #[.slice A xs.length c, .int .i64 i, .int .i64 (wrap64 (i + 1))] w fun e w' => ∃ v1, e = .returned v1 ∧ Kd.R k30 30 w' base ok v1 r ∧ Below base w w' := by
 unfold delRow at h
 by_cases c1 : 0 ≤ i ∧ i < (xs.length : Int) ∧ i < 1000000
 ·rw [if_pos c1] at h
  obtain rfl := Option.some.inj h
  obtain ⟨j, rfl⟩ := Int.eq_ofNat_of_zero_le c1.1
  have hw : wrap64 ((j : Int) + 1) = ((j + 1 : Nat) : Int) := by unfold wrap64; have := c1.2.2; omega
  rw [hw, Int.toNat_natCast]
  exact del_R base ok _ xs j w HO (by have := c1.2.1; omega)
 ·rw [if_neg c1] at h
  cases h
def impl_RemoveDevice.f (k : Nat) (l0 : List (S30)) (a1 : ByteArray) : Option ((List (S30)) × Bool) := (impl_Device.f l0).bind fun t154 => ((impl_FindDevice.f k l0 a1).bind fun t157 => ((impl_IsRig.f k l0).bind fun t158 => (if t158 = true then (if t157 < 0 then (some (t154, false)) else ((impl_OnLine.f k l0 a1).bind fun t159 => (if (t159.length : Int) > 0 then (some (t154, false)) else ((delRow t154 t157).bind fun t162 => (some (t162, true)))))) else (some (t154, false)))))
theorem impl_RemoveDevice.mono : ∀ a0 a1 k, LeO (impl_RemoveDevice.f k a0 a1) (impl_RemoveDevice.f (k + 1) a0 a1) := by
 intro a0 a1 k
 unfold impl_RemoveDevice.f
 repeat' first
   | (with_reducible exact impl_FindDevice.mono _ _ _)
   | (with_reducible exact impl_IsRig.mono _ _)
   | (with_reducible exact impl_OnLine.mono _ _ _)
   | (with_reducible exact LeO.refl _)
   | (with_reducible exact LeO.none _)
   | (with_reducible refine LeO.ite ?_ ?_)
   | (with_reducible refine LeO.bind ?_ (fun _ => ?_))
set_option maxHeartbeats 8000000 in
set_option maxRecDepth 100000 in
theorem impl_RemoveDevice.calls (k : Nat) (A0 : Option Addr) (c0 : Nat) (l0 : List (S30)) (a1 : ByteArray) (r1 : List (S30)) (r2 : Bool) (w : World) (hr0 : Kd.C k30 w A0 l0.length l0) (hc0 : l0.length ≤ c0) (h : impl_RemoveDevice.f k l0 a1 = some (r1, r2)) :
  Calls Try.prog 40 #[.slice A0 l0.length c0, .string a1] w fun e w' => ∃ v0_ : Value, e = .returned (.tuple #[v0_, .bool r2]) ∧ Kd.R k30 30 w' w.heap.size (fun _ => True) v0_ r1 ∧ Below w.heap.size w w' := by
 have HR0 := Aside0.mk hr0
 have HC0 := Aside0.mk hc0
 clear hr0 hc0
 have HB := Aside0.mk (Below.refl w.heap.size w)
 have H : ((impl_Device.f l0).bind fun t154 => ((impl_FindDevice.f k l0 a1).bind fun t157 => ((impl_IsRig.f k l0).bind fun t158 => (if t158 = true then (if t157 < 0 then (some (t154, false)) else ((impl_OnLine.f k l0 a1).bind fun t159 => (if (t159.length : Int) > 0 then (some (t154, false)) else ((delRow t154 t157).bind fun t162 => (some (t162, true)))))) else (some (t154, false)))))) = some (r1, r2) := h
 clear h
 replace H := Option.bind_eq_some_iff.mp H
 obtain ⟨t154, A30, H⟩ := H
 replace H : ((impl_FindDevice.f k l0 a1).bind fun t157 => ((impl_IsRig.f k l0).bind fun t158 => (if t158 = true then (if t157 < 0 then (some (t154, false)) else ((impl_OnLine.f k l0 a1).bind fun t159 => (if (t159.length : Int) > 0 then (some (t154, false)) else ((delRow t154 t157).bind fun t162 => (some (t162, true)))))) else (some (t154, false))))) = some (r1, r2) := H
 have A3 := Aside0.mk A30
 clear A30
 replace H := Option.bind_eq_some_iff.mp H
 obtain ⟨t157, A40, H⟩ := H
 replace H : ((impl_IsRig.f k l0).bind fun t158 => (if t158 = true then (if t157 < 0 then (some (t154, false)) else ((impl_OnLine.f k l0 a1).bind fun t159 => (if (t159.length : Int) > 0 then (some (t154, false)) else ((delRow t154 t157).bind fun t162 => (some (t162, true)))))) else (some (t154, false)))) = some (r1, r2) := H
 have A4 := Aside0.mk A40
 clear A40
 replace H := Option.bind_eq_some_iff.mp H
 obtain ⟨t158, A50, H⟩ := H
 replace H : (if t158 = true then (if t157 < 0 then (some (t154, false)) else ((impl_OnLine.f k l0 a1).bind fun t159 => (if (t159.length : Int) > 0 then (some (t154, false)) else ((delRow t154 t157).bind fun t162 => (some (t162, true)))))) else (some (t154, false))) = some (r1, r2) := H
 have A5 := Aside0.mk A50
 clear A50
 by_cases c6 : t158 = true
 ·subst c6
  have H1 : (if t157 < 0 then (some (t154, false)) else ((impl_OnLine.f k l0 a1).bind fun t159 => (if (t159.length : Int) > 0 then (some (t154, false)) else ((delRow t154 t157).bind fun t162 => (some (t162, true)))))) = some (r1, r2) := by rw [if_pos rfl] at H; exact H
  clear H
  have H := H1
  clear H1
  by_cases c7 : t157 < 0
  ·rw [if_pos c7] at H
   have c7b0 : decide (t157 < 0) = true := decide_eq_true c7
   clear c7
   simp only [Option.some.injEq, Prod.mk.injEq] at H
   obtain ⟨rfl, rfl⟩ := H
   go_enter Try.func40, Try.ntmps40
   go_wp2_with (first | ((with_reducible refine gate_callee (f := 70) rfl ?_); refine goesL_ (some 9) rfl rfl Try.func70 (by kernel_rfl) rfl #[.slice A0 l0.length c0] rfl u5_1 ?_; (with_reducible refine (impl_Device.calls _ _ l0 t154 _ ?side1 ?side2 A3.out).mono ?_); (case side1 => exact y5_1); (case side2 => exact HC0.out); rintro e w8 ⟨v155, rfl, ho0, hb⟩; refine ⟨_, rfl, ?_⟩; have n0_ := Aside0.mk (Kd.R_lower ho0 (below_size u5_0)); have n1_ := Aside0.mk (below_step u5_0 hb); clear HB; have HO156 := n0_; have HB := n1_; clear n0_ n1_; (try clear hb); (try clear hb2); (try clear hk); (try clear hi); (try clear ho0)) | ((with_reducible refine gate_callee (f := 22) rfl ?_); refine goesL_ (some 12) rfl rfl Try.func22 (by kernel_rfl) rfl #[.slice A0 l0.length c0, .string a1] rfl u5_1 ?_; (with_reducible refine (impl_FindDevice.calls k _ _ l0 a1 t157 _ ?side1 ?side2 A4.out).mono ?_); (case side1 => exact y5_0); (case side2 => exact HC0.out); rintro e w9 ⟨rfl, hb⟩; refine ⟨_, rfl, ?_⟩; have n0_ := Aside0.mk (Kd.R_below u5_2 hb); have n1_ := Aside0.mk (below_step u5_0 hb); clear HO156; clear HB; have HO156 := n0_; have HB := n1_; clear n0_ n1_; (try clear hb); (try clear hb2); (try clear hk); (try clear hi)) | ((with_reducible refine gate_callee (f := 25) rfl ?_); refine goesL_ (some 14) rfl rfl Try.func25 (by kernel_rfl) rfl #[.slice A0 l0.length c0] rfl u5_1 ?_; (with_reducible refine (impl_IsRig.calls k _ _ l0 true _ ?side1 ?side2 A5.out).mono ?_); (case side1 => exact y5_0); (case side2 => exact HC0.out); rintro e w10 ⟨rfl, hb⟩; refine ⟨_, rfl, ?_⟩; have n0_ := Aside0.mk (Kd.R_below u5_2 hb); have n1_ := Aside0.mk (below_step u5_0 hb); clear HO156; clear HB; have HO156 := n0_; have HB := n1_; clear n0_ n1_; (try clear hb); (try clear hb2); (try clear hk); (try clear hi)))
   go_ret2
   exact ⟨_, by first | rfl | (simp [*] <;> rfl), by (with_reducible repeat (first | apply Kd.R_alloc | apply Kd.R_drewN | apply Kd.R_drew)); exact HO156.out, s5_1⟩
  ·rw [if_neg c7] at H
   have c7b0 : decide (t157 < 0) = false := decide_eq_false c7
   clear c7
   replace H := Option.bind_eq_some_iff.mp H
   obtain ⟨t159, A110, H⟩ := H
   replace H : (if (t159.length : Int) > 0 then (some (t154, false)) else ((delRow t154 t157).bind fun t162 => (some (t162, true)))) = some (r1, r2) := H
   have A11 := Aside0.mk A110
   clear A110
   by_cases c12 : (t159.length : Int) > 0
   ·rw [if_pos c12] at H
    have c12b0 : decide (0 < (t159.length : Int)) = true := decide_eq_true c12
    have c12b1 : decide (0 < t159.length) = true := decide_eq_true (by omega)
    clear c12
    simp only [Option.some.injEq, Prod.mk.injEq] at H
    obtain ⟨rfl, rfl⟩ := H
    go_enter Try.func40, Try.ntmps40
    go_wp2_with (first | ((with_reducible refine gate_callee (f := 70) rfl ?_); refine goesL_ (some 9) rfl rfl Try.func70 (by kernel_rfl) rfl #[.slice A0 l0.length c0] rfl u5_1 ?_; (with_reducible refine (impl_Device.calls _ _ l0 t154 _ ?side1 ?side2 A3.out).mono ?_); (case side1 => exact y5_1); (case side2 => exact HC0.out); rintro e w13 ⟨v155, rfl, ho0, hb⟩; refine ⟨_, rfl, ?_⟩; have n0_ := Aside0.mk (Kd.R_lower ho0 (below_size u5_0)); have n1_ := Aside0.mk (below_step u5_0 hb); clear HB; have HO156 := n0_; have HB := n1_; clear n0_ n1_; (try clear hb); (try clear hb2); (try clear hk); (try clear hi); (try clear ho0)) | ((with_reducible refine gate_callee (f := 22) rfl ?_); refine goesL_ (some 12) rfl rfl Try.func22 (by kernel_rfl) rfl #[.slice A0 l0.length c0, .string a1] rfl u5_1 ?_; (with_reducible refine (impl_FindDevice.calls k _ _ l0 a1 t157 _ ?side1 ?side2 A4.out).mono ?_); (case side1 => exact y5_0); (case side2 => exact HC0.out); rintro e w14 ⟨rfl, hb⟩; refine ⟨_, rfl, ?_⟩; have n0_ := Aside0.mk (Kd.R_below u5_2 hb); have n1_ := Aside0.mk (below_step u5_0 hb); clear HO156; clear HB; have HO156 := n0_; have HB := n1_; clear n0_ n1_; (try clear hb); (try clear hb2); (try clear hk); (try clear hi)) | ((with_reducible refine gate_callee (f := 25) rfl ?_); refine goesL_ (some 14) rfl rfl Try.func25 (by kernel_rfl) rfl #[.slice A0 l0.length c0] rfl u5_1 ?_; (with_reducible refine (impl_IsRig.calls k _ _ l0 true _ ?side1 ?side2 A5.out).mono ?_); (case side1 => exact y5_0); (case side2 => exact HC0.out); rintro e w15 ⟨rfl, hb⟩; refine ⟨_, rfl, ?_⟩; have n0_ := Aside0.mk (Kd.R_below u5_2 hb); have n1_ := Aside0.mk (below_step u5_0 hb); clear HO156; clear HB; have HO156 := n0_; have HB := n1_; clear n0_ n1_; (try clear hb); (try clear hb2); (try clear hk); (try clear hi)) | (go_at_call 32; (with_reducible refine (impl_OnLine.calls k _ _ l0 a1 t159 _ ?side1 ?side2 A11.out).mono ?_); (case side1 => exact y5_0); (case side2 => exact HC0.out); rintro e w16 ⟨v160, rfl, ho0, hb⟩; have n0_ := Aside0.mk (Kd.R_below u5_2 hb); have n1_ := Aside0.mk (Kd.R_lower ho0 (below_size u5_0)); have n2_ := Aside0.mk (below_step u5_0 hb); clear HO156; clear HB; have HO156 := n0_; have HO161 := n1_; have HB := n2_; clear n0_ n1_ n2_; (try clear hb); (try clear hb2); (try clear hk); (try clear hi); (try clear ho0); obtain ⟨Ao17, co17, eo17⟩ := Kd.R_slice HO161.out; subst eo17))
    go_ret2
    exact ⟨_, by first | rfl | (simp [*] <;> rfl), by (with_reducible repeat (first | apply Kd.R_alloc | apply Kd.R_drewN | apply Kd.R_drew)); exact HO156.out, s5_1⟩
   ·rw [if_neg c12] at H
    have c12b0 : decide (0 < (t159.length : Int)) = false := decide_eq_false c12
    have c12b1 : decide (0 < t159.length) = false := decide_eq_false (by omega)
    clear c12
    replace H := Option.bind_eq_some_iff.mp H
    obtain ⟨t162, A180, H⟩ := H
    replace H : (some (t162, true)) = some (r1, r2) := H
    have A18 := Aside0.mk A180
    clear A180
    simp only [Option.some.injEq, Prod.mk.injEq] at H
    obtain ⟨rfl, rfl⟩ := H
    go_enter Try.func40, Try.ntmps40
    go_wp2_with (first | ((with_reducible refine gate_callee (f := 70) rfl ?_); refine goesL_ (some 9) rfl rfl Try.func70 (by kernel_rfl) rfl #[.slice A0 l0.length c0] rfl u5_1 ?_; (with_reducible refine (impl_Device.calls _ _ l0 t154 _ ?side1 ?side2 A3.out).mono ?_); (case side1 => exact y5_1); (case side2 => exact HC0.out); rintro e w19 ⟨v155, rfl, ho0, hb⟩; refine ⟨_, rfl, ?_⟩; have n0_ := Aside0.mk (Kd.R_lower ho0 (below_size u5_0)); have n1_ := Aside0.mk (below_step u5_0 hb); clear HB; have HO156 := n0_; have HB := n1_; clear n0_ n1_; (try clear hb); (try clear hb2); (try clear hk); (try clear hi); (try clear ho0)) | ((with_reducible refine gate_callee (f := 22) rfl ?_); refine goesL_ (some 12) rfl rfl Try.func22 (by kernel_rfl) rfl #[.slice A0 l0.length c0, .string a1] rfl u5_1 ?_; (with_reducible refine (impl_FindDevice.calls k _ _ l0 a1 t157 _ ?side1 ?side2 A4.out).mono ?_); (case side1 => exact y5_0); (case side2 => exact HC0.out); rintro e w20 ⟨rfl, hb⟩; refine ⟨_, rfl, ?_⟩; have n0_ := Aside0.mk (Kd.R_below u5_2 hb); have n1_ := Aside0.mk (below_step u5_0 hb); clear HO156; clear HB; have HO156 := n0_; have HB := n1_; clear n0_ n1_; (try clear hb); (try clear hb2); (try clear hk); (try clear hi)) | ((with_reducible refine gate_callee (f := 25) rfl ?_); refine goesL_ (some 14) rfl rfl Try.func25 (by kernel_rfl) rfl #[.slice A0 l0.length c0] rfl u5_1 ?_; (with_reducible refine (impl_IsRig.calls k _ _ l0 true _ ?side1 ?side2 A5.out).mono ?_); (case side1 => exact y5_0); (case side2 => exact HC0.out); rintro e w21 ⟨rfl, hb⟩; refine ⟨_, rfl, ?_⟩; have n0_ := Aside0.mk (Kd.R_below u5_2 hb); have n1_ := Aside0.mk (below_step u5_0 hb); clear HO156; clear HB; have HO156 := n0_; have HB := n1_; clear n0_ n1_; (try clear hb); (try clear hb2); (try clear hk); (try clear hi)) | (go_at_call 32; (with_reducible refine (impl_OnLine.calls k _ _ l0 a1 t159 _ ?side1 ?side2 A11.out).mono ?_); (case side1 => exact y5_0); (case side2 => exact HC0.out); rintro e w22 ⟨v160, rfl, ho0, hb⟩; have n0_ := Aside0.mk (Kd.R_below u5_2 hb); have n1_ := Aside0.mk (Kd.R_lower ho0 (below_size u5_0)); have n2_ := Aside0.mk (below_step u5_0 hb); clear HO156; clear HB; have HO156 := n0_; have HO161 := n1_; have HB := n2_; clear n0_ n1_ n2_; (try clear hb); (try clear hb2); (try clear hk); (try clear hi); (try clear ho0); obtain ⟨Ao23, co23, eo23⟩ := Kd.R_slice HO161.out; subst eo23; obtain ⟨Ao24, co24, eo24⟩ := Kd.R_slice HO156.out; subst eo24) | (go_at_call 71; refine (delRow_calls _ _ _ _ t154 t157 t162 _ u5_2 A18.out).mono ?_; rintro e w25 ⟨v163, rfl, ho0, hb⟩; have n2_ := Aside0.mk ho0; have n3_ := Aside0.mk (Below.trans u5_0 hb); clear HB; have HO164 := n2_; have HB := n3_; clear n2_ n3_; (try clear hb); (try clear ho0)))
    go_ret2
    exact ⟨_, by first | rfl | (simp [*] <;> rfl), by (with_reducible repeat (first | apply Kd.R_alloc | apply Kd.R_drewN | apply Kd.R_drew)); exact Kd.R_mono HO164.out (fun _ hk => trivial), s5_1⟩
 ·replace c6 := Bool.eq_false_iff.mpr c6
  subst c6
  have H1 : (some (t154, false)) = some (r1, r2) := by rw [if_neg (show ¬ (false = true) by decide)] at H; exact H
  clear H
  have H := H1
  clear H1
  simp only [Option.some.injEq, Prod.mk.injEq] at H
  obtain ⟨rfl, rfl⟩ := H
  go_enter Try.func40, Try.ntmps40
  go_wp2_with (first | ((with_reducible refine gate_callee (f := 70) rfl ?_); refine goesL_ (some 9) rfl rfl Try.func70 (by kernel_rfl) rfl #[.slice A0 l0.length c0] rfl u5_1 ?_; (with_reducible refine (impl_Device.calls _ _ l0 t154 _ ?side1 ?side2 A3.out).mono ?_); (case side1 => exact y5_1); (case side2 => exact HC0.out); rintro e w26 ⟨v155, rfl, ho0, hb⟩; refine ⟨_, rfl, ?_⟩; have n0_ := Aside0.mk (Kd.R_lower ho0 (below_size u5_0)); have n1_ := Aside0.mk (below_step u5_0 hb); clear HB; have HO156 := n0_; have HB := n1_; clear n0_ n1_; (try clear hb); (try clear hb2); (try clear hk); (try clear hi); (try clear ho0)) | ((with_reducible refine gate_callee (f := 22) rfl ?_); refine goesL_ (some 12) rfl rfl Try.func22 (by kernel_rfl) rfl #[.slice A0 l0.length c0, .string a1] rfl u5_1 ?_; (with_reducible refine (impl_FindDevice.calls k _ _ l0 a1 t157 _ ?side1 ?side2 A4.out).mono ?_); (case side1 => exact y5_0); (case side2 => exact HC0.out); rintro e w27 ⟨rfl, hb⟩; refine ⟨_, rfl, ?_⟩; have n0_ := Aside0.mk (Kd.R_below u5_2 hb); have n1_ := Aside0.mk (below_step u5_0 hb); clear HO156; clear HB; have HO156 := n0_; have HB := n1_; clear n0_ n1_; (try clear hb); (try clear hb2); (try clear hk); (try clear hi)) | ((with_reducible refine gate_callee (f := 25) rfl ?_); refine goesL_ (some 14) rfl rfl Try.func25 (by kernel_rfl) rfl #[.slice A0 l0.length c0] rfl u5_1 ?_; (with_reducible refine (impl_IsRig.calls k _ _ l0 false _ ?side1 ?side2 A5.out).mono ?_); (case side1 => exact y5_0); (case side2 => exact HC0.out); rintro e w28 ⟨rfl, hb⟩; refine ⟨_, rfl, ?_⟩; have n0_ := Aside0.mk (Kd.R_below u5_2 hb); have n1_ := Aside0.mk (below_step u5_0 hb); clear HO156; clear HB; have HO156 := n0_; have HB := n1_; clear n0_ n1_; (try clear hb); (try clear hb2); (try clear hk); (try clear hi)))
  go_ret2
  exact ⟨_, by first | rfl | (simp [*] <;> rfl), by (with_reducible repeat (first | apply Kd.R_alloc | apply Kd.R_drewN | apply Kd.R_drew)); exact HO156.out, s5_1⟩

end Go.Proofs.Ytkedcokhcgklpaa.MFnRig
