-- Written by a program for this claim.
import Derived.Test.YtkljnmojnkiafaaMFnMovedRigx0
import Derived.Test.YtkljnmojnkiafaaMFnMovedRigx10
import Derived.Test.YtkljnmojnkiafaaMFnMovedRigx12
import Derived.Test.YtkljnmojnkiafaaMFnMovedRigx13
namespace Go.Proofs.Ytkljnmojnkiafaa.MFnMovedRig
open Go.RowKit Go.Proofs.YtkljnmojnkiafaaW.PrintWords Go.Proofs.YtkljnmojnkiafaaW.PrintLast Go.Proofs.YtkljnmojnkiafaaW.PrintMore
attribute [local go_sem] max2_int min2_int max_two min_two max_three min_three max_four min_four   -- for this text's walks alone
set_option linter.unusedVariables false
set_option linter.unusedSimpArgs false

theorem s14_0 {p : Prop} (h : p := by repeat (first | (with_reducible first | exact HB.out | apply below_alloc | apply pw_below_drewN | apply below_drew1 | refine below_set ?_ GE569.out | refine below_set ?_ GE579.out | refine below_set ?_ GE583.out) | exact HB.out)) : p := h
theorem s14_1 {p : Prop} (h : p := by repeat (first | (with_reducible first | exact HB.out | apply below_alloc | apply pw_below_drewN | apply below_drew1 | refine below_set ?_ GE569.out) | exact HB.out)) : p := h
theorem s14_2 {p : Prop} (h : p := by repeat (first | (with_reducible first | exact HB.out | apply below_alloc | apply pw_below_drewN | apply below_drew1) | exact HB.out)) : p := h
theorem y14_0 {p : Prop} (h : p := by repeat (first | exact (Kd.C_below HR0.out HB.out) | (with_reducible refine Kd.C_alloc ?_ _) | (with_reducible refine Kd.C_drewN ?_ _) | (with_reducible refine Kd.C_drew ?_))) : p := h
theorem u14_0 {p : Prop} (h : p := by (with_reducible repeat (first | refine blk_drewN ?_ _ | refine blk_drew ?_ | refine blk_alloc ?_ _)); refine blk_put (cs := zr5 ((rd_T87 x6_2 x24_2).f0) ((rd_T87 x6_2 x24_2).f1) ((rd_T87 x6_2 x24_2).f2) ((rd_T87 x6_2 x24_2).f3.f0) ((rd_T87 x6_2 x24_2).f3.f1) ((rd_T87 x6_2 x24_2).f4) ((rd_T87 x6_2 x24_2).f5) 0) ?_ 7 _ rfl; refine blk_put (cs := zr5 ((rd_T87 x6_2 x24_2).f0) ((rd_T87 x6_2 x24_2).f1) ((rd_T87 x6_2 x24_2).f2) ((rd_T87 x6_2 x24_2).f3.f0) ((rd_T87 x6_2 x24_2).f3.f1) ((rd_T87 x6_2 x24_2).f4) 0 0) ?_ 6 _ rfl; refine blk_put (cs := zr5 ((rd_T87 x6_2 x24_2).f0) ((rd_T87 x6_2 x24_2).f1) ((rd_T87 x6_2 x24_2).f2) ((rd_T87 x6_2 x24_2).f3.f0) ((rd_T87 x6_2 x24_2).f3.f1) 0 0 0) ?_ 5 _ rfl; refine blk_put (cs := zr5 ((rd_T87 x6_2 x24_2).f0) ((rd_T87 x6_2 x24_2).f1) ((rd_T87 x6_2 x24_2).f2) ((rd_T87 x6_2 x24_2).f3.f0) 0 0 0 0) ?_ 4 _ rfl; refine blk_put (cs := zr5 ((rd_T87 x6_2 x24_2).f0) ((rd_T87 x6_2 x24_2).f1) ((rd_T87 x6_2 x24_2).f2) 0 0 0 0 0) ?_ 3 _ rfl; refine blk_put (cs := zr5 ((rd_T87 x6_2 x24_2).f0) ((rd_T87 x6_2 x24_2).f1) (⟨#[]⟩ : ByteArray) 0 0 0 0 0) ?_ 2 _ rfl; (with_reducible repeat (first | refine blk_drewN ?_ _ | refine blk_drew ?_ | refine blk_alloc ?_ _)); refine blk_put (cs := zr5 ((rd_T87 x6_2 x24_2).f0) 0 (⟨#[]⟩ : ByteArray) 0 0 0 0 0) ?_ 1 _ rfl; (with_reducible repeat (first | refine blk_drewN ?_ _ | refine blk_drew ?_ | refine blk_alloc ?_ _)); refine blk_put (cs := zr5 (⟨#[]⟩ : ByteArray) 0 (⟨#[]⟩ : ByteArray) 0 0 0 0 0) ?_ 0 _ rfl; (with_reducible repeat (first | refine blk_drewN ?_ _ | refine blk_drew ?_ | refine blk_alloc ?_ _)); exact BK579.out) : p := h
theorem u14_1 {p : Prop} (h : p := by (with_reducible repeat (first | refine blk_drewN ?_ _ | refine blk_drew ?_ | refine blk_alloc ?_ _)); exact BK569.out) : p := h
theorem u14_2 {p : Prop} (h : p := by repeat (first | (with_reducible first | exact HB.out | apply below_alloc | apply pw_below_drewN | apply below_drew1 | refine below_set ?_ GE569.out) | exact HB.out)) : p := h
theorem u14_3 {p : Prop} (h : p := by (with_reducible repeat (first | refine blk_drewN ?_ _ | refine blk_drew ?_ | refine blk_alloc ?_ _)); refine blk_far ?_ NB569_579.out _; (with_reducible repeat (first | refine blk_drewN ?_ _ | refine blk_drew ?_ | refine blk_alloc ?_ _)); refine blk_far ?_ NB569_579.out _; (with_reducible repeat (first | refine blk_drewN ?_ _ | refine blk_drew ?_ | refine blk_alloc ?_ _)); refine blk_far ?_ NB569_579.out _; (with_reducible repeat (first | refine blk_drewN ?_ _ | refine blk_drew ?_ | refine blk_alloc ?_ _)); refine blk_far ?_ NB569_579.out _; (with_reducible repeat (first | refine blk_drewN ?_ _ | refine blk_drew ?_ | refine blk_alloc ?_ _)); refine blk_far ?_ NB569_579.out _; (with_reducible repeat (first | refine blk_drewN ?_ _ | refine blk_drew ?_ | refine blk_alloc ?_ _)); refine blk_far ?_ NB569_579.out _; (with_reducible repeat (first | refine blk_drewN ?_ _ | refine blk_drew ?_ | refine blk_alloc ?_ _)); refine blk_far ?_ NB569_579.out _; (with_reducible repeat (first | refine blk_drewN ?_ _ | refine blk_drew ?_ | refine blk_alloc ?_ _)); refine blk_far ?_ NB569_579.out _; (with_reducible repeat (first | refine blk_drewN ?_ _ | refine blk_drew ?_ | refine blk_alloc ?_ _)); exact BK569.out) : p := h
theorem u14_4 {p : Prop} (h : p := by repeat (first | (with_reducible first | exact HB.out | apply below_alloc | apply pw_below_drewN | apply below_drew1 | refine below_set ?_ GE569.out | refine below_set ?_ GE579.out) | exact HB.out)) : p := h
theorem u14_5 {p : Prop} (h : p := by (with_reducible repeat (first | refine blk_drewN ?_ _ | refine blk_drew ?_ | refine blk_alloc ?_ _)); exact BK579.out) : p := h
theorem u14_6 {p : Prop} (h : p := by (with_reducible repeat (first | apply Kd.R_alloc | apply Kd.R_drewN | apply Kd.R_drew)); exact (Kd.R_mono (Kd.R_far (p := ⟨gb579, 7, none⟩) (Kd.R_far (p := ⟨gb579, 6, none⟩) (Kd.R_far (p := ⟨gb579, 5, none⟩) (Kd.R_far (p := ⟨gb579, 4, none⟩) (Kd.R_far (p := ⟨gb579, 3, none⟩) (Kd.R_far (p := ⟨gb579, 2, none⟩) (Kd.R_far (p := ⟨gb579, 1, none⟩) (Kd.R_far (p := ⟨gb579, 0, none⟩) (Kd.R_mono HO_6.out (fun k_ hk => (⟨hk, hk.2⟩ : _ ∧ k_ ≠ gb579))) (fun _ hk => hk.2) (.string ((rd_T87 x6_2 x24_2).f0))) (fun _ hk => hk.2) (.int .i64 ((rd_T87 x6_2 x24_2).f1))) (fun _ hk => hk.2) (.string ((rd_T87 x6_2 x24_2).f2))) (fun _ hk => hk.2) (.int .i64 ((rd_T87 x6_2 x24_2).f3.f0))) (fun _ hk => hk.2) (.int .i64 ((rd_T87 x6_2 x24_2).f3.f1))) (fun _ hk => hk.2) (.int .i64 ((rd_T87 x6_2 x24_2).f4))) (fun _ hk => hk.2) (.int .i64 ((rd_T87 x6_2 x24_2).f5))) (fun _ hk => hk.2) (.int .i64 ((rd_T87 x6_2 x24_2).f6))) (fun _ h_ => h_.1))) : p := h
theorem u14_7 {p : Prop} (h : p := by repeat (first | (with_reducible first | exact HB.out | apply below_alloc | apply pw_below_drewN | apply below_drew1 | refine below_set ?_ GE569.out | refine below_set ?_ GE579.out | refine below_set ?_ GE583.out) | exact HB.out)) : p := h
theorem u14_8 {p : Prop} (h : p := by (with_reducible repeat (first | apply Kd.R_alloc | apply Kd.R_drewN | apply Kd.R_drew)); exact HO_6.out) : p := h
theorem u14_9 {p : Prop} (h : p := by rw [hw]; exact (by (with_reducible repeat (first | refine blk_drewN ?_ _ | refine blk_drew ?_ | refine blk_alloc ?_ _)); refine blk_far ?_ NB579_583.out _; (with_reducible repeat (first | refine blk_drewN ?_ _ | refine blk_drew ?_ | refine blk_alloc ?_ _)); refine blk_far ?_ NB579_583.out _; (with_reducible repeat (first | refine blk_drewN ?_ _ | refine blk_drew ?_ | refine blk_alloc ?_ _)); exact BK579.out)) : p := h
theorem u14_10 {p : Prop} (h : p := by rw [hw]; exact (by (with_reducible repeat (first | refine blk_drewN ?_ _ | refine blk_drew ?_ | refine blk_alloc ?_ _)); refine blk_far ?_ NB569_583.out _; (with_reducible repeat (first | refine blk_drewN ?_ _ | refine blk_drew ?_ | refine blk_alloc ?_ _)); refine blk_far ?_ NB569_583.out _; (with_reducible repeat (first | refine blk_drewN ?_ _ | refine blk_drew ?_ | refine blk_alloc ?_ _)); exact BK569.out)) : p := h
theorem u14_11 {p : Prop} (h : p := by repeat (first | (with_reducible first | exact HB.out | apply below_alloc | apply pw_below_drewN | apply below_drew1) | exact HB.out)) : p := h
theorem u14_14 {p : Prop} (h : p := by (try simp only [List.map_toArray, List.map_cons, List.map_nil]); first | done | rfl) : p := h
theorem u14_15 {p : Prop} (h : p := by rw [hw]; exact (by (with_reducible repeat (first | refine blk_drewN ?_ _ | refine blk_drew ?_ | refine blk_alloc ?_ _)); refine blk_put (cs := zr8 t580 0) ?_ 1 _ rfl; refine blk_put (cs := zr8 0 0) ?_ 0 _ rfl; (with_reducible repeat (first | refine blk_drewN ?_ _ | refine blk_drew ?_ | refine blk_alloc ?_ _)); exact BK583.out)) : p := h
theorem u14_16 {p : Prop} (h : p := by (with_reducible repeat (first | refine blk_drewN ?_ _ | refine blk_drew ?_ | refine blk_alloc ?_ _)); exact BK583.out) : p := h
theorem u14_18 {p : Prop} (h : p := by rw [hw]; exact (by (with_reducible repeat (first | apply Kd.R_alloc | apply Kd.R_drewN | apply Kd.R_drew)); exact Kd.R_mono (Kd.R_far (p := ⟨gb583, 1, none⟩) (Kd.R_far (p := ⟨gb583, 0, none⟩) (Kd.R_types HO_6.out BK583.out (by decide)) (fun _ hk => hk.2) (.int .i64 t580)) (fun _ hk => hk.2) (.int .i64 t581)) (fun _ hk => hk.1.2))) : p := h
theorem u14_20 {p : Prop} (h : p := by rw [hw]; exact (by repeat (first | (with_reducible first | exact HB.out | apply below_alloc | apply pw_below_drewN | apply below_drew1 | refine below_set ?_ GE569.out | refine below_set ?_ GE579.out | refine below_set ?_ GE583.out) | exact HB.out))) : p := h
theorem u14_21 {p : Prop} (h : p := by assumption) : p := h
theorem u14_22 {p : Prop} (h : p := by first | rfl | (simp; done) | (simp [*]; done)) : p := h
mutual
def impl_ShiftRig.j0 : Nat → List (S87) → Bool → Int → Int → Option ((List (S87)) × Bool)
 | 0, _, _, _, _ => none
 | k + 1, x0, x18, x570000, x570001 => if x18 = true then (some ((([] : List (S87))), false)) else ((impl_Device.f x0).bind fun t575 => (impl_ShiftRig.l0 k t575 (t575.length : Int) 0 x570000 x570001))
def impl_ShiftRig.l0 : Nat → List (S87) → Int → Int → Int → Int → Option ((List (S87)) × Bool)
 | 0, _, _, _, _, _ => none
 | k + 1, x6, x23, x24, x570000, x570001 => if x24 < x23 then (if 0 ≤ x24 then (if x24 < (x6.length : Int) then (if ((rd_T87 x6 x24).f1) = 1 then (impl_ShiftRig.l0 k x6 x23 (wrap64 (x24 + 1)) x570000 x570001) else ((impl_AddPlaces.f ((rd_T87 x6 x24).f3.f0) ((rd_T87 x6 x24).f3.f1) x570000 x570001).bind fun bt580 => ((some (x6.set (x24 : Int).toNat (⟨(rd_T87 x6 x24).f0, (rd_T87 x6 x24).f1, (rd_T87 x6 x24).f2, (⟨bt580.1, bt580.2.1⟩ : S66), (rd_T87 x6 x24).f4, (rd_T87 x6 x24).f5, (rd_T87 x6 x24).f6⟩ : S87) : List (S87))).bind fun y584 => (if bt580.2.2 = true then ((impl_IsDevice.f k ((rd_T87 y584 x24).f0) ((rd_T87 y584 x24).f1) ((rd_T87 y584 x24).f2) ((rd_T87 y584 x24).f3.f0) ((rd_T87 y584 x24).f3.f1) ((rd_T87 y584 x24).f4) ((rd_T87 y584 x24).f5) ((rd_T87 y584 x24).f6)).bind fun t586 => (if t586 = true then (impl_ShiftRig.l0 k y584 x23 (wrap64 (x24 + 1)) x570000 x570001) else (some ((([] : List (S87))), false)))) else (some ((([] : List (S87))), false)))))) else (none)) else (none)) else (some (x6, true))
end
def impl_ShiftRig.f (k : Nat) (l0 : List (S87)) (a1_0 : Int) (a1_1 : Int) : Option ((List (S87)) × Bool) := (impl_IsRig.f k l0).bind fun t570 => (if t570 = true then ((impl_IsPlace.f a1_0 a1_1).bind fun t571 => (impl_ShiftRig.j0 k l0 (!t571) a1_0 a1_1)) else (impl_ShiftRig.j0 k l0 true a1_0 a1_1))
theorem impl_ShiftRig.mono_l : ∀ k, (∀ y0 y1 y2 y3, LeO (impl_ShiftRig.j0 k y0 y1 y2 y3) (impl_ShiftRig.j0 (k + 1) y0 y1 y2 y3)) ∧ (∀ y0 y1 y2 y3 y4, LeO (impl_ShiftRig.l0 k y0 y1 y2 y3 y4) (impl_ShiftRig.l0 (k + 1) y0 y1 y2 y3 y4))
 | 0 => ⟨fun _ _ _ _ r h => by simp [impl_ShiftRig.j0] at h, fun _ _ _ _ _ r h => by simp [impl_ShiftRig.l0] at h⟩
 | k + 1 => by
  obtain ⟨ih0, ih1⟩ := impl_ShiftRig.mono_l k
  refine ⟨?_, ?_⟩
  ·intro y0 y1 y2 y3
   unfold impl_ShiftRig.j0
   repeat' first
   | (with_reducible exact ih0 _ _ _ _)
   | (with_reducible exact ih1 _ _ _ _ _)
   | (with_reducible exact impl_IsDevice.mono _ _ _ _ _ _ _ _ _)
   | (with_reducible exact impl_IsRig.mono _ _)
   | (with_reducible exact LeO.refl _)
   | (with_reducible exact LeO.none _)
   | (with_reducible refine LeO.ite ?_ ?_)
   | (with_reducible refine LeO.bind ?_ (fun _ => ?_))
  ·intro y0 y1 y2 y3 y4
   unfold impl_ShiftRig.l0
   repeat' first
   | (with_reducible exact ih0 _ _ _ _)
   | (with_reducible exact ih1 _ _ _ _ _)
   | (with_reducible exact impl_IsDevice.mono _ _ _ _ _ _ _ _ _)
   | (with_reducible exact impl_IsRig.mono _ _)
   | (with_reducible exact LeO.refl _)
   | (with_reducible exact LeO.none _)
   | (with_reducible refine LeO.ite ?_ ?_)
   | (with_reducible refine LeO.bind ?_ (fun _ => ?_))
theorem impl_ShiftRig.mono : ∀ a0 a1 a2 k, LeO (impl_ShiftRig.f k a0 a1 a2) (impl_ShiftRig.f (k + 1) a0 a1 a2) := by
 intro a0 a1 a2 k
 obtain ⟨ih0, ih1⟩ := impl_ShiftRig.mono_l k
 unfold impl_ShiftRig.f
 repeat' first
   | (with_reducible exact ih0 _ _ _ _)
   | (with_reducible exact ih1 _ _ _ _ _)
   | (with_reducible exact impl_IsDevice.mono _ _ _ _ _ _ _ _ _)
   | (with_reducible exact impl_IsRig.mono _ _)
   | (with_reducible exact LeO.refl _)
   | (with_reducible exact LeO.none _)
   | (with_reducible refine LeO.ite ?_ ?_)
   | (with_reducible refine LeO.bind ?_ (fun _ => ?_))
set_option maxHeartbeats 8000000 in
set_option maxRecDepth 100000 in
theorem impl_ShiftRig.calls (k : Nat) (A0 : Option Addr) (c0 : Nat) (l0 : List (S87)) (a1_0 : Int) (a1_1 : Int) (r1 : List (S87)) (r2 : Bool) (w : World) (hr0 : Kd.C k87 w A0 l0.length l0) (hc0 : l0.length ≤ c0) (h : impl_ShiftRig.f k l0 a1_0 a1_1 = some (r1, r2)) :
  Calls Try.prog 52 #[.slice A0 l0.length c0, .agg #[.int .i64 a1_0, .int .i64 a1_1]] w fun e w' => ∃ v0_ : Value, e = .returned (.tuple #[v0_, .bool r2]) ∧ Kd.R k87 87 w' w.heap.size (fun _ => True) v0_ r1 ∧ Below w.heap.size w w' := by
 have hu66 := Try.underlying66
 have hu87 := Try.underlying87
 have HR0 := am hr0
 have HC0 := am hc0
 clear hr0 hc0
 have HB := am (Below.refl w.heap.size w)
 have H : ((impl_IsRig.f k l0).bind fun t570 => (if t570 = true then ((impl_IsPlace.f a1_0 a1_1).bind fun t571 => (impl_ShiftRig.j0 k l0 (!t571) a1_0 a1_1)) else (impl_ShiftRig.j0 k l0 true a1_0 a1_1))) = some (r1, r2) := h
 clear h
 have HC3 := am H
 clear H
 go_enter Try.func52, Try.ntmps52
 go_upto_region 1 with (first | ((with_reducible refine gate_dst (N := 3) rfl ?_); refine box_event ?hg (N := 3) ?hd (cs := #[.int .i64 a1_0, .int .i64 a1_1]) (t := 66) ?hr ?_; (case hd => rfl); (case hg => rfl); (case hr => exact gq); intro gb569 hg w4 hbox hb; have n0_ := am (below_step u14_11 hb); have n1_ := am (hbox); have n2_ := bsw w hg (below_size u14_11); have n3_ := bsw w hg (below_size u14_11); clear HB; have HB := n0_; have BK569 := n1_; have GW569 := n2_; have GE569 := n3_; clear n0_ n1_ n2_ n3_ hb hbox hg))
 (try simp only [Act.put, List.setIfInBounds_toArray, List.set_cons_zero, List.set_cons_succ])
 go_cut [18] (fun v18 wc => ∃ (kq : Nat) (x18_2 : Bool), v18 = .bool x18_2 ∧ Aside0 (impl_ShiftRig.j0 kq l0 x18_2 a1_0 a1_1 = some (r1, r2)) ∧ Aside0 (kq ≤ k) ∧ Aside0 (wc.heap[gb569]? = some (.cells #[.int .i64 a1_0, .int .i64 a1_1] 66 (0, 0))) ∧ Aside0 (Below w.heap.size w wc))
 case first =>
  have H := HC3.out
  clear HC3
  replace H := Option.bind_eq_some_iff.mp H
  obtain ⟨t570, A50, H⟩ := H
  replace H : (if t570 = true then ((impl_IsPlace.f a1_0 a1_1).bind fun t571 => (impl_ShiftRig.j0 k l0 (!t571) a1_0 a1_1)) else (impl_ShiftRig.j0 k l0 true a1_0 a1_1)) = some (r1, r2) := H
  have A5 := am A50
  clear A50
  by_cases c6 : t570 = true
  ·subst c6
   have H1 : ((impl_IsPlace.f a1_0 a1_1).bind fun t571 => (impl_ShiftRig.j0 k l0 (!t571) a1_0 a1_1)) = some (r1, r2) := by rw [if_pos rfl] at H; exact H
   clear H
   have H := H1
   clear H1
   replace H := Option.bind_eq_some_iff.mp H
   obtain ⟨t571, A70, H⟩ := H
   replace H : (impl_ShiftRig.j0 k l0 (!t571) a1_0 a1_1) = some (r1, r2) := H
   have A7 := am A70
   clear A70
   have H' := am H
   clear H
   go_wp2_with (first | ((with_reducible refine gate_callee (f := 50) rfl ?_); refine goesL_ (some 12) rfl rfl Try.func50 (by kernel_rfl) rfl #[.slice A0 l0.length c0] rfl u14_14 ?_; (with_reducible refine (impl_IsRig.calls k _ _ l0 true _ ?side1 ?side2 A5.out).mono ?_); (case side1 => exact y14_0); (case side2 => exact HC0.out); rintro e w8 ⟨rfl, hb⟩; refine ⟨_, rfl, ?_⟩; have n0_ := am (blk_below (g := gb569) (o := zo6 a1_0 a1_1) u14_1 hb); have n1_ := am (below_step u14_2 hb); clear BK569 HB; have BK569 := n0_; have HB := n1_; clear n0_ n1_; (try clear hb); (try clear hb2); (try clear hk); (try clear hi); obtain ⟨hcz9_0, hcz9_1, hfz9_0, hfz9_1⟩ := cf2 BK569.out) | (go_at_call 94; (with_reducible refine (impl_IsPlace.calls a1_0 a1_1 t571 _ A7.out).mono ?_); rintro e w10 ⟨rfl, hb⟩; have n0_ := am (blk_below (g := gb569) (o := zo6 a1_0 a1_1) u14_1 hb); have n1_ := am (below_step u14_2 hb); clear BK569 HB; have BK569 := n0_; have HB := n1_; clear n0_ n1_; (try clear hb); (try clear hb2); (try clear hk); (try clear hi)))
   go_meet
   case rel => exact ⟨_, (!t571), u14_22, H', ⟨by first | omega | exact Nat.le_refl _⟩, ⟨by (with_reducible repeat (first | refine blk_drewN ?_ _ | refine blk_drew ?_ | refine blk_alloc ?_ _)); exact BK569.out⟩, ⟨s14_1⟩⟩
  ·replace c6 := Bool.eq_false_iff.mpr c6
   subst c6
   have H1 : (impl_ShiftRig.j0 k l0 true a1_0 a1_1) = some (r1, r2) := by rw [if_neg (show ¬ (false = true) by decide)] at H; exact H
   clear H
   have H := H1
   clear H1
   have H' := am H
   clear H
   go_wp2_with (first | ((with_reducible refine gate_callee (f := 50) rfl ?_); refine goesL_ (some 12) rfl rfl Try.func50 (by kernel_rfl) rfl #[.slice A0 l0.length c0] rfl u14_14 ?_; (with_reducible refine (impl_IsRig.calls k _ _ l0 false _ ?side1 ?side2 A5.out).mono ?_); (case side1 => exact y14_0); (case side2 => exact HC0.out); rintro e w11 ⟨rfl, hb⟩; refine ⟨_, rfl, ?_⟩; have n0_ := am (blk_below (g := gb569) (o := zo6 a1_0 a1_1) u14_1 hb); have n1_ := am (below_step u14_2 hb); clear BK569 HB; have BK569 := n0_; have HB := n1_; clear n0_ n1_; (try clear hb); (try clear hb2); (try clear hk); (try clear hi)))
   go_meet
   case rel => exact ⟨_, (true), u14_22, H', ⟨by first | omega | exact Nat.le_refl _⟩, ⟨by (with_reducible repeat (first | refine blk_drewN ?_ _ | refine blk_drew ?_ | refine blk_alloc ?_ _)); exact BK569.out⟩, ⟨s14_1⟩⟩
 case rest =>
  clear HC3
  try clear p2
  try clear c5
  try clear c6
  try clear hcz9_0
  try clear hcz9_1
  try clear hfz9_0
  try clear hfz9_1
  obtain ⟨kq, x18_2, rfl, HA, HJ2, BK569, HB⟩ := hcut
  cases kq with
  | zero => exact absurd HA.out (by simp [impl_ShiftRig.j0])
  | succ kj2 =>
   have H := HA.out
   clear HA
   simp only [impl_ShiftRig.j0] at H
   by_cases c12 : x18_2 = true
   ·subst c12
    have H1 : (some ((([] : List (S87))), false)) = some (r1, r2) := by rw [if_pos rfl] at H; exact H
    clear H
    have H := H1
    clear H1
    obtain ⟨y572, hy572⟩ : ∃ y_ : List (S87), y_ = (([] : List (S87))) := ⟨_, rfl⟩
    replace H : (some (y572, false)) = some (r1, r2) := by first | (rw [hy572]; with_reducible exact H) | (have H2_ := (Option.bind_some _ _).symm.trans H; rw [hy572]; with_reducible exact H2_) | (have H2_ := (Option.bind_some _ _).symm.trans H; with_reducible exact H2_) | with_reducible exact H | (rw [hy572]; exact H) | exact H
    have Ny572 := am hy572
    clear hy572
    simp only [Option.some.injEq, Prod.mk.injEq] at H
    obtain ⟨rfl, rfl⟩ := H
    go_wp2_with (first | ((with_reducible refine gate_dst (N := 19) rfl ?_); refine Kd.R_lit k87 _ 87 ?hg (N := 19) ?hd (xs := ([] : List (S87))) (inner := []) (ok := fun _ => True) (okp := fun _ => True) ?hr ?hp (fun _ hk => hk) trivial (Below.refl _ _) (Nat.le_refl _) (by simp) ?_; (case hd => rfl); (case hg => rfl); (case hr => exact gq); (case hp => exact (Reps.none _ _)); intro v573 w13 ho14 hb hg_ hnew_; clear hg_ hnew_; (first | rw [← Ny572.out] at ho14 | (simp only [Int.reduceToNat] at ho14; rw [← Ny572.out] at ho14)); have n0_ := am (Kd.R_lower ho14 (below_size u14_2)); have n1_ := am (blk_below (g := gb569) (o := zo6 a1_0 a1_1) u14_1 hb); have n2_ := am (below_step u14_2 hb); clear BK569 HB; have HO574 := n0_; have BK569 := n1_; have HB := n2_; clear n0_ n1_ n2_ hb ho14))
    go_ret2
    exact ⟨_, by first | rfl | (simp [*] <;> rfl), by (with_reducible repeat (first | apply Kd.R_alloc | apply Kd.R_drewN | apply Kd.R_drew)); exact HO574.out, s14_1⟩
   ·replace c12 := Bool.eq_false_iff.mpr c12
    subst c12
    have H1 : ((impl_Device.f l0).bind fun t575 => (impl_ShiftRig.l0 kj2 t575 (t575.length : Int) 0 a1_0 a1_1)) = some (r1, r2) := by rw [if_neg (show ¬ (false = true) by decide)] at H; exact H
    clear H
    have H := H1
    clear H1
    replace H := Option.bind_eq_some_iff.mp H
    obtain ⟨t575, A150, H⟩ := H
    replace H : (impl_ShiftRig.l0 kj2 t575 (t575.length : Int) 0 a1_0 a1_1) = some (r1, r2) := H
    have A15 := am A150
    clear A150
    have H' := am H
    clear H
    go_wp2_with (first | ((with_reducible refine gate_callee (f := 95) rfl ?_); refine goesL_ (some 21) rfl rfl Try.func95 (by kernel_rfl) rfl #[.slice A0 l0.length c0] rfl u14_14 ?_; (with_reducible refine (impl_Device.calls _ _ l0 t575 _ ?side1 ?side2 A15.out).mono ?_); (case side1 => exact y14_0); (case side2 => exact HC0.out); rintro e w16 ⟨v576, rfl, ho0, hb⟩; refine ⟨_, rfl, ?_⟩; have n0_ := am (Kd.R_lower ho0 (below_size u14_2)); have n1_ := am (blk_below (g := gb569) (o := zo6 a1_0 a1_1) u14_1 hb); have n2_ := am (below_step u14_2 hb); clear BK569 HB; have HO577 := n0_; have BK569 := n1_; have HB := n2_; clear n0_ n1_ n2_; (try clear hb); (try clear hb2); (try clear hk); (try clear hi); (try clear ho0); obtain ⟨Ao17, co17, eo17⟩ := Kd.R_slice HO577.out; subst eo17))
    go_loopg [24] kj2 (fun kq v24 w' => ∃ (x6_2 : List (S87)) (x24_2 : Int), v24 = .int .i64 x24_2 ∧ Aside0 (impl_ShiftRig.l0 kq x6_2 (t575.length : Int) x24_2 a1_0 a1_1 = some (r1, r2)) ∧ Aside0 (kq ≤ kj2) ∧ Aside0 (Kd.R k87 87 w' w.heap.size (fun _ => True) (.slice Ao17 t575.length co17) x6_2) ∧ Aside0 (w'.heap[gb569]? = some (.cells #[.int .i64 a1_0, .int .i64 a1_1] 66 (0, 0))) ∧ Aside0 (Below w.heap.size w w'))
    case atStart => exact ⟨(t575), (0), u14_22, H', ⟨Nat.le_refl _⟩, ⟨by (with_reducible repeat (first | apply Kd.R_alloc | apply Kd.R_drewN | apply Kd.R_drew)); exact HO577.out⟩, ⟨by (with_reducible repeat (first | refine blk_drewN ?_ _ | refine blk_drew ?_ | refine blk_alloc ?_ _)); exact BK569.out⟩, ⟨s14_1⟩⟩
    case round =>
     clear H'
     try clear c1
     try clear p2
     try clear c5
     try clear c6
     try clear c9
     try clear c12
     try clear hcz9_0
     try clear hcz9_1
     try clear hfz9_0
     try clear hfz9_1
     try clear p2
     obtain ⟨x6_2, x24_2, rfl, HA, HK2, HO_6, BK569, HB⟩ := hrel
     have hl6_2 := (Kd.R_reads' HO_6.out).1
     rw [hl6_2] at HO_6
     (try simp only [hl6_2])
     (try simp only [hl6_2] at BK569)
     cases gk with
     | zero => exact absurd HA.out (by simp [impl_ShiftRig.l0])
     | succ k2 =>
      have H := HA.out
      clear HA
      simp only [impl_ShiftRig.l0] at H
      by_cases c18 : x24_2 < (t575.length : Int)
      ·rw [if_pos c18] at H
       have c18b0 : decide (x24_2 < (t575.length : Int)) = true := decide_eq_true c18
       clear c18
       by_cases c19 : 0 ≤ x24_2
       ·rw [if_pos c19] at H
        have c19b0 : decide (0 ≤ x24_2) = true := decide_eq_true c19
        clear c19
        by_cases c20 : x24_2 < (x6_2.length : Int)
        ·rw [if_pos c20] at H
         have c20b0 : decide (x24_2 < (x6_2.length : Int)) = true := decide_eq_true c20
         clear c20
         by_cases c21 : ((rd_T87 x6_2 x24_2).f1) = 1
         ·rw [if_pos c21] at H
          have c21b0 : (((rd_T87 x6_2 x24_2).f1) == 1) = true := beq_iff_eq.mpr c21
          have c21b1 : (((rd_T87 x6_2 x24_2).f1) != 1) = false := bne_eq_false_iff_eq.mpr c21
          clear c21
          have H' := am H
          clear H
          have p578 : 0 ≤ (x24_2 : Int) := od u14_21
          have q578 : x24_2 < (x6_2.length : Int) := od u14_21
          obtain ⟨ad578, e578, hx578_0, hx578_1, hx578_2, hx578_3, hx578_4, hx578_5, hx578_6, hx578_7⟩ := at_T87 (Kd.R_reads' HO_6.out).2.2 x24_2 p578 q578
          cases e578
          replace p578 := eq_true p578
          replace q578 := eq_true q578
          go_wp2_with (first | ((with_reducible refine gate_dst (N := 8) rfl ?_); refine box_event ?hg (N := 8) ?hd (cs := #[.string (⟨#[]⟩ : ByteArray), .int .i64 0, .string (⟨#[]⟩ : ByteArray), .int .i64 0, .int .i64 0, .int .i64 0, .int .i64 0, .int .i64 0]) (t := 87) ?hr ?_; (case hd => rfl); (case hg => rfl); (case hr => exact gq); intro gb579 hg w22 hbox hb; have n0_ := am (Kd.R_below (Kd.R_elderB u14_8 gb579 (Nat.le_of_eq hg.symm)) hb); have n1_ := am (blk_below (g := gb569) (o := zo6 a1_0 a1_1) u14_1 hb); have n2_ := am (below_step u14_2 hb); have n3_ := am (hbox); have n4_ := bsw w hg (below_size u14_2); have n5_ := bsw w hg (below_size u14_2); have n6_ := am ((by rw [hg]; exact Nat.ne_of_lt (blk_lt (g := gb569) (o := zo6 a1_0 a1_1) u14_1) : gb569 ≠ gb579)); have n7_ := am ((by rw [hg]; exact Nat.ne_of_gt (blk_lt (g := gb569) (o := zo6 a1_0 a1_1) u14_1) : gb579 ≠ gb569)); clear HO_6 BK569 HB; have HO_6 := n0_; have BK569 := n1_; have HB := n2_; have BK579 := n3_; have GW579 := n4_; have GE579 := n5_; have NB569_579 := n6_; have NB579_569 := n7_; clear n0_ n1_ n2_ n3_ n4_ n5_ n6_ n7_ hb hbox hg; have hnb23 := NB579_569.out; have hnc23 := NB569_579.out; obtain ⟨hcz24_0, hcz24_1, hcz24_2, hcz24_3, hcz24_4, hcz24_5, hcz24_6, hcz24_7, hfz24_0, hfz24_1, hfz24_2, hfz24_3, hfz24_4, hfz24_5, hfz24_6, hfz24_7⟩ := cf8 BK579.out))
          (try simp only [← hl6_2])
          go_roundg k2
          case measure => have := HJ2.out; have := HK2.out; omega
          case rel => exact ⟨(x6_2), (wrap64 (x24_2 + 1)), u14_22, H', ⟨by have := HJ2.out; have := HK2.out; omega⟩, ⟨by (try simp only [hl6_2]); (with_reducible repeat (first | apply Kd.R_alloc | apply Kd.R_drewN | apply Kd.R_drew)); exact Kd.R_mono (Kd.R_far (p := ⟨gb579, 7, none⟩) (Kd.R_far (p := ⟨gb579, 6, none⟩) (Kd.R_far (p := ⟨gb579, 5, none⟩) (Kd.R_far (p := ⟨gb579, 4, none⟩) (Kd.R_far (p := ⟨gb579, 3, none⟩) (Kd.R_far (p := ⟨gb579, 2, none⟩) (Kd.R_far (p := ⟨gb579, 1, none⟩) (Kd.R_far (p := ⟨gb579, 0, none⟩) (Kd.R_mono HO_6.out (fun k_ hk => (⟨hk, hk.2⟩ : _ ∧ k_ ≠ gb579))) (fun _ hk => hk.2) (.string ((rd_T87 x6_2 x24_2).f0))) (fun _ hk => hk.2) (.int .i64 ((rd_T87 x6_2 x24_2).f1))) (fun _ hk => hk.2) (.string ((rd_T87 x6_2 x24_2).f2))) (fun _ hk => hk.2) (.int .i64 ((rd_T87 x6_2 x24_2).f3.f0))) (fun _ hk => hk.2) (.int .i64 ((rd_T87 x6_2 x24_2).f3.f1))) (fun _ hk => hk.2) (.int .i64 ((rd_T87 x6_2 x24_2).f4))) (fun _ hk => hk.2) (.int .i64 ((rd_T87 x6_2 x24_2).f5))) (fun _ hk => hk.2) (.int .i64 ((rd_T87 x6_2 x24_2).f6))) (fun _ hk => trivial)⟩, ⟨by (try simp only [hl6_2]); (with_reducible repeat (first | refine blk_drewN ?_ _ | refine blk_drew ?_ | refine blk_alloc ?_ _)); refine blk_far ?_ NB569_579.out _; (with_reducible repeat (first | refine blk_drewN ?_ _ | refine blk_drew ?_ | refine blk_alloc ?_ _)); refine blk_far ?_ NB569_579.out _; (with_reducible repeat (first | refine blk_drewN ?_ _ | refine blk_drew ?_ | refine blk_alloc ?_ _)); refine blk_far ?_ NB569_579.out _; (with_reducible repeat (first | refine blk_drewN ?_ _ | refine blk_drew ?_ | refine blk_alloc ?_ _)); refine blk_far ?_ NB569_579.out _; (with_reducible repeat (first | refine blk_drewN ?_ _ | refine blk_drew ?_ | refine blk_alloc ?_ _)); refine blk_far ?_ NB569_579.out _; (with_reducible repeat (first | refine blk_drewN ?_ _ | refine blk_drew ?_ | refine blk_alloc ?_ _)); refine blk_far ?_ NB569_579.out _; (with_reducible repeat (first | refine blk_drewN ?_ _ | refine blk_drew ?_ | refine blk_alloc ?_ _)); refine blk_far ?_ NB569_579.out _; (with_reducible repeat (first | refine blk_drewN ?_ _ | refine blk_drew ?_ | refine blk_alloc ?_ _)); refine blk_far ?_ NB569_579.out _; (with_reducible repeat (first | refine blk_drewN ?_ _ | refine blk_drew ?_ | refine blk_alloc ?_ _)); exact BK569.out⟩, ⟨by repeat (first | (with_reducible first | exact HB.out | apply below_alloc | apply pw_below_drewN | apply below_drew1 | refine below_set ?_ GE569.out | refine below_set ?_ GE579.out) | exact HB.out)⟩⟩
         ·rw [if_neg c21] at H
          have c21b0 : (((rd_T87 x6_2 x24_2).f1) == 1) = false := beq_eq_false_iff_ne.mpr c21
          have c21b1 : (((rd_T87 x6_2 x24_2).f1) != 1) = true := bne_iff_ne.mpr c21
          replace H := Option.bind_eq_some_iff.mp H
          obtain ⟨⟨t580, t581, t582⟩, A250, H⟩ := H
          replace H : ((some (x6_2.set (x24_2 : Int).toNat (⟨(rd_T87 x6_2 x24_2).f0, (rd_T87 x6_2 x24_2).f1, (rd_T87 x6_2 x24_2).f2, (⟨t580, t581⟩ : S66), (rd_T87 x6_2 x24_2).f4, (rd_T87 x6_2 x24_2).f5, (rd_T87 x6_2 x24_2).f6⟩ : S87) : List (S87))).bind fun y584 => (if t582 = true then ((impl_IsDevice.f k2 ((rd_T87 y584 x24_2).f0) ((rd_T87 y584 x24_2).f1) ((rd_T87 y584 x24_2).f2) ((rd_T87 y584 x24_2).f3.f0) ((rd_T87 y584 x24_2).f3.f1) ((rd_T87 y584 x24_2).f4) ((rd_T87 y584 x24_2).f5) ((rd_T87 y584 x24_2).f6)).bind fun t586 => (if t586 = true then (impl_ShiftRig.l0 k2 y584 (t575.length : Int) (wrap64 (x24_2 + 1)) a1_0 a1_1) else (some ((([] : List (S87))), false)))) else (some ((([] : List (S87))), false)))) = some (r1, r2) := H
          have A25 := am A250
          clear A250
          obtain ⟨y584, hy584⟩ : ∃ y_ : List (S87), y_ = (x6_2.set (x24_2 : Int).toNat (⟨(rd_T87 x6_2 x24_2).f0, (rd_T87 x6_2 x24_2).f1, (rd_T87 x6_2 x24_2).f2, (⟨t580, t581⟩ : S66), (rd_T87 x6_2 x24_2).f4, (rd_T87 x6_2 x24_2).f5, (rd_T87 x6_2 x24_2).f6⟩ : S87)) := ⟨_, rfl⟩
          replace H : (if t582 = true then ((impl_IsDevice.f k2 ((rd_T87 y584 x24_2).f0) ((rd_T87 y584 x24_2).f1) ((rd_T87 y584 x24_2).f2) ((rd_T87 y584 x24_2).f3.f0) ((rd_T87 y584 x24_2).f3.f1) ((rd_T87 y584 x24_2).f4) ((rd_T87 y584 x24_2).f5) ((rd_T87 y584 x24_2).f6)).bind fun t586 => (if t586 = true then (impl_ShiftRig.l0 k2 y584 (t575.length : Int) (wrap64 (x24_2 + 1)) a1_0 a1_1) else (some ((([] : List (S87))), false)))) else (some ((([] : List (S87))), false))) = some (r1, r2) := by first | (rw [hy584]; with_reducible exact H) | (have H2_ := (Option.bind_some _ _).symm.trans H; rw [hy584]; with_reducible exact H2_) | (have H2_ := (Option.bind_some _ _).symm.trans H; with_reducible exact H2_) | with_reducible exact H | (rw [hy584]; exact H) | exact H
          have Ny584 := am hy584
          clear hy584
          by_cases c27 : t582 = true
          ·subst c27
           have H1 : ((impl_IsDevice.f k2 ((rd_T87 y584 x24_2).f0) ((rd_T87 y584 x24_2).f1) ((rd_T87 y584 x24_2).f2) ((rd_T87 y584 x24_2).f3.f0) ((rd_T87 y584 x24_2).f3.f1) ((rd_T87 y584 x24_2).f4) ((rd_T87 y584 x24_2).f5) ((rd_T87 y584 x24_2).f6)).bind fun t586 => (if t586 = true then (impl_ShiftRig.l0 k2 y584 (t575.length : Int) (wrap64 (x24_2 + 1)) a1_0 a1_1) else (some ((([] : List (S87))), false)))) = some (r1, r2) := by rw [if_pos rfl] at H; exact H
           clear H
           have H := H1
           clear H1
           replace H := Option.bind_eq_some_iff.mp H
           obtain ⟨t586, A280, H⟩ := H
           replace H : (if t586 = true then (impl_ShiftRig.l0 k2 y584 (t575.length : Int) (wrap64 (x24_2 + 1)) a1_0 a1_1) else (some ((([] : List (S87))), false))) = some (r1, r2) := H
           have A28 := am A280
           clear A280
           by_cases c29 : t586 = true
           ·subst c29
            have H1 : (impl_ShiftRig.l0 k2 y584 (t575.length : Int) (wrap64 (x24_2 + 1)) a1_0 a1_1) = some (r1, r2) := by rw [if_pos rfl] at H; exact H
            clear H
            have H := H1
            clear H1
            have H' := am H
            clear H
            have p578 : 0 ≤ (x24_2 : Int) := od u14_21
            have q578 : x24_2 < (x6_2.length : Int) := od u14_21
            obtain ⟨ad578, e578, hx578_0, hx578_1, hx578_2, hx578_3, hx578_4, hx578_5, hx578_6, hx578_7⟩ := at_T87 (Kd.R_reads' HO_6.out).2.2 x24_2 p578 q578
            cases e578
            replace p578 := eq_true p578
            replace q578 := eq_true q578
            go_wp2_with (first | ((with_reducible refine gate_dst (N := 8) rfl ?_); refine box_event ?hg (N := 8) ?hd (cs := #[.string (⟨#[]⟩ : ByteArray), .int .i64 0, .string (⟨#[]⟩ : ByteArray), .int .i64 0, .int .i64 0, .int .i64 0, .int .i64 0, .int .i64 0]) (t := 87) ?hr ?_; (case hd => rfl); (case hg => rfl); (case hr => exact gq); intro gb579 hg w30 hbox hb; have n0_ := am (Kd.R_below (Kd.R_elderB u14_8 gb579 (Nat.le_of_eq hg.symm)) hb); have n1_ := am (blk_below (g := gb569) (o := zo6 a1_0 a1_1) u14_1 hb); have n2_ := am (below_step u14_2 hb); have n3_ := am (hbox); have n4_ := bsw w hg (below_size u14_2); have n5_ := bsw w hg (below_size u14_2); have n6_ := am ((by rw [hg]; exact Nat.ne_of_lt (blk_lt (g := gb569) (o := zo6 a1_0 a1_1) u14_1) : gb569 ≠ gb579)); have n7_ := am ((by rw [hg]; exact Nat.ne_of_gt (blk_lt (g := gb569) (o := zo6 a1_0 a1_1) u14_1) : gb579 ≠ gb569)); clear HO_6 BK569 HB; have HO_6 := n0_; have BK569 := n1_; have HB := n2_; have BK579 := n3_; have GW579 := n4_; have GE579 := n5_; have NB569_579 := n6_; have NB579_569 := n7_; clear n0_ n1_ n2_ n3_ n4_ n5_ n6_ n7_ hb hbox hg; have hnb31 := NB579_569.out; have hnc31 := NB569_579.out; obtain ⟨hcz32_0, hcz32_1, hcz32_2, hcz32_3, hcz32_4, hcz32_5, hcz32_6, hcz32_7, hfz32_0, hfz32_1, hfz32_2, hfz32_3, hfz32_4, hfz32_5, hfz32_6, hfz32_7⟩ := cf8 BK579.out; obtain ⟨hcz33_0, hcz33_1, hfz33_0, hfz33_1⟩ := cf2 BK569.out) | ((with_reducible refine gate_callee (f := 96) rfl ?_); refine goesL_ (some 36) rfl rfl Try.func96 (by kernel_rfl) rfl #[.agg #[.int .i64 ((rd_T87 x6_2 x24_2).f3.f0), .int .i64 ((rd_T87 x6_2 x24_2).f3.f1)], .agg #[.int .i64 a1_0, .int .i64 a1_1]] rfl u14_14 ?_; (with_reducible refine (impl_AddPlaces.calls ((rd_T87 x6_2 x24_2).f3.f0) ((rd_T87 x6_2 x24_2).f3.f1) a1_0 a1_1 t580 t581 true _ A25.out).mono ?_); rintro e w34 ⟨rfl, hb⟩; refine ⟨_, rfl, ?_⟩; have n0_ := am (Kd.R_below u14_6 hb); have n1_ := am (blk_below (g := gb569) (o := zo6 a1_0 a1_1) u14_3 hb); have n2_ := am (blk_below (g := gb579) (o := zo4 (rd_T87 x6_2 x24_2)) u14_0 hb); have n3_ := am (below_step u14_4 hb); clear HO_6 BK569 BK579 HB; have HO_6 := n0_; have BK569 := n1_; have BK579 := n2_; have HB := n3_; clear n0_ n1_ n2_ n3_; (try clear hb); (try clear hb2); (try clear hk); (try clear hi)) | ((with_reducible refine gate_dst (N := 9) rfl ?_); refine box_event ?hg (N := 9) ?hd (cs := #[.int .i64 0, .int .i64 0]) (t := 66) ?hr ?_; (case hd => rfl); (case hg => rfl); (case hr => exact gq); intro gb583 hg w35 hbox hb; have n0_ := am (Kd.R_below u14_8 hb); have n1_ := am (blk_below (g := gb569) (o := zo6 a1_0 a1_1) u14_1 hb); have n2_ := am (blk_below (g := gb579) (o := zo4 (rd_T87 x6_2 x24_2)) u14_5 hb); have n3_ := am (below_step u14_4 hb); have n4_ := am (hbox); have n5_ := bsw w hg (below_size u14_4); have n6_ := bsw w hg (below_size u14_4); have n7_ := am ((by rw [hg]; exact Nat.ne_of_lt (blk_lt (g := gb569) (o := zo6 a1_0 a1_1) u14_1) : gb569 ≠ gb583)); have n8_ := am ((by rw [hg]; exact Nat.ne_of_gt (blk_lt (g := gb569) (o := zo6 a1_0 a1_1) u14_1) : gb583 ≠ gb569)); have n9_ := am ((by rw [hg]; exact Nat.ne_of_lt (blk_lt (g := gb579) (o := zo4 (rd_T87 x6_2 x24_2)) u14_5) : gb579 ≠ gb583)); have n10_ := am ((by rw [hg]; exact Nat.ne_of_gt (blk_lt (g := gb579) (o := zo4 (rd_T87 x6_2 x24_2)) u14_5) : gb583 ≠ gb579)); clear HO_6 BK569 BK579 HB; have HO_6 := n0_; have BK569 := n1_; have BK579 := n2_; have HB := n3_; have BK583 := n4_; have GW583 := n5_; have GE583 := n6_; have NB569_583 := n7_; have NB583_569 := n8_; have NB579_583 := n9_; have NB583_579 := n10_; clear n0_ n1_ n2_ n3_ n4_ n5_ n6_ n7_ n8_ n9_ n10_ hb hbox hg; have hnb36 := NB583_569.out; have hnc36 := NB569_583.out; have hnb37 := NB583_579.out; have hnc37 := NB579_583.out; obtain ⟨hcz38_0, hcz38_1, hfz38_0, hfz38_1⟩ := cf2 BK583.out) | ((with_reducible refine gate_store (t := 66) (p := 9) rfl ?_); refine store_event (t := 66) (p := 9) (v := ?vo_w39) (w1 := ((w35.setCell ⟨gb583, 0, none⟩ (.int .i64 t580)).setCell ⟨gb583, 1, none⟩ (.int .i64 t581))) ?hg ?ho ?hn ?hr ?_; (case ho => rfl); (case hg => rfl); (case hn => rfl); (case hr => exact gq); intro w39 hw; have n0_ : Aside0 (Kd.R k87 87 w39 w.heap.size (fun k_ => k_ ≠ gb579) (.slice (some ad578) x6_2.length co17) x6_2) := ⟨u14_18⟩; have n1_ : Aside0 (w39.heap[gb569]? = some (.cells #[.int .i64 a1_0, .int .i64 a1_1] 66 (0, 0))) := ⟨u14_10⟩; have n2_ : Aside0 (w39.heap[gb579]? = some (.cells #[.string ((rd_T87 x6_2 x24_2).f0), .int .i64 ((rd_T87 x6_2 x24_2).f1), .string ((rd_T87 x6_2 x24_2).f2), .int .i64 ((rd_T87 x6_2 x24_2).f3.f0), .int .i64 ((rd_T87 x6_2 x24_2).f3.f1), .int .i64 ((rd_T87 x6_2 x24_2).f4), .int .i64 ((rd_T87 x6_2 x24_2).f5), .int .i64 ((rd_T87 x6_2 x24_2).f6)] 87 (0, 0))) := ⟨u14_9⟩; have n3_ : Aside0 (w39.heap[gb583]? = some (.cells #[.int .i64 t580, .int .i64 t581] 66 (0, 0))) := ⟨u14_15⟩; have n4_ : Aside0 (Below w.heap.size w w39) := ⟨(by rw [hw]; exact u14_7)⟩; clear hw HO_6 BK569 BK579 BK583 HB; have HO_6 := n0_; have BK569 := n1_; have BK579 := n2_; have BK583 := n3_; have HB := n4_; clear n0_ n1_ n2_ n3_ n4_; obtain ⟨hcz40_0, hcz40_1, hfz40_0, hfz40_1⟩ := cf2 BK583.out; have p26 : 0 ≤ (x24_2 : Int) := od u14_21; have q26 : (x24_2 : Int) < ((x6_2.length : Int) : Int) := od u14_21; obtain ⟨go26, co26, eo26, gb26, gl26, cl26, HG26⟩ := Kd.R_form HO_6.out (by omega); (first | cases eo26 | (injection eo26 with ea_ en_ ec_; (first | subst ea_ | (injection ea_ with ea_; subst ea_)); subst ec_; clear en_)); have GB26 := am gb26; have GG26 := am HG26; clear gb26 gl26 HG26; (first | simp only [add_plain] at hx578_0 | skip); (first | simp only [add_plain] at hx578_1 | skip); (first | simp only [add_plain] at hx578_2 | skip); (first | simp only [add_plain] at hx578_3 | skip); (first | simp only [add_plain] at hx578_4 | skip); (first | simp only [add_plain] at hx578_5 | skip); (first | simp only [add_plain] at hx578_6 | skip); (first | simp only [add_plain] at hx578_7 | skip); obtain ⟨ce26, hcl26, hM26, hcc26, hfr26⟩ := Kd.R_elem HO_6.out z87 (x24_2 : Int) p26 q26; obtain rfl := k87_openM hM26; have hx26_0 : w39.cell? ⟨go26, (x24_2 : Int).toNat * 8, none⟩ = some (.string ((rd_T87 x6_2 x24_2).f0)) := hcc26 0 _ rfl; have hx26_1 : w39.cell? ⟨go26, (x24_2 : Int).toNat * 8 + 1, none⟩ = some (.int .i64 ((rd_T87 x6_2 x24_2).f1)) := hcc26 1 _ rfl; have hx26_2 : w39.cell? ⟨go26, (x24_2 : Int).toNat * 8 + 2, none⟩ = some (.string ((rd_T87 x6_2 x24_2).f2)) := hcc26 2 _ rfl; have hx26_3 : w39.cell? ⟨go26, (x24_2 : Int).toNat * 8 + 3, none⟩ = some (.int .i64 ((rd_T87 x6_2 x24_2).f3.f0)) := hcc26 3 _ rfl; have hx26_4 : w39.cell? ⟨go26, (x24_2 : Int).toNat * 8 + 4, none⟩ = some (.int .i64 ((rd_T87 x6_2 x24_2).f3.f1)) := hcc26 4 _ rfl; have hx26_5 : w39.cell? ⟨go26, (x24_2 : Int).toNat * 8 + 5, none⟩ = some (.int .i64 ((rd_T87 x6_2 x24_2).f4)) := hcc26 5 _ rfl; have hx26_6 : w39.cell? ⟨go26, (x24_2 : Int).toNat * 8 + 6, none⟩ = some (.int .i64 ((rd_T87 x6_2 x24_2).f5)) := hcc26 6 _ rfl; have hx26_7 : w39.cell? ⟨go26, (x24_2 : Int).toNat * 8 + 7, none⟩ = some (.int .i64 ((rd_T87 x6_2 x24_2).f6)) := hcc26 7 _ rfl; have hf26_0 : w39.frozen? ⟨go26, (x24_2 : Int).toNat * 8, none⟩ = false := hfr26 0; have hf26_1 : w39.frozen? ⟨go26, (x24_2 : Int).toNat * 8 + 1, none⟩ = false := hfr26 1; have hf26_2 : w39.frozen? ⟨go26, (x24_2 : Int).toNat * 8 + 2, none⟩ = false := hfr26 2; have hf26_3 : w39.frozen? ⟨go26, (x24_2 : Int).toNat * 8 + 3, none⟩ = false := hfr26 3; have hf26_4 : w39.frozen? ⟨go26, (x24_2 : Int).toNat * 8 + 4, none⟩ = false := hfr26 4; have hf26_5 : w39.frozen? ⟨go26, (x24_2 : Int).toNat * 8 + 5, none⟩ = false := hfr26 5; have hf26_6 : w39.frozen? ⟨go26, (x24_2 : Int).toNat * 8 + 6, none⟩ = false := hfr26 6; have hf26_7 : w39.frozen? ⟨go26, (x24_2 : Int).toNat * 8 + 7, none⟩ = false := hfr26 7; clear hcl26 hcc26 hfr26 hM26; replace p26 := eq_true p26; replace q26 := eq_true q26; have HX41 := am (show Kd.R k87 87 w39 w.heap.size (fun k_ => k_ ≠ gb579) (.slice (some ⟨go26, 0, none⟩) x6_2.length co17) x6_2 from u14_8); obtain ⟨ce41, hcl41, hM41, hcc41, hfr41⟩ := Kd.R_elem HX41.out z87 (x24_2 : Int) (od u14_21) (by have h_ : (x24_2 : Int) < ((x6_2.length : Int) : Int) := od u14_21; first | exact h_ | (have e_ := (Kd.R_reads' HO_6.out).1; omega) | simpa using h_); obtain rfl := k87_openM hM41; have HP41 := Kd.R_seg HX41.out (x24_2 : Int) (od u14_21) (by have h_ : (x24_2 : Int) < ((x6_2.length : Int) : Int) := od u14_21; first | exact h_ | (have e_ := (Kd.R_reads' HO_6.out).1; omega) | simpa using h_) (seg := [.int .i64 t580, .int .i64 t581]) (j := 3) hcl41 hcc41 (show 5 ≤ 8 from by decide) (x' := (⟨(rd_T87 x6_2 x24_2).f0, (rd_T87 x6_2 x24_2).f1, (rd_T87 x6_2 x24_2).f2, (⟨t580, t581⟩ : S66), (rd_T87 x6_2 x24_2).f4, (rd_T87 x6_2 x24_2).f5, (rd_T87 x6_2 x24_2).f6⟩ : S87)) (k87_mkM _ _ _ (⟨(rd_T87 x6_2 x24_2).f0, (rd_T87 x6_2 x24_2).f1, (rd_T87 x6_2 x24_2).f2, (⟨t580, t581⟩ : S66), (rd_T87 x6_2 x24_2).f4, (rd_T87 x6_2 x24_2).f5, (rd_T87 x6_2 x24_2).f6⟩ : S87) ) (fun _ hk => hk); have hx41_3 := hcc41 3 _ rfl; (try simp only [show (k87).sz = 8 from rfl, Nat.mul_one, Nat.add_zero] at hx41_3); have hf41_3 := hfr41 3; (try simp only [show (k87).sz = 8 from rfl, Nat.mul_one, Nat.add_zero] at hf41_3); have hx41_4 := hcc41 4 _ rfl; (try simp only [show (k87).sz = 8 from rfl, Nat.mul_one, Nat.add_zero] at hx41_4); have hf41_4 := hfr41 4; (try simp only [show (k87).sz = 8 from rfl, Nat.mul_one, Nat.add_zero] at hf41_4); clear hcl41 hcc41 hfr41 hM41) | ((with_reducible refine gate_store (t := 66) (p := 43) rfl ?_); refine store_event (t := 66) (p := 43) (v := ?vo_w42) (w1 := ((w39.setCell ⟨go26, (x24_2 : Int).toNat * 8 + 3, none⟩ (.int .i64 t580)).setCell ⟨go26, (x24_2 : Int).toNat * 8 + 4, none⟩ (.int .i64 t581))) ?hg ?ho ?hn ?hr ?_; (case ho => rfl); (case hg => rfl); (case hn => rfl); (case hr => exact gq); intro w42 hw; have hg : w39.grownBy w42 (some go26) := (by rw [hw]; exact HP41.2); have hp_ : Kd.R k87 87 w42 w.heap.size (fun k_ => k_ ≠ gb579) (.slice (some ⟨go26, 0, none⟩) x6_2.length co17) y584 := (by rw [hw, Ny584.out]; exact HP41.1); clear HP41; have n0_ := am (hp_); have n1_ := am (blk_grown (g := gb569) (o := zo6 a1_0 a1_1) u14_1 hg (Kd.R_ne HO_6.out BK569.out (by decide))); have n2_ := am (blk_grown (g := gb579) (o := zo4 (rd_T87 x6_2 x24_2)) u14_5 hg (Kd.R_away HO_6.out (fun _ hk => hk))); have n3_ := am (blk_grown (g := gb583) (o := zo6 t580 t581) u14_16 hg (Kd.R_ne HO_6.out BK583.out (by decide))); have n4_ := am ((by rw [hw]; exact below_set (below_set (HB.out) GB26.out) GB26.out : Below w.heap.size w w42)); clear HO_6 BK569 BK579 BK583 HB; have HO_6 := n0_; have BK569 := n1_; have BK579 := n2_; have BK583 := n3_; have HB := n4_; clear n0_ n1_ n2_ n3_ n4_ hg hw hp_; have p585 : 0 ≤ (x24_2 : Int) := od u14_21; have q585 : x24_2 < (y584.length : Int) := (by have h_ : (x24_2 : Int) < ((x6_2.length : Int) : Int) := od u14_21; first | (have e_ := (Kd.R_reads' HO_6.out).1; omega) | simpa only [Ny584.out, List.length_set] using h_); have ql585 : ((x24_2 : Int) < ((x6_2.length : Int) : Int)) = True := eq_true (od u14_21); obtain ⟨ad585, e585, hx585_0, hx585_1, hx585_2, hx585_3, hx585_4, hx585_5, hx585_6, hx585_7⟩ := at_T87 (Kd.R_reads' HO_6.out).2.2 x24_2 p585 q585; obtain rfl : (⟨go26, 0, none⟩ : Addr) = ad585 := (by injection e585); (first | simp only [add_plain] at hx585_0 | simp only [add_at] at hx585_0 | simp only [Addr.add, Nat.zero_add] at hx585_0 | skip); (first | simp only [add_plain] at hx585_1 | simp only [add_at] at hx585_1 | simp only [Addr.add, Nat.zero_add] at hx585_1 | skip); (first | simp only [add_plain] at hx585_2 | simp only [add_at] at hx585_2 | simp only [Addr.add, Nat.zero_add] at hx585_2 | skip); (first | simp only [add_plain] at hx585_3 | simp only [add_at] at hx585_3 | simp only [Addr.add, Nat.zero_add] at hx585_3 | skip); (first | simp only [add_plain] at hx585_4 | simp only [add_at] at hx585_4 | simp only [Addr.add, Nat.zero_add] at hx585_4 | skip); (first | simp only [add_plain] at hx585_5 | simp only [add_at] at hx585_5 | simp only [Addr.add, Nat.zero_add] at hx585_5 | skip); (first | simp only [add_plain] at hx585_6 | simp only [add_at] at hx585_6 | simp only [Addr.add, Nat.zero_add] at hx585_6 | skip); (first | simp only [add_plain] at hx585_7 | simp only [add_at] at hx585_7 | simp only [Addr.add, Nat.zero_add] at hx585_7 | skip); replace p585 := eq_true p585; replace q585 := eq_true q585) | (go_at_call 92; (with_reducible refine (impl_IsDevice.calls k2 ((rd_T87 y584 x24_2).f0) ((rd_T87 y584 x24_2).f1) ((rd_T87 y584 x24_2).f2) ((rd_T87 y584 x24_2).f3.f0) ((rd_T87 y584 x24_2).f3.f1) ((rd_T87 y584 x24_2).f4) ((rd_T87 y584 x24_2).f5) ((rd_T87 y584 x24_2).f6) true _ A28.out).mono ?_); rintro e w43 ⟨rfl, hb⟩; have n0_ := am (Kd.R_below u14_8 hb); have n1_ := am (blk_below (g := gb569) (o := zo6 a1_0 a1_1) u14_1 hb); have n2_ := am (blk_below (g := gb579) (o := zo4 (rd_T87 x6_2 x24_2)) u14_5 hb); have n3_ := am (blk_below (g := gb583) (o := zo6 t580 t581) u14_16 hb); have n4_ := am (below_step u14_7 hb); clear HO_6 BK569 BK579 BK583 HB; have HO_6 := n0_; have BK569 := n1_; have BK579 := n2_; have BK583 := n3_; have HB := n4_; clear n0_ n1_ n2_ n3_ n4_; (try clear hb); (try clear hb2); (try clear hk); (try clear hi)))
            (try simp only [← hl6_2])
            go_roundg k2
            case measure => have := HJ2.out; have := HK2.out; omega
            case rel => exact ⟨(y584), (wrap64 (x24_2 + 1)), u14_22, H', ⟨by have := HJ2.out; have := HK2.out; omega⟩, ⟨by (try simp only [hl6_2]); (with_reducible repeat (first | apply Kd.R_alloc | apply Kd.R_drewN | apply Kd.R_drew)); exact Kd.R_mono HO_6.out (fun _ hk => trivial)⟩, ⟨by (try simp only [hl6_2]); (with_reducible repeat (first | refine blk_drewN ?_ _ | refine blk_drew ?_ | refine blk_alloc ?_ _)); exact BK569.out⟩, ⟨s14_0⟩⟩
           ·replace c29 := Bool.eq_false_iff.mpr c29
            subst c29
            have H1 : (some ((([] : List (S87))), false)) = some (r1, r2) := by rw [if_neg (show ¬ (false = true) by decide)] at H; exact H
            clear H
            have H := H1
            clear H1
            obtain ⟨y587, hy587⟩ : ∃ y_ : List (S87), y_ = (([] : List (S87))) := ⟨_, rfl⟩
            replace H : (some (y587, false)) = some (r1, r2) := by first | (rw [hy587]; with_reducible exact H) | (have H2_ := (Option.bind_some _ _).symm.trans H; rw [hy587]; with_reducible exact H2_) | (have H2_ := (Option.bind_some _ _).symm.trans H; with_reducible exact H2_) | with_reducible exact H | (rw [hy587]; exact H) | exact H
            have Ny587 := am hy587
            clear hy587
            simp only [Option.some.injEq, Prod.mk.injEq] at H
            obtain ⟨rfl, rfl⟩ := H
            have p578 : 0 ≤ (x24_2 : Int) := od u14_21
            have q578 : x24_2 < (x6_2.length : Int) := od u14_21
            obtain ⟨ad578, e578, hx578_0, hx578_1, hx578_2, hx578_3, hx578_4, hx578_5, hx578_6, hx578_7⟩ := at_T87 (Kd.R_reads' HO_6.out).2.2 x24_2 p578 q578
            cases e578
            replace p578 := eq_true p578
            replace q578 := eq_true q578
            go_wp2_with (first | ((with_reducible refine gate_dst (N := 8) rfl ?_); refine box_event ?hg (N := 8) ?hd (cs := #[.string (⟨#[]⟩ : ByteArray), .int .i64 0, .string (⟨#[]⟩ : ByteArray), .int .i64 0, .int .i64 0, .int .i64 0, .int .i64 0, .int .i64 0]) (t := 87) ?hr ?_; (case hd => rfl); (case hg => rfl); (case hr => exact gq); intro gb579 hg w44 hbox hb; have n0_ := am (Kd.R_below (Kd.R_elderB u14_8 gb579 (Nat.le_of_eq hg.symm)) hb); have n1_ := am (blk_below (g := gb569) (o := zo6 a1_0 a1_1) u14_1 hb); have n2_ := am (below_step u14_2 hb); have n3_ := am (hbox); have n4_ := bsw w hg (below_size u14_2); have n5_ := bsw w hg (below_size u14_2); have n6_ := am ((by rw [hg]; exact Nat.ne_of_lt (blk_lt (g := gb569) (o := zo6 a1_0 a1_1) u14_1) : gb569 ≠ gb579)); have n7_ := am ((by rw [hg]; exact Nat.ne_of_gt (blk_lt (g := gb569) (o := zo6 a1_0 a1_1) u14_1) : gb579 ≠ gb569)); clear HO_6 BK569 HB; have HO_6 := n0_; have BK569 := n1_; have HB := n2_; have BK579 := n3_; have GW579 := n4_; have GE579 := n5_; have NB569_579 := n6_; have NB579_569 := n7_; clear n0_ n1_ n2_ n3_ n4_ n5_ n6_ n7_ hb hbox hg; have hnb45 := NB579_569.out; have hnc45 := NB569_579.out; obtain ⟨hcz46_0, hcz46_1, hcz46_2, hcz46_3, hcz46_4, hcz46_5, hcz46_6, hcz46_7, hfz46_0, hfz46_1, hfz46_2, hfz46_3, hfz46_4, hfz46_5, hfz46_6, hfz46_7⟩ := cf8 BK579.out; obtain ⟨hcz47_0, hcz47_1, hfz47_0, hfz47_1⟩ := cf2 BK569.out) | ((with_reducible refine gate_callee (f := 96) rfl ?_); refine goesL_ (some 36) rfl rfl Try.func96 (by kernel_rfl) rfl #[.agg #[.int .i64 ((rd_T87 x6_2 x24_2).f3.f0), .int .i64 ((rd_T87 x6_2 x24_2).f3.f1)], .agg #[.int .i64 a1_0, .int .i64 a1_1]] rfl u14_14 ?_; (with_reducible refine (impl_AddPlaces.calls ((rd_T87 x6_2 x24_2).f3.f0) ((rd_T87 x6_2 x24_2).f3.f1) a1_0 a1_1 t580 t581 true _ A25.out).mono ?_); rintro e w48 ⟨rfl, hb⟩; refine ⟨_, rfl, ?_⟩; have n0_ := am (Kd.R_below u14_6 hb); have n1_ := am (blk_below (g := gb569) (o := zo6 a1_0 a1_1) u14_3 hb); have n2_ := am (blk_below (g := gb579) (o := zo4 (rd_T87 x6_2 x24_2)) u14_0 hb); have n3_ := am (below_step u14_4 hb); clear HO_6 BK569 BK579 HB; have HO_6 := n0_; have BK569 := n1_; have BK579 := n2_; have HB := n3_; clear n0_ n1_ n2_ n3_; (try clear hb); (try clear hb2); (try clear hk); (try clear hi)) | ((with_reducible refine gate_dst (N := 9) rfl ?_); refine box_event ?hg (N := 9) ?hd (cs := #[.int .i64 0, .int .i64 0]) (t := 66) ?hr ?_; (case hd => rfl); (case hg => rfl); (case hr => exact gq); intro gb583 hg w49 hbox hb; have n0_ := am (Kd.R_below u14_8 hb); have n1_ := am (blk_below (g := gb569) (o := zo6 a1_0 a1_1) u14_1 hb); have n2_ := am (blk_below (g := gb579) (o := zo4 (rd_T87 x6_2 x24_2)) u14_5 hb); have n3_ := am (below_step u14_4 hb); have n4_ := am (hbox); have n5_ := bsw w hg (below_size u14_4); have n6_ := bsw w hg (below_size u14_4); have n7_ := am ((by rw [hg]; exact Nat.ne_of_lt (blk_lt (g := gb569) (o := zo6 a1_0 a1_1) u14_1) : gb569 ≠ gb583)); have n8_ := am ((by rw [hg]; exact Nat.ne_of_gt (blk_lt (g := gb569) (o := zo6 a1_0 a1_1) u14_1) : gb583 ≠ gb569)); have n9_ := am ((by rw [hg]; exact Nat.ne_of_lt (blk_lt (g := gb579) (o := zo4 (rd_T87 x6_2 x24_2)) u14_5) : gb579 ≠ gb583)); have n10_ := am ((by rw [hg]; exact Nat.ne_of_gt (blk_lt (g := gb579) (o := zo4 (rd_T87 x6_2 x24_2)) u14_5) : gb583 ≠ gb579)); clear HO_6 BK569 BK579 HB; have HO_6 := n0_; have BK569 := n1_; have BK579 := n2_; have HB := n3_; have BK583 := n4_; have GW583 := n5_; have GE583 := n6_; have NB569_583 := n7_; have NB583_569 := n8_; have NB579_583 := n9_; have NB583_579 := n10_; clear n0_ n1_ n2_ n3_ n4_ n5_ n6_ n7_ n8_ n9_ n10_ hb hbox hg; have hnb50 := NB583_569.out; have hnc50 := NB569_583.out; have hnb51 := NB583_579.out; have hnc51 := NB579_583.out; obtain ⟨hcz52_0, hcz52_1, hfz52_0, hfz52_1⟩ := cf2 BK583.out) | ((with_reducible refine gate_store (t := 66) (p := 9) rfl ?_); refine store_event (t := 66) (p := 9) (v := ?vo_w53) (w1 := ((w49.setCell ⟨gb583, 0, none⟩ (.int .i64 t580)).setCell ⟨gb583, 1, none⟩ (.int .i64 t581))) ?hg ?ho ?hn ?hr ?_; (case ho => rfl); (case hg => rfl); (case hn => rfl); (case hr => exact gq); intro w53 hw; have n0_ : Aside0 (Kd.R k87 87 w53 w.heap.size (fun k_ => k_ ≠ gb579) (.slice (some ad578) x6_2.length co17) x6_2) := ⟨u14_18⟩; have n1_ : Aside0 (w53.heap[gb569]? = some (.cells #[.int .i64 a1_0, .int .i64 a1_1] 66 (0, 0))) := ⟨u14_10⟩; have n2_ : Aside0 (w53.heap[gb579]? = some (.cells #[.string ((rd_T87 x6_2 x24_2).f0), .int .i64 ((rd_T87 x6_2 x24_2).f1), .string ((rd_T87 x6_2 x24_2).f2), .int .i64 ((rd_T87 x6_2 x24_2).f3.f0), .int .i64 ((rd_T87 x6_2 x24_2).f3.f1), .int .i64 ((rd_T87 x6_2 x24_2).f4), .int .i64 ((rd_T87 x6_2 x24_2).f5), .int .i64 ((rd_T87 x6_2 x24_2).f6)] 87 (0, 0))) := ⟨u14_9⟩; have n3_ : Aside0 (w53.heap[gb583]? = some (.cells #[.int .i64 t580, .int .i64 t581] 66 (0, 0))) := ⟨u14_15⟩; have n4_ : Aside0 (Below w.heap.size w w53) := ⟨(by rw [hw]; exact u14_7)⟩; clear hw HO_6 BK569 BK579 BK583 HB; have HO_6 := n0_; have BK569 := n1_; have BK579 := n2_; have BK583 := n3_; have HB := n4_; clear n0_ n1_ n2_ n3_ n4_; obtain ⟨hcz54_0, hcz54_1, hfz54_0, hfz54_1⟩ := cf2 BK583.out; have p26 : 0 ≤ (x24_2 : Int) := od u14_21; have q26 : (x24_2 : Int) < ((x6_2.length : Int) : Int) := od u14_21; obtain ⟨go26, co26, eo26, gb26, gl26, cl26, HG26⟩ := Kd.R_form HO_6.out (by omega); (first | cases eo26 | (injection eo26 with ea_ en_ ec_; (first | subst ea_ | (injection ea_ with ea_; subst ea_)); subst ec_; clear en_)); have GB26 := am gb26; have GG26 := am HG26; clear gb26 gl26 HG26; (first | simp only [add_plain] at hx578_0 | skip); (first | simp only [add_plain] at hx578_1 | skip); (first | simp only [add_plain] at hx578_2 | skip); (first | simp only [add_plain] at hx578_3 | skip); (first | simp only [add_plain] at hx578_4 | skip); (first | simp only [add_plain] at hx578_5 | skip); (first | simp only [add_plain] at hx578_6 | skip); (first | simp only [add_plain] at hx578_7 | skip); obtain ⟨ce26, hcl26, hM26, hcc26, hfr26⟩ := Kd.R_elem HO_6.out z87 (x24_2 : Int) p26 q26; obtain rfl := k87_openM hM26; have hx26_0 : w53.cell? ⟨go26, (x24_2 : Int).toNat * 8, none⟩ = some (.string ((rd_T87 x6_2 x24_2).f0)) := hcc26 0 _ rfl; have hx26_1 : w53.cell? ⟨go26, (x24_2 : Int).toNat * 8 + 1, none⟩ = some (.int .i64 ((rd_T87 x6_2 x24_2).f1)) := hcc26 1 _ rfl; have hx26_2 : w53.cell? ⟨go26, (x24_2 : Int).toNat * 8 + 2, none⟩ = some (.string ((rd_T87 x6_2 x24_2).f2)) := hcc26 2 _ rfl; have hx26_3 : w53.cell? ⟨go26, (x24_2 : Int).toNat * 8 + 3, none⟩ = some (.int .i64 ((rd_T87 x6_2 x24_2).f3.f0)) := hcc26 3 _ rfl; have hx26_4 : w53.cell? ⟨go26, (x24_2 : Int).toNat * 8 + 4, none⟩ = some (.int .i64 ((rd_T87 x6_2 x24_2).f3.f1)) := hcc26 4 _ rfl; have hx26_5 : w53.cell? ⟨go26, (x24_2 : Int).toNat * 8 + 5, none⟩ = some (.int .i64 ((rd_T87 x6_2 x24_2).f4)) := hcc26 5 _ rfl; have hx26_6 : w53.cell? ⟨go26, (x24_2 : Int).toNat * 8 + 6, none⟩ = some (.int .i64 ((rd_T87 x6_2 x24_2).f5)) := hcc26 6 _ rfl; have hx26_7 : w53.cell? ⟨go26, (x24_2 : Int).toNat * 8 + 7, none⟩ = some (.int .i64 ((rd_T87 x6_2 x24_2).f6)) := hcc26 7 _ rfl; have hf26_0 : w53.frozen? ⟨go26, (x24_2 : Int).toNat * 8, none⟩ = false := hfr26 0; have hf26_1 : w53.frozen? ⟨go26, (x24_2 : Int).toNat * 8 + 1, none⟩ = false := hfr26 1; have hf26_2 : w53.frozen? ⟨go26, (x24_2 : Int).toNat * 8 + 2, none⟩ = false := hfr26 2; have hf26_3 : w53.frozen? ⟨go26, (x24_2 : Int).toNat * 8 + 3, none⟩ = false := hfr26 3; have hf26_4 : w53.frozen? ⟨go26, (x24_2 : Int).toNat * 8 + 4, none⟩ = false := hfr26 4; have hf26_5 : w53.frozen? ⟨go26, (x24_2 : Int).toNat * 8 + 5, none⟩ = false := hfr26 5; have hf26_6 : w53.frozen? ⟨go26, (x24_2 : Int).toNat * 8 + 6, none⟩ = false := hfr26 6; have hf26_7 : w53.frozen? ⟨go26, (x24_2 : Int).toNat * 8 + 7, none⟩ = false := hfr26 7; clear hcl26 hcc26 hfr26 hM26; replace p26 := eq_true p26; replace q26 := eq_true q26; have HX55 := am (show Kd.R k87 87 w53 w.heap.size (fun k_ => k_ ≠ gb579) (.slice (some ⟨go26, 0, none⟩) x6_2.length co17) x6_2 from u14_8); obtain ⟨ce55, hcl55, hM55, hcc55, hfr55⟩ := Kd.R_elem HX55.out z87 (x24_2 : Int) (od u14_21) (by have h_ : (x24_2 : Int) < ((x6_2.length : Int) : Int) := od u14_21; first | exact h_ | (have e_ := (Kd.R_reads' HO_6.out).1; omega) | simpa using h_); obtain rfl := k87_openM hM55; have HP55 := Kd.R_seg HX55.out (x24_2 : Int) (od u14_21) (by have h_ : (x24_2 : Int) < ((x6_2.length : Int) : Int) := od u14_21; first | exact h_ | (have e_ := (Kd.R_reads' HO_6.out).1; omega) | simpa using h_) (seg := [.int .i64 t580, .int .i64 t581]) (j := 3) hcl55 hcc55 (show 5 ≤ 8 from by decide) (x' := (⟨(rd_T87 x6_2 x24_2).f0, (rd_T87 x6_2 x24_2).f1, (rd_T87 x6_2 x24_2).f2, (⟨t580, t581⟩ : S66), (rd_T87 x6_2 x24_2).f4, (rd_T87 x6_2 x24_2).f5, (rd_T87 x6_2 x24_2).f6⟩ : S87)) (k87_mkM _ _ _ (⟨(rd_T87 x6_2 x24_2).f0, (rd_T87 x6_2 x24_2).f1, (rd_T87 x6_2 x24_2).f2, (⟨t580, t581⟩ : S66), (rd_T87 x6_2 x24_2).f4, (rd_T87 x6_2 x24_2).f5, (rd_T87 x6_2 x24_2).f6⟩ : S87) ) (fun _ hk => hk); have hx55_3 := hcc55 3 _ rfl; (try simp only [show (k87).sz = 8 from rfl, Nat.mul_one, Nat.add_zero] at hx55_3); have hf55_3 := hfr55 3; (try simp only [show (k87).sz = 8 from rfl, Nat.mul_one, Nat.add_zero] at hf55_3); have hx55_4 := hcc55 4 _ rfl; (try simp only [show (k87).sz = 8 from rfl, Nat.mul_one, Nat.add_zero] at hx55_4); have hf55_4 := hfr55 4; (try simp only [show (k87).sz = 8 from rfl, Nat.mul_one, Nat.add_zero] at hf55_4); clear hcl55 hcc55 hfr55 hM55) | ((with_reducible refine gate_store (t := 66) (p := 43) rfl ?_); refine store_event (t := 66) (p := 43) (v := ?vo_w56) (w1 := ((w53.setCell ⟨go26, (x24_2 : Int).toNat * 8 + 3, none⟩ (.int .i64 t580)).setCell ⟨go26, (x24_2 : Int).toNat * 8 + 4, none⟩ (.int .i64 t581))) ?hg ?ho ?hn ?hr ?_; (case ho => rfl); (case hg => rfl); (case hn => rfl); (case hr => exact gq); intro w56 hw; have hg : w53.grownBy w56 (some go26) := (by rw [hw]; exact HP55.2); have hp_ : Kd.R k87 87 w56 w.heap.size (fun k_ => k_ ≠ gb579) (.slice (some ⟨go26, 0, none⟩) x6_2.length co17) y584 := (by rw [hw, Ny584.out]; exact HP55.1); clear HP55; have n0_ := am (hp_); have n1_ := am (blk_grown (g := gb569) (o := zo6 a1_0 a1_1) u14_1 hg (Kd.R_ne HO_6.out BK569.out (by decide))); have n2_ := am (blk_grown (g := gb579) (o := zo4 (rd_T87 x6_2 x24_2)) u14_5 hg (Kd.R_away HO_6.out (fun _ hk => hk))); have n3_ := am (blk_grown (g := gb583) (o := zo6 t580 t581) u14_16 hg (Kd.R_ne HO_6.out BK583.out (by decide))); have n4_ := am ((by rw [hw]; exact below_set (below_set (HB.out) GB26.out) GB26.out : Below w.heap.size w w56)); clear HO_6 BK569 BK579 BK583 HB; have HO_6 := n0_; have BK569 := n1_; have BK579 := n2_; have BK583 := n3_; have HB := n4_; clear n0_ n1_ n2_ n3_ n4_ hg hw hp_; have p585 : 0 ≤ (x24_2 : Int) := od u14_21; have q585 : x24_2 < (y584.length : Int) := (by have h_ : (x24_2 : Int) < ((x6_2.length : Int) : Int) := od u14_21; first | (have e_ := (Kd.R_reads' HO_6.out).1; omega) | simpa only [Ny584.out, List.length_set] using h_); have ql585 : ((x24_2 : Int) < ((x6_2.length : Int) : Int)) = True := eq_true (od u14_21); obtain ⟨ad585, e585, hx585_0, hx585_1, hx585_2, hx585_3, hx585_4, hx585_5, hx585_6, hx585_7⟩ := at_T87 (Kd.R_reads' HO_6.out).2.2 x24_2 p585 q585; obtain rfl : (⟨go26, 0, none⟩ : Addr) = ad585 := (by injection e585); (first | simp only [add_plain] at hx585_0 | simp only [add_at] at hx585_0 | simp only [Addr.add, Nat.zero_add] at hx585_0 | skip); (first | simp only [add_plain] at hx585_1 | simp only [add_at] at hx585_1 | simp only [Addr.add, Nat.zero_add] at hx585_1 | skip); (first | simp only [add_plain] at hx585_2 | simp only [add_at] at hx585_2 | simp only [Addr.add, Nat.zero_add] at hx585_2 | skip); (first | simp only [add_plain] at hx585_3 | simp only [add_at] at hx585_3 | simp only [Addr.add, Nat.zero_add] at hx585_3 | skip); (first | simp only [add_plain] at hx585_4 | simp only [add_at] at hx585_4 | simp only [Addr.add, Nat.zero_add] at hx585_4 | skip); (first | simp only [add_plain] at hx585_5 | simp only [add_at] at hx585_5 | simp only [Addr.add, Nat.zero_add] at hx585_5 | skip); (first | simp only [add_plain] at hx585_6 | simp only [add_at] at hx585_6 | simp only [Addr.add, Nat.zero_add] at hx585_6 | skip); (first | simp only [add_plain] at hx585_7 | simp only [add_at] at hx585_7 | simp only [Addr.add, Nat.zero_add] at hx585_7 | skip); replace p585 := eq_true p585; replace q585 := eq_true q585) | (go_at_call 92; (with_reducible refine (impl_IsDevice.calls k2 ((rd_T87 y584 x24_2).f0) ((rd_T87 y584 x24_2).f1) ((rd_T87 y584 x24_2).f2) ((rd_T87 y584 x24_2).f3.f0) ((rd_T87 y584 x24_2).f3.f1) ((rd_T87 y584 x24_2).f4) ((rd_T87 y584 x24_2).f5) ((rd_T87 y584 x24_2).f6) false _ A28.out).mono ?_); rintro e w57 ⟨rfl, hb⟩; have n0_ := am (Kd.R_below u14_8 hb); have n1_ := am (blk_below (g := gb569) (o := zo6 a1_0 a1_1) u14_1 hb); have n2_ := am (blk_below (g := gb579) (o := zo4 (rd_T87 x6_2 x24_2)) u14_5 hb); have n3_ := am (blk_below (g := gb583) (o := zo6 t580 t581) u14_16 hb); have n4_ := am (below_step u14_7 hb); clear HO_6 BK569 BK579 BK583 HB; have HO_6 := n0_; have BK569 := n1_; have BK579 := n2_; have BK583 := n3_; have HB := n4_; clear n0_ n1_ n2_ n3_ n4_; (try clear hb); (try clear hb2); (try clear hk); (try clear hi)) | ((with_reducible refine gate_dst (N := 54) rfl ?_); refine Kd.R_lit k87 _ 87 ?hg (N := 54) ?hd (xs := ([] : List (S87))) (inner := []) (ok := fun _ => True) (okp := fun _ => True) ?hr ?hp (fun _ hk => hk) trivial (Below.refl _ _) (Nat.le_refl _) (by simp) ?_; (case hd => rfl); (case hg => rfl); (case hr => exact gq); (case hp => exact (Reps.none _ _)); intro v588 w58 ho59 hb hg_ hnew_; clear hg_ hnew_; (first | rw [← Ny587.out] at ho59 | (simp only [Int.reduceToNat] at ho59; rw [← Ny587.out] at ho59)); have n0_ := am (Kd.R_elder' u14_8 (Kd.R_base ho59) hb); have n1_ := am (Kd.R_lower (Kd.R_newB (Kd.R_new' ho59 (Kd.R_lt u14_8)) (g := gb579) (o := zo4 (rd_T87 x6_2 x24_2)) u14_5) (below_size u14_7)); have n2_ := am (blk_below (g := gb569) (o := zo6 a1_0 a1_1) u14_1 hb); have n3_ := am (blk_below (g := gb579) (o := zo4 (rd_T87 x6_2 x24_2)) u14_5 hb); have n4_ := am (blk_below (g := gb583) (o := zo6 t580 t581) u14_16 hb); have n5_ := am (below_step u14_7 hb); clear HO_6 BK569 BK579 BK583 HB; have HO_6 := n0_; have HO589 := n1_; have BK569 := n2_; have BK579 := n3_; have BK583 := n4_; have HB := n5_; clear n0_ n1_ n2_ n3_ n4_ n5_ hb ho59))
            go_ret2
            exact ⟨_, by first | rfl | (simp [*] <;> rfl), by (with_reducible repeat (first | apply Kd.R_alloc | apply Kd.R_drewN | apply Kd.R_drew)); exact Kd.R_mono HO589.out (fun _ hk => trivial), s14_0⟩
          ·replace c27 := Bool.eq_false_iff.mpr c27
           subst c27
           have H1 : (some ((([] : List (S87))), false)) = some (r1, r2) := by rw [if_neg (show ¬ (false = true) by decide)] at H; exact H
           clear H
           have H := H1
           clear H1
           obtain ⟨y590, hy590⟩ : ∃ y_ : List (S87), y_ = (([] : List (S87))) := ⟨_, rfl⟩
           replace H : (some (y590, false)) = some (r1, r2) := by first | (rw [hy590]; with_reducible exact H) | (have H2_ := (Option.bind_some _ _).symm.trans H; rw [hy590]; with_reducible exact H2_) | (have H2_ := (Option.bind_some _ _).symm.trans H; with_reducible exact H2_) | with_reducible exact H | (rw [hy590]; exact H) | exact H
           have Ny590 := am hy590
           clear hy590
           simp only [Option.some.injEq, Prod.mk.injEq] at H
           obtain ⟨rfl, rfl⟩ := H
           have p578 : 0 ≤ (x24_2 : Int) := od u14_21
           have q578 : x24_2 < (x6_2.length : Int) := od u14_21
           obtain ⟨ad578, e578, hx578_0, hx578_1, hx578_2, hx578_3, hx578_4, hx578_5, hx578_6, hx578_7⟩ := at_T87 (Kd.R_reads' HO_6.out).2.2 x24_2 p578 q578
           cases e578
           replace p578 := eq_true p578
           replace q578 := eq_true q578
           go_wp2_with (first | ((with_reducible refine gate_dst (N := 8) rfl ?_); refine box_event ?hg (N := 8) ?hd (cs := #[.string (⟨#[]⟩ : ByteArray), .int .i64 0, .string (⟨#[]⟩ : ByteArray), .int .i64 0, .int .i64 0, .int .i64 0, .int .i64 0, .int .i64 0]) (t := 87) ?hr ?_; (case hd => rfl); (case hg => rfl); (case hr => exact gq); intro gb579 hg w60 hbox hb; have n0_ := am (Kd.R_below (Kd.R_elderB u14_8 gb579 (Nat.le_of_eq hg.symm)) hb); have n1_ := am (blk_below (g := gb569) (o := zo6 a1_0 a1_1) u14_1 hb); have n2_ := am (below_step u14_2 hb); have n3_ := am (hbox); have n4_ := bsw w hg (below_size u14_2); have n5_ := bsw w hg (below_size u14_2); have n6_ := am ((by rw [hg]; exact Nat.ne_of_lt (blk_lt (g := gb569) (o := zo6 a1_0 a1_1) u14_1) : gb569 ≠ gb579)); have n7_ := am ((by rw [hg]; exact Nat.ne_of_gt (blk_lt (g := gb569) (o := zo6 a1_0 a1_1) u14_1) : gb579 ≠ gb569)); clear HO_6 BK569 HB; have HO_6 := n0_; have BK569 := n1_; have HB := n2_; have BK579 := n3_; have GW579 := n4_; have GE579 := n5_; have NB569_579 := n6_; have NB579_569 := n7_; clear n0_ n1_ n2_ n3_ n4_ n5_ n6_ n7_ hb hbox hg; have hnb61 := NB579_569.out; have hnc61 := NB569_579.out; obtain ⟨hcz62_0, hcz62_1, hcz62_2, hcz62_3, hcz62_4, hcz62_5, hcz62_6, hcz62_7, hfz62_0, hfz62_1, hfz62_2, hfz62_3, hfz62_4, hfz62_5, hfz62_6, hfz62_7⟩ := cf8 BK579.out; obtain ⟨hcz63_0, hcz63_1, hfz63_0, hfz63_1⟩ := cf2 BK569.out) | ((with_reducible refine gate_callee (f := 96) rfl ?_); refine goesL_ (some 36) rfl rfl Try.func96 (by kernel_rfl) rfl #[.agg #[.int .i64 ((rd_T87 x6_2 x24_2).f3.f0), .int .i64 ((rd_T87 x6_2 x24_2).f3.f1)], .agg #[.int .i64 a1_0, .int .i64 a1_1]] rfl u14_14 ?_; (with_reducible refine (impl_AddPlaces.calls ((rd_T87 x6_2 x24_2).f3.f0) ((rd_T87 x6_2 x24_2).f3.f1) a1_0 a1_1 t580 t581 false _ A25.out).mono ?_); rintro e w64 ⟨rfl, hb⟩; refine ⟨_, rfl, ?_⟩; have n0_ := am (Kd.R_below u14_6 hb); have n1_ := am (blk_below (g := gb569) (o := zo6 a1_0 a1_1) u14_3 hb); have n2_ := am (blk_below (g := gb579) (o := zo4 (rd_T87 x6_2 x24_2)) u14_0 hb); have n3_ := am (below_step u14_4 hb); clear HO_6 BK569 BK579 HB; have HO_6 := n0_; have BK569 := n1_; have BK579 := n2_; have HB := n3_; clear n0_ n1_ n2_ n3_; (try clear hb); (try clear hb2); (try clear hk); (try clear hi)) | ((with_reducible refine gate_dst (N := 9) rfl ?_); refine box_event ?hg (N := 9) ?hd (cs := #[.int .i64 0, .int .i64 0]) (t := 66) ?hr ?_; (case hd => rfl); (case hg => rfl); (case hr => exact gq); intro gb583 hg w65 hbox hb; have n0_ := am (Kd.R_below u14_8 hb); have n1_ := am (blk_below (g := gb569) (o := zo6 a1_0 a1_1) u14_1 hb); have n2_ := am (blk_below (g := gb579) (o := zo4 (rd_T87 x6_2 x24_2)) u14_5 hb); have n3_ := am (below_step u14_4 hb); have n4_ := am (hbox); have n5_ := bsw w hg (below_size u14_4); have n6_ := bsw w hg (below_size u14_4); have n7_ := am ((by rw [hg]; exact Nat.ne_of_lt (blk_lt (g := gb569) (o := zo6 a1_0 a1_1) u14_1) : gb569 ≠ gb583)); have n8_ := am ((by rw [hg]; exact Nat.ne_of_gt (blk_lt (g := gb569) (o := zo6 a1_0 a1_1) u14_1) : gb583 ≠ gb569)); have n9_ := am ((by rw [hg]; exact Nat.ne_of_lt (blk_lt (g := gb579) (o := zo4 (rd_T87 x6_2 x24_2)) u14_5) : gb579 ≠ gb583)); have n10_ := am ((by rw [hg]; exact Nat.ne_of_gt (blk_lt (g := gb579) (o := zo4 (rd_T87 x6_2 x24_2)) u14_5) : gb583 ≠ gb579)); clear HO_6 BK569 BK579 HB; have HO_6 := n0_; have BK569 := n1_; have BK579 := n2_; have HB := n3_; have BK583 := n4_; have GW583 := n5_; have GE583 := n6_; have NB569_583 := n7_; have NB583_569 := n8_; have NB579_583 := n9_; have NB583_579 := n10_; clear n0_ n1_ n2_ n3_ n4_ n5_ n6_ n7_ n8_ n9_ n10_ hb hbox hg; have hnb66 := NB583_569.out; have hnc66 := NB569_583.out; have hnb67 := NB583_579.out; have hnc67 := NB579_583.out; obtain ⟨hcz68_0, hcz68_1, hfz68_0, hfz68_1⟩ := cf2 BK583.out) | ((with_reducible refine gate_store (t := 66) (p := 9) rfl ?_); refine store_event (t := 66) (p := 9) (v := ?vo_w69) (w1 := ((w65.setCell ⟨gb583, 0, none⟩ (.int .i64 t580)).setCell ⟨gb583, 1, none⟩ (.int .i64 t581))) ?hg ?ho ?hn ?hr ?_; (case ho => rfl); (case hg => rfl); (case hn => rfl); (case hr => exact gq); intro w69 hw; have n0_ : Aside0 (Kd.R k87 87 w69 w.heap.size (fun k_ => k_ ≠ gb579) (.slice (some ad578) x6_2.length co17) x6_2) := ⟨u14_18⟩; have n1_ : Aside0 (w69.heap[gb569]? = some (.cells #[.int .i64 a1_0, .int .i64 a1_1] 66 (0, 0))) := ⟨u14_10⟩; have n2_ : Aside0 (w69.heap[gb579]? = some (.cells #[.string ((rd_T87 x6_2 x24_2).f0), .int .i64 ((rd_T87 x6_2 x24_2).f1), .string ((rd_T87 x6_2 x24_2).f2), .int .i64 ((rd_T87 x6_2 x24_2).f3.f0), .int .i64 ((rd_T87 x6_2 x24_2).f3.f1), .int .i64 ((rd_T87 x6_2 x24_2).f4), .int .i64 ((rd_T87 x6_2 x24_2).f5), .int .i64 ((rd_T87 x6_2 x24_2).f6)] 87 (0, 0))) := ⟨u14_9⟩; have n3_ : Aside0 (w69.heap[gb583]? = some (.cells #[.int .i64 t580, .int .i64 t581] 66 (0, 0))) := ⟨u14_15⟩; have n4_ : Aside0 (Below w.heap.size w w69) := ⟨(by rw [hw]; exact u14_7)⟩; clear hw HO_6 BK569 BK579 BK583 HB; have HO_6 := n0_; have BK569 := n1_; have BK579 := n2_; have BK583 := n3_; have HB := n4_; clear n0_ n1_ n2_ n3_ n4_; obtain ⟨hcz70_0, hcz70_1, hfz70_0, hfz70_1⟩ := cf2 BK583.out; have p26 : 0 ≤ (x24_2 : Int) := od u14_21; have q26 : (x24_2 : Int) < ((x6_2.length : Int) : Int) := od u14_21; obtain ⟨go26, co26, eo26, gb26, gl26, cl26, HG26⟩ := Kd.R_form HO_6.out (by omega); (first | cases eo26 | (injection eo26 with ea_ en_ ec_; (first | subst ea_ | (injection ea_ with ea_; subst ea_)); subst ec_; clear en_)); have GB26 := am gb26; have GG26 := am HG26; clear gb26 gl26 HG26; (first | simp only [add_plain] at hx578_0 | skip); (first | simp only [add_plain] at hx578_1 | skip); (first | simp only [add_plain] at hx578_2 | skip); (first | simp only [add_plain] at hx578_3 | skip); (first | simp only [add_plain] at hx578_4 | skip); (first | simp only [add_plain] at hx578_5 | skip); (first | simp only [add_plain] at hx578_6 | skip); (first | simp only [add_plain] at hx578_7 | skip); obtain ⟨ce26, hcl26, hM26, hcc26, hfr26⟩ := Kd.R_elem HO_6.out z87 (x24_2 : Int) p26 q26; obtain rfl := k87_openM hM26; have hx26_0 : w69.cell? ⟨go26, (x24_2 : Int).toNat * 8, none⟩ = some (.string ((rd_T87 x6_2 x24_2).f0)) := hcc26 0 _ rfl; have hx26_1 : w69.cell? ⟨go26, (x24_2 : Int).toNat * 8 + 1, none⟩ = some (.int .i64 ((rd_T87 x6_2 x24_2).f1)) := hcc26 1 _ rfl; have hx26_2 : w69.cell? ⟨go26, (x24_2 : Int).toNat * 8 + 2, none⟩ = some (.string ((rd_T87 x6_2 x24_2).f2)) := hcc26 2 _ rfl; have hx26_3 : w69.cell? ⟨go26, (x24_2 : Int).toNat * 8 + 3, none⟩ = some (.int .i64 ((rd_T87 x6_2 x24_2).f3.f0)) := hcc26 3 _ rfl; have hx26_4 : w69.cell? ⟨go26, (x24_2 : Int).toNat * 8 + 4, none⟩ = some (.int .i64 ((rd_T87 x6_2 x24_2).f3.f1)) := hcc26 4 _ rfl; have hx26_5 : w69.cell? ⟨go26, (x24_2 : Int).toNat * 8 + 5, none⟩ = some (.int .i64 ((rd_T87 x6_2 x24_2).f4)) := hcc26 5 _ rfl; have hx26_6 : w69.cell? ⟨go26, (x24_2 : Int).toNat * 8 + 6, none⟩ = some (.int .i64 ((rd_T87 x6_2 x24_2).f5)) := hcc26 6 _ rfl; have hx26_7 : w69.cell? ⟨go26, (x24_2 : Int).toNat * 8 + 7, none⟩ = some (.int .i64 ((rd_T87 x6_2 x24_2).f6)) := hcc26 7 _ rfl; have hf26_0 : w69.frozen? ⟨go26, (x24_2 : Int).toNat * 8, none⟩ = false := hfr26 0; have hf26_1 : w69.frozen? ⟨go26, (x24_2 : Int).toNat * 8 + 1, none⟩ = false := hfr26 1; have hf26_2 : w69.frozen? ⟨go26, (x24_2 : Int).toNat * 8 + 2, none⟩ = false := hfr26 2; have hf26_3 : w69.frozen? ⟨go26, (x24_2 : Int).toNat * 8 + 3, none⟩ = false := hfr26 3; have hf26_4 : w69.frozen? ⟨go26, (x24_2 : Int).toNat * 8 + 4, none⟩ = false := hfr26 4; have hf26_5 : w69.frozen? ⟨go26, (x24_2 : Int).toNat * 8 + 5, none⟩ = false := hfr26 5; have hf26_6 : w69.frozen? ⟨go26, (x24_2 : Int).toNat * 8 + 6, none⟩ = false := hfr26 6; have hf26_7 : w69.frozen? ⟨go26, (x24_2 : Int).toNat * 8 + 7, none⟩ = false := hfr26 7; clear hcl26 hcc26 hfr26 hM26; replace p26 := eq_true p26; replace q26 := eq_true q26; have HX71 := am (show Kd.R k87 87 w69 w.heap.size (fun k_ => k_ ≠ gb579) (.slice (some ⟨go26, 0, none⟩) x6_2.length co17) x6_2 from u14_8); obtain ⟨ce71, hcl71, hM71, hcc71, hfr71⟩ := Kd.R_elem HX71.out z87 (x24_2 : Int) (od u14_21) (by have h_ : (x24_2 : Int) < ((x6_2.length : Int) : Int) := od u14_21; first | exact h_ | (have e_ := (Kd.R_reads' HO_6.out).1; omega) | simpa using h_); obtain rfl := k87_openM hM71; have HP71 := Kd.R_seg HX71.out (x24_2 : Int) (od u14_21) (by have h_ : (x24_2 : Int) < ((x6_2.length : Int) : Int) := od u14_21; first | exact h_ | (have e_ := (Kd.R_reads' HO_6.out).1; omega) | simpa using h_) (seg := [.int .i64 t580, .int .i64 t581]) (j := 3) hcl71 hcc71 (show 5 ≤ 8 from by decide) (x' := (⟨(rd_T87 x6_2 x24_2).f0, (rd_T87 x6_2 x24_2).f1, (rd_T87 x6_2 x24_2).f2, (⟨t580, t581⟩ : S66), (rd_T87 x6_2 x24_2).f4, (rd_T87 x6_2 x24_2).f5, (rd_T87 x6_2 x24_2).f6⟩ : S87)) (k87_mkM _ _ _ (⟨(rd_T87 x6_2 x24_2).f0, (rd_T87 x6_2 x24_2).f1, (rd_T87 x6_2 x24_2).f2, (⟨t580, t581⟩ : S66), (rd_T87 x6_2 x24_2).f4, (rd_T87 x6_2 x24_2).f5, (rd_T87 x6_2 x24_2).f6⟩ : S87) ) (fun _ hk => hk); have hx71_3 := hcc71 3 _ rfl; (try simp only [show (k87).sz = 8 from rfl, Nat.mul_one, Nat.add_zero] at hx71_3); have hf71_3 := hfr71 3; (try simp only [show (k87).sz = 8 from rfl, Nat.mul_one, Nat.add_zero] at hf71_3); have hx71_4 := hcc71 4 _ rfl; (try simp only [show (k87).sz = 8 from rfl, Nat.mul_one, Nat.add_zero] at hx71_4); have hf71_4 := hfr71 4; (try simp only [show (k87).sz = 8 from rfl, Nat.mul_one, Nat.add_zero] at hf71_4); clear hcl71 hcc71 hfr71 hM71) | ((with_reducible refine gate_store (t := 66) (p := 43) rfl ?_); refine store_event (t := 66) (p := 43) (v := ?vo_w72) (w1 := ((w69.setCell ⟨go26, (x24_2 : Int).toNat * 8 + 3, none⟩ (.int .i64 t580)).setCell ⟨go26, (x24_2 : Int).toNat * 8 + 4, none⟩ (.int .i64 t581))) ?hg ?ho ?hn ?hr ?_; (case ho => rfl); (case hg => rfl); (case hn => rfl); (case hr => exact gq); intro w72 hw; have hg : w69.grownBy w72 (some go26) := (by rw [hw]; exact HP71.2); have hp_ : Kd.R k87 87 w72 w.heap.size (fun k_ => k_ ≠ gb579) (.slice (some ⟨go26, 0, none⟩) x6_2.length co17) y584 := (by rw [hw, Ny584.out]; exact HP71.1); clear HP71; have n0_ := am (hp_); have n1_ := am (blk_grown (g := gb569) (o := zo6 a1_0 a1_1) u14_1 hg (Kd.R_ne HO_6.out BK569.out (by decide))); have n2_ := am (blk_grown (g := gb579) (o := zo4 (rd_T87 x6_2 x24_2)) u14_5 hg (Kd.R_away HO_6.out (fun _ hk => hk))); have n3_ := am (blk_grown (g := gb583) (o := zo6 t580 t581) u14_16 hg (Kd.R_ne HO_6.out BK583.out (by decide))); have n4_ := am ((by rw [hw]; exact below_set (below_set (HB.out) GB26.out) GB26.out : Below w.heap.size w w72)); clear HO_6 BK569 BK579 BK583 HB; have HO_6 := n0_; have BK569 := n1_; have BK579 := n2_; have BK583 := n3_; have HB := n4_; clear n0_ n1_ n2_ n3_ n4_ hg hw hp_) | ((with_reducible refine gate_dst (N := 54) rfl ?_); refine Kd.R_lit k87 _ 87 ?hg (N := 54) ?hd (xs := ([] : List (S87))) (inner := []) (ok := fun _ => True) (okp := fun _ => True) ?hr ?hp (fun _ hk => hk) trivial (Below.refl _ _) (Nat.le_refl _) (by simp) ?_; (case hd => rfl); (case hg => rfl); (case hr => exact gq); (case hp => exact (Reps.none _ _)); intro v591 w73 ho74 hb hg_ hnew_; clear hg_ hnew_; (first | rw [← Ny590.out] at ho74 | (simp only [Int.reduceToNat] at ho74; rw [← Ny590.out] at ho74)); have n0_ := am (Kd.R_elder' u14_8 (Kd.R_base ho74) hb); have n1_ := am (Kd.R_lower (Kd.R_newB (Kd.R_new' ho74 (Kd.R_lt u14_8)) (g := gb579) (o := zo4 (rd_T87 x6_2 x24_2)) u14_5) (below_size u14_7)); have n2_ := am (blk_below (g := gb569) (o := zo6 a1_0 a1_1) u14_1 hb); have n3_ := am (blk_below (g := gb579) (o := zo4 (rd_T87 x6_2 x24_2)) u14_5 hb); have n4_ := am (blk_below (g := gb583) (o := zo6 t580 t581) u14_16 hb); have n5_ := am (below_step u14_7 hb); clear HO_6 BK569 BK579 BK583 HB; have HO_6 := n0_; have HO592 := n1_; have BK569 := n2_; have BK579 := n3_; have BK583 := n4_; have HB := n5_; clear n0_ n1_ n2_ n3_ n4_ n5_ hb ho74))
           go_ret2
           exact ⟨_, by first | rfl | (simp [*] <;> rfl), by (with_reducible repeat (first | apply Kd.R_alloc | apply Kd.R_drewN | apply Kd.R_drew)); exact Kd.R_mono HO592.out (fun _ hk => trivial), s14_0⟩
        ·rw [if_neg c20] at H
         exact absurd H (by simp)
       ·rw [if_neg c19] at H
        exact absurd H (by simp)
      ·rw [if_neg c18] at H
       have c18b0 : decide (x24_2 < (t575.length : Int)) = false := decide_eq_false c18
       (try simp only [hl6_2] at c18b0)
       clear c18
       simp only [Option.some.injEq, Prod.mk.injEq] at H
       obtain ⟨rfl, rfl⟩ := H
       go_wp2
       go_ret2
       exact ⟨_, by first | rfl | (simp [*] <;> rfl), by (with_reducible repeat (first | apply Kd.R_alloc | apply Kd.R_drewN | apply Kd.R_drew)); exact HO_6.out, s14_1⟩

mutual
def impl_PumpOf.j0 : Nat → List (S87) → Int → Bool → Option (ByteArray)
 | 0, _, _, _ => none
 | k + 1, x0, x5, x15 => if x15 = true then (some (⟨#[]⟩ : ByteArray)) else (impl_PumpOf.l0 k x0 x5)
def impl_PumpOf.l0 : Nat → List (S87) → Int → Option (ByteArray)
 | 0, _, _ => none
 | k + 1, x0, x5 => if 0 ≤ x5 then (if x5 < (x0.length : Int) then (if ((rd_T87 x0 x5).f2).toList = ([] : List UInt8) then (some ((rd_T87 x0 x5).f0)) else ((impl_FindDevice.f k x0 ((rd_T87 x0 x5).f2)).bind fun t598 => (impl_PumpOf.l0 k x0 t598))) else (none)) else (none)
end
def impl_PumpOf.f (k : Nat) (l0 : List (S87)) (a1 : ByteArray) : Option (ByteArray) := (impl_FindDevice.f k l0 a1).bind fun t593 => ((impl_IsRig.f k l0).bind fun t594 => (if t594 = true then (impl_PumpOf.j0 k l0 t593 (decide (t593 < 0))) else (impl_PumpOf.j0 k l0 t593 true)))
theorem impl_PumpOf.mono_l : ∀ k, (∀ y0 y1 y2, LeO (impl_PumpOf.j0 k y0 y1 y2) (impl_PumpOf.j0 (k + 1) y0 y1 y2)) ∧ (∀ y0 y1, LeO (impl_PumpOf.l0 k y0 y1) (impl_PumpOf.l0 (k + 1) y0 y1))
 | 0 => ⟨fun _ _ _ r h => by simp [impl_PumpOf.j0] at h, fun _ _ r h => by simp [impl_PumpOf.l0] at h⟩
 | k + 1 => by
  obtain ⟨ih0, ih1⟩ := impl_PumpOf.mono_l k
  refine ⟨?_, ?_⟩
  ·intro y0 y1 y2
   unfold impl_PumpOf.j0
   repeat' first
   | (with_reducible exact ih0 _ _ _)
   | (with_reducible exact ih1 _ _)
   | (with_reducible exact impl_FindDevice.mono _ _ _)
   | (with_reducible exact impl_IsRig.mono _ _)
   | (with_reducible exact LeO.refl _)
   | (with_reducible exact LeO.none _)
   | (with_reducible refine LeO.ite ?_ ?_)
   | (with_reducible refine LeO.bind ?_ (fun _ => ?_))
  ·intro y0 y1
   unfold impl_PumpOf.l0
   repeat' first
   | (with_reducible exact ih0 _ _ _)
   | (with_reducible exact ih1 _ _)
   | (with_reducible exact impl_FindDevice.mono _ _ _)
   | (with_reducible exact impl_IsRig.mono _ _)
   | (with_reducible exact LeO.refl _)
   | (with_reducible exact LeO.none _)
   | (with_reducible refine LeO.ite ?_ ?_)
   | (with_reducible refine LeO.bind ?_ (fun _ => ?_))
theorem impl_PumpOf.mono : ∀ a0 a1 k, LeO (impl_PumpOf.f k a0 a1) (impl_PumpOf.f (k + 1) a0 a1) := by
 intro a0 a1 k
 obtain ⟨ih0, ih1⟩ := impl_PumpOf.mono_l k
 unfold impl_PumpOf.f
 repeat' first
   | (with_reducible exact ih0 _ _ _)
   | (with_reducible exact ih1 _ _)
   | (with_reducible exact impl_FindDevice.mono _ _ _)
   | (with_reducible exact impl_IsRig.mono _ _)
   | (with_reducible exact LeO.refl _)
   | (with_reducible exact LeO.none _)
   | (with_reducible refine LeO.ite ?_ ?_)
   | (with_reducible refine LeO.bind ?_ (fun _ => ?_))
set_option maxHeartbeats 8000000 in
set_option maxRecDepth 100000 in
theorem impl_PumpOf.calls (k : Nat) (A0 : Option Addr) (c0 : Nat) (l0 : List (S87)) (a1 : ByteArray) (r : ByteArray) (w : World) (hr0 : Kd.C k87 w A0 l0.length l0) (hc0 : l0.length ≤ c0) (h : impl_PumpOf.f k l0 a1 = some r) :
  Calls Try.prog 53 #[.slice A0 l0.length c0, .string a1] w fun e w' => e = .returned (.string r) ∧ Below w.heap.size w w' := by
 have HR0 := am hr0
 have HC0 := am hc0
 clear hr0 hc0
 have HB := am (Below.refl w.heap.size w)
 have H : ((impl_FindDevice.f k l0 a1).bind fun t593 => ((impl_IsRig.f k l0).bind fun t594 => (if t594 = true then (impl_PumpOf.j0 k l0 t593 (decide (t593 < 0))) else (impl_PumpOf.j0 k l0 t593 true)))) = some r := h
 clear h
 replace H := Option.bind_eq_some_iff.mp H
 obtain ⟨t593, A30, H⟩ := H
 replace H : ((impl_IsRig.f k l0).bind fun t594 => (if t594 = true then (impl_PumpOf.j0 k l0 t593 (decide (t593 < 0))) else (impl_PumpOf.j0 k l0 t593 true))) = some r := H
 have A3 := am A30
 clear A30
 have HC4 := am H
 clear H
 go_enter Try.func53, Try.ntmps53
 go_upto_region 2 with (first | ((with_reducible refine gate_callee (f := 97) rfl ?_); refine goesL_ (some 8) rfl rfl Try.func97 (by kernel_rfl) rfl #[.slice A0 l0.length c0, .string a1] rfl u14_14 ?_; (with_reducible refine (impl_FindDevice.calls k _ _ l0 a1 t593 _ ?side1 ?side2 A3.out).mono ?_); (case side1 => repeat (first | exact HR0.out | (with_reducible refine Kd.C_alloc ?_ _) | (with_reducible refine Kd.C_drewN ?_ _) | (with_reducible refine Kd.C_drew ?_))); (case side2 => exact HC0.out); rintro e w5 ⟨rfl, hb⟩; refine ⟨_, rfl, ?_⟩; have n0_ := am (below_step u14_11 hb); clear HB; have HB := n0_; clear n0_; (try clear hb); (try clear hb2); (try clear hk); (try clear hi)))
 (try simp only [Act.put, List.setIfInBounds_toArray, List.set_cons_zero, List.set_cons_succ])
 go_cut [15] (fun v15 wc => ∃ (kq : Nat) (x15_3 : Bool), v15 = .bool x15_3 ∧ Aside0 (impl_PumpOf.j0 kq l0 t593 x15_3 = some r) ∧ Aside0 (kq ≤ k) ∧ Aside0 (Below w.heap.size w wc))
 case first =>
  have H := HC4.out
  clear HC4
  replace H := Option.bind_eq_some_iff.mp H
  obtain ⟨t594, A60, H⟩ := H
  replace H : (if t594 = true then (impl_PumpOf.j0 k l0 t593 (decide (t593 < 0))) else (impl_PumpOf.j0 k l0 t593 true)) = some r := H
  have A6 := am A60
  clear A60
  by_cases c7 : t594 = true
  ·subst c7
   have H1 : (impl_PumpOf.j0 k l0 t593 (decide (t593 < 0))) = some r := by rw [if_pos rfl] at H; exact H
   clear H
   have H := H1
   clear H1
   have H' := am H
   clear H
   go_wp2_with (first | ((with_reducible refine gate_callee (f := 50) rfl ?_); refine goesL_ (some 10) rfl rfl Try.func50 (by kernel_rfl) rfl #[.slice A0 l0.length c0] rfl u14_14 ?_; (with_reducible refine (impl_IsRig.calls k _ _ l0 true _ ?side1 ?side2 A6.out).mono ?_); (case side1 => exact y14_0); (case side2 => exact HC0.out); rintro e w8 ⟨rfl, hb⟩; refine ⟨_, rfl, ?_⟩; have n0_ := am (below_step u14_11 hb); clear HB; have HB := n0_; clear n0_; (try clear hb); (try clear hb2); (try clear hk); (try clear hi)))
   go_meet
   case rel => exact ⟨_, (decide (t593 < 0)), u14_22, H', ⟨by first | omega | exact Nat.le_refl _⟩, ⟨s14_2⟩⟩
  ·replace c7 := Bool.eq_false_iff.mpr c7
   subst c7
   have H1 : (impl_PumpOf.j0 k l0 t593 true) = some r := by rw [if_neg (show ¬ (false = true) by decide)] at H; exact H
   clear H
   have H := H1
   clear H1
   have H' := am H
   clear H
   go_wp2_with (first | ((with_reducible refine gate_callee (f := 50) rfl ?_); refine goesL_ (some 10) rfl rfl Try.func50 (by kernel_rfl) rfl #[.slice A0 l0.length c0] rfl u14_14 ?_; (with_reducible refine (impl_IsRig.calls k _ _ l0 false _ ?side1 ?side2 A6.out).mono ?_); (case side1 => exact y14_0); (case side2 => exact HC0.out); rintro e w9 ⟨rfl, hb⟩; refine ⟨_, rfl, ?_⟩; have n0_ := am (below_step u14_11 hb); clear HB; have HB := n0_; clear n0_; (try clear hb); (try clear hb2); (try clear hk); (try clear hi)))
   go_meet
   case rel => exact ⟨_, (true), u14_22, H', ⟨by first | omega | exact Nat.le_refl _⟩, ⟨s14_2⟩⟩
 case rest =>
  clear HC4
  try clear p2
  try clear c5
  try clear c7
  try clear c9
  obtain ⟨kq, x15_3, rfl, HA, HJ3, HB⟩ := hcut
  cases kq with
  | zero => exact absurd HA.out (by simp [impl_PumpOf.j0])
  | succ kj3 =>
   have H := HA.out
   clear HA
   simp only [impl_PumpOf.j0] at H
   by_cases c10 : x15_3 = true
   ·subst c10
    have H1 : (some (⟨#[]⟩ : ByteArray)) = some r := by rw [if_pos rfl] at H; exact H
    clear H
    have H := H1
    clear H1
    obtain rfl := Option.some.inj H
    go_wp2
    go_ret
    exact ⟨by first | rfl | (simp [*] <;> rfl), s14_2⟩
   ·replace c10 := Bool.eq_false_iff.mpr c10
    subst c10
    have H1 : (impl_PumpOf.l0 kj3 l0 t593) = some r := by rw [if_neg (show ¬ (false = true) by decide)] at H; exact H
    clear H
    have H := H1
    clear H1
    have H' := am H
    clear H
    go_wp2
    go_loopg [5] kj3 (fun kq v5 w' => ∃ (x5_2 : Int), v5 = .int .i64 x5_2 ∧ Aside0 (impl_PumpOf.l0 kq l0 x5_2 = some r) ∧ Aside0 (kq ≤ kj3) ∧ Aside0 (Below w.heap.size w w'))
    case atStart => exact ⟨(t593), u14_22, H', ⟨Nat.le_refl _⟩, ⟨s14_2⟩⟩
    case round =>
     clear H'
     try clear c1
     try clear p2
     try clear c5
     try clear c7
     try clear c9
     try clear c10
     try clear p2
     obtain ⟨x5_2, rfl, HA, HK2, HB⟩ := hrel
     cases gk with
     | zero => exact absurd HA.out (by simp [impl_PumpOf.l0])
     | succ k2 =>
      have H := HA.out
      clear HA
      simp only [impl_PumpOf.l0] at H
      by_cases c11 : 0 ≤ x5_2
      ·rw [if_pos c11] at H
       have c11b0 : decide (0 ≤ x5_2) = true := decide_eq_true c11
       clear c11
       by_cases c12 : x5_2 < (l0.length : Int)
       ·rw [if_pos c12] at H
        have c12b0 : decide (x5_2 < (l0.length : Int)) = true := decide_eq_true c12
        clear c12
        by_cases c13 : ((rd_T87 l0 x5_2).f2).toList = ([] : List UInt8)
        ·rw [if_pos c13] at H
         have c13b0 : (((rd_T87 l0 x5_2).f2).toList == ([] : List UInt8)) = true := beq_iff_eq.mpr c13
         have c13b1 : (((rd_T87 l0 x5_2).f2).toList != ([] : List UInt8)) = false := bne_eq_false_iff_eq.mpr c13
         clear c13
         obtain rfl := Option.some.inj H
         have p595 : 0 ≤ (x5_2 : Int) := od u14_21
         have q595 : x5_2 < (l0.length : Int) := od u14_21
         obtain ⟨ad595, e595, hx595_0, hx595_1, hx595_2, hx595_3, hx595_4, hx595_5, hx595_6, hx595_7⟩ := at_T87 (Kd.C_below HR0.out HB.out) x5_2 p595 q595
         cases e595
         replace p595 := eq_true p595
         replace q595 := eq_true q595
         have p596 : 0 ≤ (x5_2 : Int) := od u14_21
         have q596 : x5_2 < (l0.length : Int) := od u14_21
         obtain ⟨ad596, e596, hx596_0, hx596_1, hx596_2, hx596_3, hx596_4, hx596_5, hx596_6, hx596_7⟩ := at_T87 HR0.out x5_2 p596 q596
         obtain rfl : ad595 = ad596 := (by injection e596)
         replace hx596_0 := bc HB.out hx596_0
         replace hx596_1 := bc HB.out hx596_1
         replace hx596_2 := bc HB.out hx596_2
         replace hx596_3 := bc HB.out hx596_3
         replace hx596_4 := bc HB.out hx596_4
         replace hx596_5 := bc HB.out hx596_5
         replace hx596_6 := bc HB.out hx596_6
         replace hx596_7 := bc HB.out hx596_7
         replace p596 := eq_true p596
         replace q596 := eq_true q596
         go_wp2
         go_ret
         exact ⟨by first | rfl | (simp [*] <;> rfl), s14_2⟩
        ·rw [if_neg c13] at H
         have c13b0 : (((rd_T87 l0 x5_2).f2).toList == ([] : List UInt8)) = false := beq_eq_false_iff_ne.mpr c13
         have c13b1 : (((rd_T87 l0 x5_2).f2).toList != ([] : List UInt8)) = true := bne_iff_ne.mpr c13
         replace H := Option.bind_eq_some_iff.mp H
         obtain ⟨t598, A140, H⟩ := H
         replace H : (impl_PumpOf.l0 k2 l0 t598) = some r := H
         have A14 := am A140
         clear A140
         have H' := am H
         clear H
         have p595 : 0 ≤ (x5_2 : Int) := od u14_21
         have q595 : x5_2 < (l0.length : Int) := od u14_21
         obtain ⟨ad595, e595, hx595_0, hx595_1, hx595_2, hx595_3, hx595_4, hx595_5, hx595_6, hx595_7⟩ := at_T87 (Kd.C_below HR0.out HB.out) x5_2 p595 q595
         cases e595
         replace p595 := eq_true p595
         replace q595 := eq_true q595
         have p597 : 0 ≤ (x5_2 : Int) := od u14_21
         have q597 : x5_2 < (l0.length : Int) := od u14_21
         obtain ⟨ad597, e597, hx597_0, hx597_1, hx597_2, hx597_3, hx597_4, hx597_5, hx597_6, hx597_7⟩ := at_T87 HR0.out x5_2 p597 q597
         obtain rfl : ad595 = ad597 := (by injection e597)
         replace hx597_0 := bc HB.out hx597_0
         replace hx597_1 := bc HB.out hx597_1
         replace hx597_2 := bc HB.out hx597_2
         replace hx597_3 := bc HB.out hx597_3
         replace hx597_4 := bc HB.out hx597_4
         replace hx597_5 := bc HB.out hx597_5
         replace hx597_6 := bc HB.out hx597_6
         replace hx597_7 := bc HB.out hx597_7
         replace p597 := eq_true p597
         replace q597 := eq_true q597
         go_wp2_with (first | ((with_reducible refine gate_callee (f := 97) rfl ?_); refine goesL_ (some 28) rfl rfl Try.func97 (by kernel_rfl) rfl #[.slice (some ad595) l0.length c0, .string ((rd_T87 l0 x5_2).f2)] rfl u14_14 ?_; (with_reducible refine (impl_FindDevice.calls k2 _ _ l0 ((rd_T87 l0 x5_2).f2) t598 _ ?side1 ?side2 A14.out).mono ?_); (case side1 => exact y14_0); (case side2 => exact HC0.out); rintro e w15 ⟨rfl, hb⟩; refine ⟨_, rfl, ?_⟩; have n0_ := am (below_step u14_11 hb); clear HB; have HB := n0_; clear n0_; (try clear hb); (try clear hb2); (try clear hk); (try clear hi)))
         go_roundg k2
         case measure => have := HJ3.out; have := HK2.out; omega
         case rel => exact ⟨(t598), u14_22, H', ⟨by have := HJ3.out; have := HK2.out; omega⟩, ⟨s14_2⟩⟩
       ·rw [if_neg c12] at H
        exact absurd H (by simp)
      ·rw [if_neg c11] at H
       exact absurd H (by simp)

end Go.Proofs.Ytkljnmojnkiafaa.MFnMovedRig
