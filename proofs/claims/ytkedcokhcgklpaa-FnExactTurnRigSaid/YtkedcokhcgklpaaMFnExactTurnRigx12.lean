-- Written by a program for this claim.
import Derived.Test.YtkedcokhcgklpaaMFnExactTurnRigx0
import Derived.Test.YtkedcokhcgklpaaMFnExactTurnRigx2
import Derived.Test.YtkedcokhcgklpaaMFnExactTurnRigx3
import Derived.Test.YtkedcokhcgklpaaMFnExactTurnRigx4
import Derived.Test.YtkedcokhcgklpaaMFnExactTurnRigx8
import Derived.Test.YtkedcokhcgklpaaMFnExactTurnRigx9
import Derived.Test.YtkedcokhcgklpaaMFnExactTurnRigx11
namespace Go.Proofs.Ytkedcokhcgklpaa.MFnExactTurnRig
open Go.RowKit Go.Proofs.YtkedcokhcgklpaaW.PrintWords Go.Proofs.YtkedcokhcgklpaaW.PrintLast Go.Proofs.YtkedcokhcgklpaaW.PrintMore
attribute [local go_sem] max2_int min2_int max_two min_two max_three min_three max_four min_four   -- for this text's walks alone
set_option linter.unusedVariables false
set_option linter.unusedSimpArgs false

theorem u12_0 {p : Prop} (h : p := by repeat (first | (with_reducible first | exact HB.out | apply below_alloc | apply pw_below_drewN | apply below_drew1) | exact HB.out)) : p := h
theorem u12_1 {p : Prop} (h : p := by (try simp only [List.map_toArray, List.map_cons, List.map_nil]); first | done | rfl) : p := h
theorem u12_2 {p : Prop} (h : p := by (with_reducible repeat (first | apply Kd.R_alloc | apply Kd.R_drewN | apply Kd.R_drew)); exact HO_8.out) : p := h
theorem u12_3 {p : Prop} (h : p := by (with_reducible repeat (first | apply Kd.R_alloc | apply Kd.R_drewN | apply Kd.R_drew)); exact HO_6.out) : p := h
theorem u12_4 {p : Prop} (h : p := by (with_reducible repeat (first | apply Kd.R_alloc | apply Kd.R_drewN | apply Kd.R_drew)); exact HO284.out) : p := h
theorem u12_5 {p : Prop} (h : p := by (with_reducible repeat (first | apply Kd.R_alloc | apply Kd.R_drewN | apply Kd.R_drew)); exact HO287.out) : p := h
theorem u12_6 {p : Prop} (h : p := by (with_reducible repeat (first | refine blk_drewN ?_ _ | refine blk_drew ?_ | refine blk_alloc ?_ _)); refine blk_put (cs := #[.string ((rd_T30 l0 x15_1).f0), .int .i64 ((rd_T30 l0 x15_1).f1), .string ((rd_T30 l0 x15_1).f2), .int .i64 ((rd_T30 l0 x15_1).f3.f0), .int .i64 ((rd_T30 l0 x15_1).f3.f1), .int .i64 ((rd_T30 l0 x15_1).f4), .int .i64 ((rd_T30 l0 x15_1).f5), .int .i64 0]) ?_ 7 _ rfl; refine blk_put (cs := #[.string ((rd_T30 l0 x15_1).f0), .int .i64 ((rd_T30 l0 x15_1).f1), .string ((rd_T30 l0 x15_1).f2), .int .i64 ((rd_T30 l0 x15_1).f3.f0), .int .i64 ((rd_T30 l0 x15_1).f3.f1), .int .i64 ((rd_T30 l0 x15_1).f4), .int .i64 0, .int .i64 0]) ?_ 6 _ rfl; refine blk_put (cs := #[.string ((rd_T30 l0 x15_1).f0), .int .i64 ((rd_T30 l0 x15_1).f1), .string ((rd_T30 l0 x15_1).f2), .int .i64 ((rd_T30 l0 x15_1).f3.f0), .int .i64 ((rd_T30 l0 x15_1).f3.f1), .int .i64 0, .int .i64 0, .int .i64 0]) ?_ 5 _ rfl; refine blk_put (cs := #[.string ((rd_T30 l0 x15_1).f0), .int .i64 ((rd_T30 l0 x15_1).f1), .string ((rd_T30 l0 x15_1).f2), .int .i64 ((rd_T30 l0 x15_1).f3.f0), .int .i64 0, .int .i64 0, .int .i64 0, .int .i64 0]) ?_ 4 _ rfl; refine blk_put (cs := #[.string ((rd_T30 l0 x15_1).f0), .int .i64 ((rd_T30 l0 x15_1).f1), .string ((rd_T30 l0 x15_1).f2), .int .i64 0, .int .i64 0, .int .i64 0, .int .i64 0, .int .i64 0]) ?_ 3 _ rfl; refine blk_put (cs := #[.string ((rd_T30 l0 x15_1).f0), .int .i64 ((rd_T30 l0 x15_1).f1), .string (⟨#[]⟩ : ByteArray), .int .i64 0, .int .i64 0, .int .i64 0, .int .i64 0, .int .i64 0]) ?_ 2 _ rfl; (with_reducible repeat (first | refine blk_drewN ?_ _ | refine blk_drew ?_ | refine blk_alloc ?_ _)); refine blk_put (cs := #[.string ((rd_T30 l0 x15_1).f0), .int .i64 0, .string (⟨#[]⟩ : ByteArray), .int .i64 0, .int .i64 0, .int .i64 0, .int .i64 0, .int .i64 0]) ?_ 1 _ rfl; (with_reducible repeat (first | refine blk_drewN ?_ _ | refine blk_drew ?_ | refine blk_alloc ?_ _)); refine blk_put (cs := #[.string (⟨#[]⟩ : ByteArray), .int .i64 0, .string (⟨#[]⟩ : ByteArray), .int .i64 0, .int .i64 0, .int .i64 0, .int .i64 0, .int .i64 0]) ?_ 0 _ rfl; (with_reducible repeat (first | refine blk_drewN ?_ _ | refine blk_drew ?_ | refine blk_alloc ?_ _)); exact BK271.out) : p := h
theorem u12_7 {p : Prop} (h : p := by (try simp only [List.map_toArray, List.map_cons, List.map_nil]); first | done | (rw [show t303.length = t291.length from (Kd.R_reads' HO_8.out).1.symm] <;> rfl) | rfl | (simp only [List.length_drop, List.length_take]; rfl)) : p := h
theorem u12_8 {p : Prop} (h : p := by (with_reducible repeat (first | apply Kd.R_alloc | apply Kd.R_drewN | apply Kd.R_drew)); exact HO290.out) : p := h
theorem u12_9 {p : Prop} (h : p := by (with_reducible repeat (first | apply Kd.R_alloc | apply Kd.R_drewN | apply Kd.R_drew)); exact HO307.out) : p := h
theorem u12_10 {p : Prop} (h : p := by (with_reducible repeat (first | refine blk_drewN ?_ _ | refine blk_drew ?_ | refine blk_alloc ?_ _)); refine blk_put (cs := #[.string ((rd_T30 l0 x15_1).f0), .int .i64 ((rd_T30 l0 x15_1).f1), .string ((rd_T30 l0 x15_1).f2), .int .i64 t272, .int .i64 t273, .int .i64 ((rd_T30 l0 x15_1).f4), .int .i64 ((rd_T30 l0 x15_1).f5), .int .i64 ((rd_T30 l0 x15_1).f6)]) ?_ 5 _ rfl; refine blk_put (cs := #[.string ((rd_T30 l0 x15_1).f0), .int .i64 ((rd_T30 l0 x15_1).f1), .string ((rd_T30 l0 x15_1).f2), .int .i64 t272, .int .i64 ((rd_T30 l0 x15_1).f3.f1), .int .i64 ((rd_T30 l0 x15_1).f4), .int .i64 ((rd_T30 l0 x15_1).f5), .int .i64 ((rd_T30 l0 x15_1).f6)]) ?_ 4 _ rfl; refine blk_put (cs := #[.string ((rd_T30 l0 x15_1).f0), .int .i64 ((rd_T30 l0 x15_1).f1), .string ((rd_T30 l0 x15_1).f2), .int .i64 ((rd_T30 l0 x15_1).f3.f0), .int .i64 ((rd_T30 l0 x15_1).f3.f1), .int .i64 ((rd_T30 l0 x15_1).f4), .int .i64 ((rd_T30 l0 x15_1).f5), .int .i64 ((rd_T30 l0 x15_1).f6)]) ?_ 3 _ rfl; (with_reducible repeat (first | refine blk_drewN ?_ _ | refine blk_drew ?_ | refine blk_alloc ?_ _)); exact BK271.out) : p := h
theorem u12_11 {p : Prop} (h : p := by (with_reducible repeat (first | apply Kd.R_alloc | apply Kd.R_drewN | apply Kd.R_drew)); exact HO293.out) : p := h
theorem u12_12 {p : Prop} (h : p := by (with_reducible repeat (first | apply Kd.R_alloc | apply Kd.R_drewN | apply Kd.R_drew)); exact (Kd.R_mono (Kd.R_far (p := ⟨gb271, 7, none⟩) (Kd.R_far (p := ⟨gb271, 6, none⟩) (Kd.R_far (p := ⟨gb271, 5, none⟩) (Kd.R_far (p := ⟨gb271, 4, none⟩) (Kd.R_far (p := ⟨gb271, 3, none⟩) (Kd.R_far (p := ⟨gb271, 2, none⟩) (Kd.R_far (p := ⟨gb271, 1, none⟩) (Kd.R_far (p := ⟨gb271, 0, none⟩) (Kd.R_mono HO_5.out (fun k_ hk => (⟨hk, hk.2⟩ : _ ∧ k_ ≠ gb271))) (fun _ hk => hk.2) (.string ((rd_T30 l0 x15_1).f0))) (fun _ hk => hk.2) (.int .i64 ((rd_T30 l0 x15_1).f1))) (fun _ hk => hk.2) (.string ((rd_T30 l0 x15_1).f2))) (fun _ hk => hk.2) (.int .i64 ((rd_T30 l0 x15_1).f3.f0))) (fun _ hk => hk.2) (.int .i64 ((rd_T30 l0 x15_1).f3.f1))) (fun _ hk => hk.2) (.int .i64 ((rd_T30 l0 x15_1).f4))) (fun _ hk => hk.2) (.int .i64 ((rd_T30 l0 x15_1).f5))) (fun _ hk => hk.2) (.int .i64 ((rd_T30 l0 x15_1).f6))) (fun _ h_ => h_.1))) : p := h
theorem u12_13 {p : Prop} (h : p := by repeat (first | (with_reducible first | exact HB.out | apply below_alloc | apply pw_below_drewN | apply below_drew1 | refine below_set ?_ GE271.out) | exact HB.out)) : p := h
theorem u12_14 {p : Prop} (h : p := by (with_reducible repeat (first | refine blk_drewN ?_ _ | refine blk_drew ?_ | refine blk_alloc ?_ _)); refine blk_put (cs := #[.string ((rd_T30 l0 x15_1).f0), .int .i64 ((rd_T30 l0 x15_1).f1), .string ((rd_T30 l0 x15_1).f2), .int .i64 t272, .int .i64 ((rd_T30 l0 x15_1).f3.f1), .int .i64 ((rd_T30 l0 x15_1).f4), .int .i64 ((rd_T30 l0 x15_1).f5), .int .i64 ((rd_T30 l0 x15_1).f6)]) ?_ 4 _ rfl; refine blk_put (cs := #[.string ((rd_T30 l0 x15_1).f0), .int .i64 ((rd_T30 l0 x15_1).f1), .string ((rd_T30 l0 x15_1).f2), .int .i64 ((rd_T30 l0 x15_1).f3.f0), .int .i64 ((rd_T30 l0 x15_1).f3.f1), .int .i64 ((rd_T30 l0 x15_1).f4), .int .i64 ((rd_T30 l0 x15_1).f5), .int .i64 ((rd_T30 l0 x15_1).f6)]) ?_ 3 _ rfl; (with_reducible repeat (first | refine blk_drewN ?_ _ | refine blk_drew ?_ | refine blk_alloc ?_ _)); exact BK271.out) : p := h
theorem u12_15 {p : Prop} (h : p := by (with_reducible repeat (first | apply Kd.R_alloc | apply Kd.R_drewN | apply Kd.R_drew)); exact HO310.out) : p := h
theorem u12_16 {p : Prop} (h : p := by repeat (first | (with_reducible first | exact HB.out | apply below_alloc | apply pw_below_drewN | apply below_drew1 | refine below_set ?_ GE261.out) | exact HB.out)) : p := h
theorem u12_17 {p : Prop} (h : p := by first | rfl | (simp; done) | (simp [*]; done)) : p := h
theorem u12_18 {p : Prop} (h : p := by (with_reducible repeat (first | refine blk_drewN ?_ _ | refine blk_drew ?_ | refine blk_alloc ?_ _)); exact BK261.out) : p := h
theorem u12_19 {p : Prop} (h : p := by (with_reducible repeat (first | apply Kd.R_alloc | apply Kd.R_drewN | apply Kd.R_drew)); exact HO297.out) : p := h
/-! ### impl_turns: function 92 -/
def impl_turns.f (a0 : Int) : Option (Int) := some (Int.tmod (wrap64 ((Int.tmod a0 4) + 4)) 4)
set_option maxHeartbeats 8000000 in
set_option maxRecDepth 100000 in
theorem impl_turns.calls (a0 : Int) (r : Int) (w : World) (h : impl_turns.f a0 = some r) :
  Calls Try.prog 92 #[.int .i64 a0] w fun e w' => e = .returned (.int .i64 r) ∧ Drawn0 w w' := by
 have H : (some (Int.tmod (wrap64 ((Int.tmod a0 4) + 4)) 4)) = some r := h
 clear h
 obtain rfl := Option.some.inj H
 go_enter Try.func92, Try.ntmps92
 go_wp2
 go_ret
 exact ⟨by first | rfl | (simp; done) | (simp [*]; done), by repeat (first | exact Drawn0.refl _ | apply Drawn0.step)⟩

/-! ### impl_turned: function 73 -/
def impl_turned.l0 : Nat → Int → Int → Int → Int → Option (Int × Int)
 | 0, _, _, _, _ => none
 | k + 1, x6, x7, x262000, x262001 => if x7 < x6 then (impl_turned.l0 k x6 (wrap64 (x7 + 1)) (wrap64 (-x262001)) x262000) else (some (x262000, x262001))
def impl_turned.f (k : Nat) (a0_0 : Int) (a0_1 : Int) (a1 : Int) : Option (Int × Int) := (impl_turns.f a1).bind fun t263 => (impl_turned.l0 k t263 0 a0_0 a0_1)
theorem impl_turned.mono_l : ∀ k, (∀ y0 y1 y2 y3, LeO (impl_turned.l0 k y0 y1 y2 y3) (impl_turned.l0 (k + 1) y0 y1 y2 y3))
 | 0 => fun _ _ _ _ r h => by simp [impl_turned.l0] at h
 | k + 1 => by
  have ih0 := impl_turned.mono_l k
  ·intro y0 y1 y2 y3
   unfold impl_turned.l0
   repeat' first
   | (with_reducible exact ih0 _ _ _ _)
   | (with_reducible exact LeO.refl _)
   | (with_reducible exact LeO.none _)
   | (with_reducible refine LeO.ite ?_ ?_)
   | (with_reducible refine LeO.bind ?_ (fun _ => ?_))
   | exact ih0 _ _ _ _
   | exact LeO.none _
   | refine LeO.ite ?_ ?_
   | refine LeO.bind ?_ (fun _ => ?_)
theorem impl_turned.mono : ∀ a0 a1 a2 k, LeO (impl_turned.f k a0 a1 a2) (impl_turned.f (k + 1) a0 a1 a2) := by
 intro a0 a1 a2 k
 have ih0 := impl_turned.mono_l k
 unfold impl_turned.f
 repeat' first
   | (with_reducible exact ih0 _ _ _ _)
   | (with_reducible exact LeO.refl _)
   | (with_reducible exact LeO.none _)
   | (with_reducible refine LeO.ite ?_ ?_)
   | (with_reducible refine LeO.bind ?_ (fun _ => ?_))
   | exact ih0 _ _ _ _
   | exact LeO.none _
   | refine LeO.ite ?_ ?_
   | refine LeO.bind ?_ (fun _ => ?_)
set_option maxHeartbeats 8000000 in
set_option maxRecDepth 100000 in
theorem impl_turned.calls (k : Nat) (a0_0 : Int) (a0_1 : Int) (a1 : Int) (r1 : Int) (r2 : Int) (w : World) (h : impl_turned.f k a0_0 a0_1 a1 = some (r1, r2)) :
  Calls Try.prog 73 #[.agg #[.int .i64 a0_0, .int .i64 a0_1], .int .i64 a1] w fun e w' => e = .returned (.agg #[.int .i64 r1, .int .i64 r2]) ∧ Below w.heap.size w w' := by
 have hu28 := Try.underlying28
 have HB := Aside0.mk (Below.refl w.heap.size w)
 have H : ((impl_turns.f a1).bind fun t263 => (impl_turned.l0 k t263 0 a0_0 a0_1)) = some (r1, r2) := h
 clear h
 replace H := Option.bind_eq_some_iff.mp H
 obtain ⟨t263, A30, H⟩ := H
 replace H : (impl_turned.l0 k t263 0 a0_0 a0_1) = some (r1, r2) := H
 have A3 := Aside0.mk A30
 clear A30
 have H' := Aside0.mk H
 clear H
 go_enter Try.func73, Try.ntmps73
 go_wp2_with (first | ((with_reducible refine gate_dst (N := 2) rfl ?_); refine box_event ?hg (N := 2) ?hd (cs := #[.int .i64 a0_0, .int .i64 a0_1]) (t := 28) ?hr ?_; (case hd => rfl); (case hg => rfl); (case hr => first | (go_simp; done) | (go_simp; rfl)); intro gb261 hg w4 hbox hb; have n0_ := Aside0.mk (below_step u12_0 hb); have n1_ := Aside0.mk (hbox); have n2_ := Aside0.mk ((by rw [hg]; exact (below_size u12_0) : w.heap.size ≤ gb261)); have n3_ := Aside0.mk ((by rw [hg]; exact (below_size u12_0) : w.heap.size ≤ gb261)); clear HB; have HB := n0_; have BK261 := n1_; have GW261 := n2_; have GE261 := n3_; clear n0_ n1_ n2_ n3_; clear hb hbox hg) | ((with_reducible refine gate_dst (N := 4) rfl ?_); refine box_event ?hg (N := 4) ?hd (cs := #[.int .i64 0, .int .i64 0]) (t := 28) ?hr ?_; (case hd => rfl); (case hg => rfl); (case hr => first | (go_simp; done) | (go_simp; rfl)); intro gb262 hg w5 hbox hb; have n0_ := Aside0.mk (blk_below (g := gb261) (o := .cells #[.int .i64 a0_0, .int .i64 a0_1] 28 (0, 0)) u12_18 hb); have n1_ := Aside0.mk (below_step u12_16 hb); have n2_ := Aside0.mk (hbox); have n3_ := Aside0.mk ((by rw [hg]; exact (below_size u12_16) : w.heap.size ≤ gb262)); have n4_ := Aside0.mk ((by rw [hg]; exact (below_size u12_16) : w.heap.size ≤ gb262)); have n5_ := Aside0.mk ((by rw [hg]; exact Nat.ne_of_lt (blk_lt (g := gb261) (o := .cells #[.int .i64 a0_0, .int .i64 a0_1] 28 (0, 0)) u12_18) : gb261 ≠ gb262)); have n6_ := Aside0.mk ((by rw [hg]; exact Nat.ne_of_gt (blk_lt (g := gb261) (o := .cells #[.int .i64 a0_0, .int .i64 a0_1] 28 (0, 0)) u12_18) : gb262 ≠ gb261)); clear BK261; clear HB; have BK261 := n0_; have HB := n1_; have BK262 := n2_; have GW262 := n3_; have GE262 := n4_; have NB261_262 := n5_; have NB262_261 := n6_; clear n0_ n1_ n2_ n3_ n4_ n5_ n6_; clear hb hbox hg) | ((with_reducible refine gate_callee (f := 92) rfl ?_); refine goesL_ (some 6) rfl rfl Try.func92 (by kernel_rfl) rfl #[.int .i64 a1] rfl u12_1 ?_; (with_reducible refine (impl_turns.calls a1 t263 _ A3.out).mono ?_); rintro e w' ⟨rfl, ⟨nd, rfl⟩⟩; refine ⟨_, rfl, ?_⟩))
 go_loopg [7] k (fun kq v7 w' => ∃ (x7_1 : Int) (x262000_1 : Int) (x262001_1 : Int), v7 = .int .i64 x7_1 ∧ Aside0 (impl_turned.l0 kq t263 x7_1 x262000_1 x262001_1 = some (r1, r2)) ∧ Aside0 (kq ≤ k) ∧ Aside0 (w'.heap[gb261]? = some (.cells #[.int .i64 x262000_1, .int .i64 x262001_1] 28 (0, 0))) ∧ Aside0 (w'.heap[gb262]? = some (.cells #[.int .i64 0, .int .i64 0] 28 (0, 0))) ∧ Aside0 (Below w.heap.size w w'))
 case atStart => exact ⟨(0), (a0_0), (a0_1), u12_17, H', ⟨Nat.le_refl _⟩, ⟨by (with_reducible repeat (first | refine blk_drewN ?_ _ | refine blk_drew ?_ | refine blk_alloc ?_ _)); exact BK261.out⟩, ⟨by (with_reducible repeat (first | refine blk_drewN ?_ _ | refine blk_drew ?_ | refine blk_alloc ?_ _)); exact BK262.out⟩, ⟨by repeat (first | (with_reducible first | exact HB.out | apply below_alloc | apply pw_below_drewN | apply below_drew1 | refine below_set ?_ GE261.out | refine below_set ?_ GE262.out) | exact HB.out)⟩⟩
 case round =>
  clear H'
  try clear p2
  obtain ⟨x7_1, x262000_1, x262001_1, rfl, HA, HK1, BK261, BK262, HB⟩ := hrel
  cases gk with
  | zero => exact absurd HA.out (by simp [impl_turned.l0])
  | succ k1 =>
   have H := HA.out
   clear HA
   simp only [impl_turned.l0] at H
   by_cases c6 : x7_1 < t263
   ·rw [if_pos c6] at H
    have c6b0 : decide (x7_1 < t263) = true := decide_eq_true c6
    clear c6
    have H' := Aside0.mk H
    clear H
    have hnb7 := NB261_262.out
    have hnc7 := NB262_261.out
    have hcz8_0 : wr.cell? ⟨gb261, 0, none⟩ = some (.int .i64 x262000_1) := (blk_cell BK261.out 0).trans rfl
    have hcz8_1 : wr.cell? ⟨gb261, 1, none⟩ = some (.int .i64 x262001_1) := (blk_cell BK261.out 1).trans rfl
    have hfz8_0 := blk_frozen BK261.out 0
    have hfz8_1 := blk_frozen BK261.out 1
    go_wp2
    go_roundg k1
    case measure => have := HK1.out; omega
    case rel => exact ⟨(wrap64 (x7_1 + 1)), (wrap64 (-x262001_1)), (x262000_1), u12_17, H', ⟨by have := HK1.out; omega⟩, ⟨by (with_reducible repeat (first | refine blk_drewN ?_ _ | refine blk_drew ?_ | refine blk_alloc ?_ _)); refine blk_put (cs := #[.int .i64 (wrap64 (-x262001_1)), .int .i64 x262001_1]) ?_ 1 _ rfl; refine blk_put (cs := #[.int .i64 x262000_1, .int .i64 x262001_1]) ?_ 0 _ rfl; (with_reducible repeat (first | refine blk_drewN ?_ _ | refine blk_drew ?_ | refine blk_alloc ?_ _)); exact BK261.out⟩, ⟨by (with_reducible repeat (first | refine blk_drewN ?_ _ | refine blk_drew ?_ | refine blk_alloc ?_ _)); refine blk_far ?_ NB262_261.out _; (with_reducible repeat (first | refine blk_drewN ?_ _ | refine blk_drew ?_ | refine blk_alloc ?_ _)); refine blk_far ?_ NB262_261.out _; (with_reducible repeat (first | refine blk_drewN ?_ _ | refine blk_drew ?_ | refine blk_alloc ?_ _)); exact BK262.out⟩, ⟨by repeat (first | (with_reducible first | exact HB.out | apply below_alloc | apply pw_below_drewN | apply below_drew1 | refine below_set ?_ GE261.out | refine below_set ?_ GE262.out) | exact HB.out)⟩⟩
   ·rw [if_neg c6] at H
    have c6b0 : decide (x7_1 < t263) = false := decide_eq_false c6
    clear c6
    simp only [Option.some.injEq, Prod.mk.injEq] at H
    obtain ⟨rfl, rfl⟩ := H
    have hnb9 := NB261_262.out
    have hnc9 := NB262_261.out
    have hcz10_0 : wr.cell? ⟨gb261, 0, none⟩ = some (.int .i64 x262000_1) := (blk_cell BK261.out 0).trans rfl
    have hcz10_1 : wr.cell? ⟨gb261, 1, none⟩ = some (.int .i64 x262001_1) := (blk_cell BK261.out 1).trans rfl
    have hfz10_0 := blk_frozen BK261.out 0
    have hfz10_1 := blk_frozen BK261.out 1
    have hcz11_0 : wr.cell? ⟨gb262, 0, none⟩ = some (.int .i64 0) := (blk_cell BK262.out 0).trans rfl
    have hcz11_1 : wr.cell? ⟨gb262, 1, none⟩ = some (.int .i64 0) := (blk_cell BK262.out 1).trans rfl
    have hfz11_0 := blk_frozen BK262.out 0
    have hfz11_1 := blk_frozen BK262.out 1
    go_wp2
    refine bodyPost_ret (results_cell_row rfl _ _ gb262 28 #[.int .i64 x262000_1, .int .i64 x262001_1] (0, 0) _ rfl (by (with_reducible repeat (first | refine blk_drewN ?_ _ | refine blk_drew ?_ | refine blk_alloc ?_ _)); refine blk_put (cs := #[.int .i64 x262000_1, .int .i64 0]) ?_ 1 _ rfl; refine blk_put (cs := #[.int .i64 0, .int .i64 0]) ?_ 0 _ rfl; (with_reducible repeat (first | refine blk_drewN ?_ _ | refine blk_drew ?_ | refine blk_alloc ?_ _)); exact BK262.out) Try.underlying28 rfl (by kernel_rfl)) rfl ?_
    exact ⟨by first | rfl | (simp [*] <;> rfl), by repeat (first | (with_reducible first | exact HB.out | apply below_alloc | apply pw_below_drewN | apply below_drew1 | refine below_set ?_ GE261.out | refine below_set ?_ GE262.out) | exact HB.out)⟩

/-! ### impl_TurnHeading: function 74 -/
def impl_TurnHeading.f (a0 : Int) (a1 : Int) : Option (Int) := (impl_IsHeading.f a0).bind fun t264 => (if t264 = true then ((impl_turns.f a1).bind fun t265 => (some (Int.tmod (wrap64 (a0 + t265)) 4))) else (some 0))
set_option maxHeartbeats 8000000 in
set_option maxRecDepth 100000 in
theorem impl_TurnHeading.calls (a0 : Int) (a1 : Int) (r : Int) (w : World) (h : impl_TurnHeading.f a0 a1 = some r) :
  Calls Try.prog 74 #[.int .i64 a0, .int .i64 a1] w fun e w' => e = .returned (.int .i64 r) ∧ Drawn0 w w' := by
 have H : ((impl_IsHeading.f a0).bind fun t264 => (if t264 = true then ((impl_turns.f a1).bind fun t265 => (some (Int.tmod (wrap64 (a0 + t265)) 4))) else (some 0))) = some r := h
 clear h
 replace H := Option.bind_eq_some_iff.mp H
 obtain ⟨t264, A30, H⟩ := H
 replace H : (if t264 = true then ((impl_turns.f a1).bind fun t265 => (some (Int.tmod (wrap64 (a0 + t265)) 4))) else (some 0)) = some r := H
 have A3 := Aside0.mk A30
 clear A30
 by_cases c4 : t264 = true
 ·subst c4
  have H1 : ((impl_turns.f a1).bind fun t265 => (some (Int.tmod (wrap64 (a0 + t265)) 4))) = some r := by rw [if_pos rfl] at H; exact H
  clear H
  have H := H1
  clear H1
  replace H := Option.bind_eq_some_iff.mp H
  obtain ⟨t265, A50, H⟩ := H
  replace H : (some (Int.tmod (wrap64 (a0 + t265)) 4)) = some r := H
  have A5 := Aside0.mk A50
  clear A50
  obtain rfl := Option.some.inj H
  go_enter Try.func74, Try.ntmps74
  go_wp2_with (first | ((with_reducible refine gate_callee (f := 81) rfl ?_); refine goesL_ (some 6) rfl rfl Try.func81 (by kernel_rfl) rfl #[.int .i64 a0] rfl u12_1 ?_; (with_reducible refine (impl_IsHeading.calls a0 true _ A3.out).mono ?_); rintro e w' ⟨rfl, ⟨nd, rfl⟩⟩; refine ⟨_, rfl, ?_⟩) | ((with_reducible refine gate_callee (f := 92) rfl ?_); refine goesL_ (some 10) rfl rfl Try.func92 (by kernel_rfl) rfl #[.int .i64 a1] rfl u12_1 ?_; (with_reducible refine (impl_turns.calls a1 t265 _ A5.out).mono ?_); rintro e w' ⟨rfl, ⟨nd, rfl⟩⟩; refine ⟨_, rfl, ?_⟩))
  go_ret
  exact ⟨by first | rfl | (simp; done) | (simp [*]; done), by repeat (first | exact Drawn0.refl _ | apply Drawn0.step)⟩
 ·replace c4 := Bool.eq_false_iff.mpr c4
  subst c4
  have H1 : (some 0) = some r := by rw [if_neg (show ¬ (false = true) by decide)] at H; exact H
  clear H
  have H := H1
  clear H1
  obtain rfl := Option.some.inj H
  go_enter Try.func74, Try.ntmps74
  go_wp2_with (first | ((with_reducible refine gate_callee (f := 81) rfl ?_); refine goesL_ (some 6) rfl rfl Try.func81 (by kernel_rfl) rfl #[.int .i64 a0] rfl u12_1 ?_; (with_reducible refine (impl_IsHeading.calls a0 false _ A3.out).mono ?_); rintro e w' ⟨rfl, ⟨nd, rfl⟩⟩; refine ⟨_, rfl, ?_⟩))
  go_ret
  exact ⟨by first | rfl | (simp; done) | (simp [*]; done), by repeat (first | exact Drawn0.refl _ | apply Drawn0.step)⟩

/-! ### impl_TurnRig: function 43 -/
def impl_TurnRig.l0 : Nat → Int → List (S30) → List (S30) → Int → Int → Option ((List (S30)))
 | 0, _, _, _, _, _ => none
 | k + 1, x1, x5, x13, x14, x15 => if x15 < x14 then (if 0 ≤ x15 then (if x15 < (x13.length : Int) then ((impl_turned.f k ((rd_T30 x13 x15).f3.f0) ((rd_T30 x13 x15).f3.f1) x1).bind fun bt272 => (if ((rd_T30 x13 x15).f1) = 2 then ((impl_TurnHeading.f ((rd_T30 x13 x15).f4) x1).bind fun t274 => (if x5.length < 1759218604441 then (impl_TurnRig.l0 k x1 (x5 ++ [(⟨(rd_T30 x13 x15).f0, (rd_T30 x13 x15).f1, (rd_T30 x13 x15).f2, (⟨bt272.1, bt272.2⟩ : S28), t274, (rd_T30 x13 x15).f5, (rd_T30 x13 x15).f6⟩ : S30)]) x13 x14 (wrap64 (x15 + 1))) else (none))) else (if x5.length < 1759218604441 then (impl_TurnRig.l0 k x1 (x5 ++ [(⟨(rd_T30 x13 x15).f0, (rd_T30 x13 x15).f1, (rd_T30 x13 x15).f2, (⟨bt272.1, bt272.2⟩ : S28), (rd_T30 x13 x15).f4, (rd_T30 x13 x15).f5, (rd_T30 x13 x15).f6⟩ : S30)]) x13 x14 (wrap64 (x15 + 1))) else (none)))) else (none)) else (none)) else (some x5)
def impl_TurnRig.f (k : Nat) (l0 : List (S30)) (a1 : Int) : Option ((List (S30))) := (some (([] : List (S30)) : List (S30))).bind fun y266 => ((impl_IsRig.f k l0).bind fun t269 => (if t269 = true then (impl_TurnRig.l0 k a1 y266 l0 (l0.length : Int) 0) else (some y266)))
theorem impl_TurnRig.mono_l : ∀ k, (∀ y0 y1 y2 y3 y4, LeO (impl_TurnRig.l0 k y0 y1 y2 y3 y4) (impl_TurnRig.l0 (k + 1) y0 y1 y2 y3 y4))
 | 0 => fun _ _ _ _ _ r h => by simp [impl_TurnRig.l0] at h
 | k + 1 => by
  have ih0 := impl_TurnRig.mono_l k
  ·intro y0 y1 y2 y3 y4
   unfold impl_TurnRig.l0
   repeat' first
   | (with_reducible exact ih0 _ _ _ _ _)
   | (with_reducible exact impl_IsRig.mono _ _)
   | (with_reducible exact impl_turned.mono _ _ _ _)
   | (with_reducible exact LeO.refl _)
   | (with_reducible exact LeO.none _)
   | (with_reducible refine LeO.ite ?_ ?_)
   | (with_reducible refine LeO.bind ?_ (fun _ => ?_))
   | exact ih0 _ _ _ _ _
   | exact impl_IsRig.mono _ _
   | exact impl_turned.mono _ _ _ _
   | exact LeO.none _
   | refine LeO.ite ?_ ?_
   | refine LeO.bind ?_ (fun _ => ?_)
theorem impl_TurnRig.mono : ∀ a0 a1 k, LeO (impl_TurnRig.f k a0 a1) (impl_TurnRig.f (k + 1) a0 a1) := by
 intro a0 a1 k
 have ih0 := impl_TurnRig.mono_l k
 unfold impl_TurnRig.f
 repeat' first
   | (with_reducible exact ih0 _ _ _ _ _)
   | (with_reducible exact impl_IsRig.mono _ _)
   | (with_reducible exact impl_turned.mono _ _ _ _)
   | (with_reducible exact LeO.refl _)
   | (with_reducible exact LeO.none _)
   | (with_reducible refine LeO.ite ?_ ?_)
   | (with_reducible refine LeO.bind ?_ (fun _ => ?_))
   | exact ih0 _ _ _ _ _
   | exact impl_IsRig.mono _ _
   | exact impl_turned.mono _ _ _ _
   | exact LeO.none _
   | refine LeO.ite ?_ ?_
   | refine LeO.bind ?_ (fun _ => ?_)
set_option maxHeartbeats 8000000 in
set_option maxRecDepth 100000 in
theorem impl_TurnRig.calls (k : Nat) (A0 : Option Addr) (c0 : Nat) (l0 : List (S30)) (a1 : Int) (r : List (S30)) (w : World) (hr0 : Kd.C k30 w A0 l0.length l0) (hc0 : l0.length ≤ c0) (h : impl_TurnRig.f k l0 a1 = some r) :
  Calls Try.prog 43 #[.slice A0 l0.length c0, .int .i64 a1] w fun e w' => ∃ v0_ : Value, e = .returned (v0_) ∧ Kd.R k30 30 w' w.heap.size (fun _ => True) v0_ r ∧ Below w.heap.size w w' := by
 have hu30 := Try.underlying30
 have hu28 := Try.underlying28
 have HR0 := Aside0.mk hr0
 have HC0 := Aside0.mk hc0
 clear hr0 hc0
 have HB := Aside0.mk (Below.refl w.heap.size w)
 have H : ((some (([] : List (S30)) : List (S30))).bind fun y266 => ((impl_IsRig.f k l0).bind fun t269 => (if t269 = true then (impl_TurnRig.l0 k a1 y266 l0 (l0.length : Int) 0) else (some y266)))) = some r := h
 clear h
 obtain ⟨y266, hy266⟩ : ∃ y_ : List (S30), y_ = (([] : List (S30))) := ⟨_, rfl⟩
 replace H : ((impl_IsRig.f k l0).bind fun t269 => (if t269 = true then (impl_TurnRig.l0 k a1 y266 l0 (l0.length : Int) 0) else (some y266))) = some r := by first | (rw [hy266]; with_reducible exact H) | (have H2_ := (Option.bind_some _ _).symm.trans H; rw [hy266]; with_reducible exact H2_) | (have H2_ := (Option.bind_some _ _).symm.trans H; with_reducible exact H2_) | with_reducible exact H | (rw [hy266]; exact H) | exact H
 have Ny266 := Aside0.mk hy266
 clear hy266
 replace H := Option.bind_eq_some_iff.mp H
 obtain ⟨t269, A30, H⟩ := H
 replace H : (if t269 = true then (impl_TurnRig.l0 k a1 y266 l0 (l0.length : Int) 0) else (some y266)) = some r := H
 have A3 := Aside0.mk A30
 clear A30
 by_cases c4 : t269 = true
 ·subst c4
  have H1 : (impl_TurnRig.l0 k a1 y266 l0 (l0.length : Int) 0) = some r := by rw [if_pos rfl] at H; exact H
  clear H
  have H := H1
  clear H1
  have H' := Aside0.mk H
  clear H
  go_enter Try.func43, Try.ntmps43
  go_wp2_with (first | ((with_reducible refine gate_dst (N := 8) rfl ?_); refine Kd.R_lit k30 _ 30 ?hg (N := 8) ?hd (xs := ([] : List (S30))) (inner := []) (ok := fun _ => True) (okp := fun _ => True) ?hr ?hp (fun _ hk => hk) trivial (Below.refl _ _) (Nat.le_refl _) (by simp) ?_; (case hd => rfl); (case hg => rfl); (case hr => first | (go_simp; done) | (go_simp; rfl)); (case hp => exact (Reps.none _ _)); intro v267 w5 ho6 hb hg_ hnew_; clear hg_ hnew_; (first | rw [← Ny266.out] at ho6 | (simp only [Int.reduceToNat] at ho6; rw [← Ny266.out] at ho6)); have n0_ := Aside0.mk (Kd.R_lower ho6 (below_size u12_0)); have n1_ := Aside0.mk (below_step u12_0 hb); clear HB; have HO268 := n0_; have HB := n1_; clear n0_ n1_; clear hb ho6) | ((with_reducible refine gate_callee (f := 25) rfl ?_); refine goesL_ (some 10) rfl rfl Try.func25 (by kernel_rfl) rfl #[.slice A0 l0.length c0] rfl u12_1 ?_; (with_reducible refine (impl_IsRig.calls k _ _ l0 true _ ?side1 ?side2 A3.out).mono ?_); (case side1 => repeat (first | exact (Kd.C_below HR0.out HB.out) | (with_reducible refine Kd.C_alloc ?_ _) | (with_reducible refine Kd.C_drewN ?_ _) | (with_reducible refine Kd.C_drew ?_))); (case side2 => exact HC0.out); rintro e w7 ⟨rfl, hb⟩; refine ⟨_, rfl, ?_⟩; have n0_ := Aside0.mk (Kd.R_below (by (with_reducible repeat (first | apply Kd.R_alloc | apply Kd.R_drewN | apply Kd.R_drew)); exact HO268.out) hb); have n1_ := Aside0.mk (below_step u12_0 hb); clear HO268; clear HB; have HO268 := n0_; have HB := n1_; clear n0_ n1_; (try clear hb); (try clear hb2); (try clear hk); (try clear hi)))
  go_loopg [5, 15] k (fun kq v5 v15 w' => ∃ (x5_1 : List (S30)) (x15_1 : Int), v15 = .int .i64 x15_1 ∧ Aside0 (impl_TurnRig.l0 kq a1 x5_1 l0 (l0.length : Int) x15_1 = some r) ∧ Aside0 (kq ≤ k) ∧ Aside0 (Kd.R k30 30 w' w.heap.size (fun _ => True) v5 x5_1) ∧ Aside0 (Below w.heap.size w w'))
  case atStart => exact ⟨(y266), (0), u12_17, H', ⟨Nat.le_refl _⟩, ⟨by (with_reducible repeat (first | apply Kd.R_alloc | apply Kd.R_drewN | apply Kd.R_drew)); exact HO268.out⟩, ⟨by repeat (first | (with_reducible first | exact HB.out | apply below_alloc | apply pw_below_drewN | apply below_drew1) | exact HB.out)⟩⟩
  case round =>
   clear H'
   try clear c2
   try clear p2
   try clear c4
   obtain ⟨x5_1, x15_1, rfl, HA, HK1, HO_5, HB⟩ := hrel
   cases gk with
   | zero => exact absurd HA.out (by simp [impl_TurnRig.l0])
   | succ k1 =>
    have H := HA.out
    clear HA
    simp only [impl_TurnRig.l0] at H
    by_cases c8 : x15_1 < (l0.length : Int)
    ·rw [if_pos c8] at H
     have c8b0 : decide (x15_1 < (l0.length : Int)) = true := decide_eq_true c8
     clear c8
     by_cases c9 : 0 ≤ x15_1
     ·rw [if_pos c9] at H
      have c9b0 : decide (0 ≤ x15_1) = true := decide_eq_true c9
      clear c9
      by_cases c10 : x15_1 < (l0.length : Int)
      ·rw [if_pos c10] at H
       have c10b0 : decide (x15_1 < (l0.length : Int)) = true := decide_eq_true c10
       clear c10
       replace H := Option.bind_eq_some_iff.mp H
       obtain ⟨⟨t272, t273⟩, A110, H⟩ := H
       replace H : (if ((rd_T30 l0 x15_1).f1) = 2 then ((impl_TurnHeading.f ((rd_T30 l0 x15_1).f4) a1).bind fun t274 => (if x5_1.length < 1759218604441 then (impl_TurnRig.l0 k1 a1 (x5_1 ++ [(⟨(rd_T30 l0 x15_1).f0, (rd_T30 l0 x15_1).f1, (rd_T30 l0 x15_1).f2, (⟨t272, t273⟩ : S28), t274, (rd_T30 l0 x15_1).f5, (rd_T30 l0 x15_1).f6⟩ : S30)]) l0 (l0.length : Int) (wrap64 (x15_1 + 1))) else (none))) else (if x5_1.length < 1759218604441 then (impl_TurnRig.l0 k1 a1 (x5_1 ++ [(⟨(rd_T30 l0 x15_1).f0, (rd_T30 l0 x15_1).f1, (rd_T30 l0 x15_1).f2, (⟨t272, t273⟩ : S28), (rd_T30 l0 x15_1).f4, (rd_T30 l0 x15_1).f5, (rd_T30 l0 x15_1).f6⟩ : S30)]) l0 (l0.length : Int) (wrap64 (x15_1 + 1))) else (none))) = some r := H
       have A11 := Aside0.mk A110
       clear A110
       by_cases c12 : ((rd_T30 l0 x15_1).f1) = 2
       ·rw [if_pos c12] at H
        have c12b0 : (((rd_T30 l0 x15_1).f1) == 2) = true := beq_iff_eq.mpr c12
        have c12b1 : (((rd_T30 l0 x15_1).f1) != 2) = false := bne_eq_false_iff_eq.mpr c12
        clear c12
        replace H := Option.bind_eq_some_iff.mp H
        obtain ⟨t274, A130, H⟩ := H
        replace H : (if x5_1.length < 1759218604441 then (impl_TurnRig.l0 k1 a1 (x5_1 ++ [(⟨(rd_T30 l0 x15_1).f0, (rd_T30 l0 x15_1).f1, (rd_T30 l0 x15_1).f2, (⟨t272, t273⟩ : S28), t274, (rd_T30 l0 x15_1).f5, (rd_T30 l0 x15_1).f6⟩ : S30)]) l0 (l0.length : Int) (wrap64 (x15_1 + 1))) else (none)) = some r := H
        have A13 := Aside0.mk A130
        clear A130
        by_cases c14 : x5_1.length < 1759218604441
        ·rw [if_pos c14] at H
         have LMc14 := Aside0.mk c14
         clear c14
         obtain ⟨y275, hy275⟩ : ∃ y_ : List (S30), y_ = (x5_1 ++ [(⟨(rd_T30 l0 x15_1).f0, (rd_T30 l0 x15_1).f1, (rd_T30 l0 x15_1).f2, (⟨t272, t273⟩ : S28), t274, (rd_T30 l0 x15_1).f5, (rd_T30 l0 x15_1).f6⟩ : S30)]) := ⟨_, rfl⟩
         replace H : (impl_TurnRig.l0 k1 a1 y275 l0 (l0.length : Int) (wrap64 (x15_1 + 1))) = some r := by first | (rw [hy275]; with_reducible exact H) | (have H2_ := (Option.bind_some _ _).symm.trans H; rw [hy275]; with_reducible exact H2_) | (have H2_ := (Option.bind_some _ _).symm.trans H; with_reducible exact H2_) | with_reducible exact H | (rw [hy275]; exact H) | exact H
         have Ny275 := Aside0.mk hy275
         clear hy275
         have H' := Aside0.mk H
         clear H
         have p270 : 0 ≤ (x15_1 : Int) := of_decide_eq_true (by assumption)
         have q270 : x15_1 < (l0.length : Int) := of_decide_eq_true (by assumption)
         obtain ⟨ad270, e270, hx270_0, hx270_1, hx270_2, hx270_3, hx270_4, hx270_5, hx270_6, hx270_7⟩ := at_T30 HR0.out x15_1 p270 q270
         cases e270
         replace hx270_0 := bc HB.out hx270_0
         replace hx270_1 := bc HB.out hx270_1
         replace hx270_2 := bc HB.out hx270_2
         replace hx270_3 := bc HB.out hx270_3
         replace hx270_4 := bc HB.out hx270_4
         replace hx270_5 := bc HB.out hx270_5
         replace hx270_6 := bc HB.out hx270_6
         replace hx270_7 := bc HB.out hx270_7
         replace p270 := eq_true p270
         replace q270 := eq_true q270
         go_wp2_with (first | ((with_reducible refine gate_dst (N := 7) rfl ?_); refine box_event ?hg (N := 7) ?hd (cs := #[.string (⟨#[]⟩ : ByteArray), .int .i64 0, .string (⟨#[]⟩ : ByteArray), .int .i64 0, .int .i64 0, .int .i64 0, .int .i64 0, .int .i64 0]) (t := 30) ?hr ?_; (case hd => rfl); (case hg => rfl); (case hr => first | (go_simp; done) | (go_simp; rfl)); intro gb271 hg w15 hbox hb; have n0_ := Aside0.mk (Kd.R_below (Kd.R_elderB (by (with_reducible repeat (first | apply Kd.R_alloc | apply Kd.R_drewN | apply Kd.R_drew)); exact HO_5.out) gb271 (Nat.le_of_eq hg.symm)) hb); have n1_ := Aside0.mk (below_step u12_0 hb); have n2_ := Aside0.mk (hbox); have n3_ := Aside0.mk ((by rw [hg]; exact (below_size u12_0) : w.heap.size ≤ gb271)); have n4_ := Aside0.mk ((by rw [hg]; exact (below_size u12_0) : w.heap.size ≤ gb271)); clear HO_5; clear HB; have HO_5 := n0_; have HB := n1_; have BK271 := n2_; have GW271 := n3_; have GE271 := n4_; clear n0_ n1_ n2_ n3_ n4_; clear hb hbox hg; have hcz16_0 : w15.cell? ⟨gb271, 0, none⟩ = some (.string (⟨#[]⟩ : ByteArray)) := (blk_cell BK271.out 0).trans rfl; have hcz16_1 : w15.cell? ⟨gb271, 1, none⟩ = some (.int .i64 0) := (blk_cell BK271.out 1).trans rfl; have hcz16_2 : w15.cell? ⟨gb271, 2, none⟩ = some (.string (⟨#[]⟩ : ByteArray)) := (blk_cell BK271.out 2).trans rfl; have hcz16_3 : w15.cell? ⟨gb271, 3, none⟩ = some (.int .i64 0) := (blk_cell BK271.out 3).trans rfl; have hcz16_4 : w15.cell? ⟨gb271, 4, none⟩ = some (.int .i64 0) := (blk_cell BK271.out 4).trans rfl; have hcz16_5 : w15.cell? ⟨gb271, 5, none⟩ = some (.int .i64 0) := (blk_cell BK271.out 5).trans rfl; have hcz16_6 : w15.cell? ⟨gb271, 6, none⟩ = some (.int .i64 0) := (blk_cell BK271.out 6).trans rfl; have hcz16_7 : w15.cell? ⟨gb271, 7, none⟩ = some (.int .i64 0) := (blk_cell BK271.out 7).trans rfl; have hfz16_0 := blk_frozen BK271.out 0; have hfz16_1 := blk_frozen BK271.out 1; have hfz16_2 := blk_frozen BK271.out 2; have hfz16_3 := blk_frozen BK271.out 3; have hfz16_4 := blk_frozen BK271.out 4; have hfz16_5 := blk_frozen BK271.out 5; have hfz16_6 := blk_frozen BK271.out 6; have hfz16_7 := blk_frozen BK271.out 7) | ((with_reducible refine gate_callee (f := 73) rfl ?_); refine goesL_ (some 22) rfl rfl Try.func73 (by kernel_rfl) rfl #[.agg #[.int .i64 ((rd_T30 l0 x15_1).f3.f0), .int .i64 ((rd_T30 l0 x15_1).f3.f1)], .int .i64 a1] rfl u12_1 ?_; (with_reducible refine (impl_turned.calls k1 ((rd_T30 l0 x15_1).f3.f0) ((rd_T30 l0 x15_1).f3.f1) a1 t272 t273 _ A11.out).mono ?_); rintro e w17 ⟨rfl, hb⟩; refine ⟨_, rfl, ?_⟩; have n0_ := Aside0.mk (Kd.R_below u12_12 hb); have n1_ := Aside0.mk (blk_below (g := gb271) (o := .cells #[.string ((rd_T30 l0 x15_1).f0), .int .i64 ((rd_T30 l0 x15_1).f1), .string ((rd_T30 l0 x15_1).f2), .int .i64 ((rd_T30 l0 x15_1).f3.f0), .int .i64 ((rd_T30 l0 x15_1).f3.f1), .int .i64 ((rd_T30 l0 x15_1).f4), .int .i64 ((rd_T30 l0 x15_1).f5), .int .i64 ((rd_T30 l0 x15_1).f6)] 30 (0, 0)) u12_6 hb); have n2_ := Aside0.mk (below_step u12_13 hb); clear HO_5; clear BK271; clear HB; have HO_5 := n0_; have BK271 := n1_; have HB := n2_; clear n0_ n1_ n2_; (try clear hb); (try clear hb2); (try clear hk); (try clear hi); have hcz18_0 : w17.cell? ⟨gb271, 0, none⟩ = some (.string ((rd_T30 l0 x15_1).f0)) := (blk_cell BK271.out 0).trans rfl; have hcz18_1 : w17.cell? ⟨gb271, 1, none⟩ = some (.int .i64 ((rd_T30 l0 x15_1).f1)) := (blk_cell BK271.out 1).trans rfl; have hcz18_2 : w17.cell? ⟨gb271, 2, none⟩ = some (.string ((rd_T30 l0 x15_1).f2)) := (blk_cell BK271.out 2).trans rfl; have hcz18_3 : w17.cell? ⟨gb271, 3, none⟩ = some (.int .i64 ((rd_T30 l0 x15_1).f3.f0)) := (blk_cell BK271.out 3).trans rfl; have hcz18_4 : w17.cell? ⟨gb271, 4, none⟩ = some (.int .i64 ((rd_T30 l0 x15_1).f3.f1)) := (blk_cell BK271.out 4).trans rfl; have hcz18_5 : w17.cell? ⟨gb271, 5, none⟩ = some (.int .i64 ((rd_T30 l0 x15_1).f4)) := (blk_cell BK271.out 5).trans rfl; have hcz18_6 : w17.cell? ⟨gb271, 6, none⟩ = some (.int .i64 ((rd_T30 l0 x15_1).f5)) := (blk_cell BK271.out 6).trans rfl; have hcz18_7 : w17.cell? ⟨gb271, 7, none⟩ = some (.int .i64 ((rd_T30 l0 x15_1).f6)) := (blk_cell BK271.out 7).trans rfl; have hfz18_0 := blk_frozen BK271.out 0; have hfz18_1 := blk_frozen BK271.out 1; have hfz18_2 := blk_frozen BK271.out 2; have hfz18_3 := blk_frozen BK271.out 3; have hfz18_4 := blk_frozen BK271.out 4; have hfz18_5 := blk_frozen BK271.out 5; have hfz18_6 := blk_frozen BK271.out 6; have hfz18_7 := blk_frozen BK271.out 7) | ((with_reducible refine gate_callee (f := 74) rfl ?_); refine goesL_ (some 30) rfl rfl Try.func74 (by kernel_rfl) rfl #[.int .i64 ((rd_T30 l0 x15_1).f4), .int .i64 a1] rfl u12_1 ?_; (with_reducible refine (impl_TurnHeading.calls ((rd_T30 l0 x15_1).f4) a1 t274 _ A13.out).mono ?_); rintro e w' ⟨rfl, ⟨nd, rfl⟩⟩; refine ⟨_, rfl, ?_⟩) | ((with_reducible refine gate_builtin (b := .append) (xs := #[.tmp 32, .tmp 34]) rfl ?_); at_builtin; refine Kd.R_append k30 (w0 := w) w.heap.size rfl (.tmp 32) (.tmp 34) 36 30 (.agg #[(.string ⟨#[]⟩), (.int .i64 0), (.string ⟨#[]⟩), (.int .i64 0), (.int .i64 0), (.int .i64 0), (.int .i64 0), (.int .i64 0)]) 80 rfl Try.underlying36 info30 rfl (by decide) (by omega) u5 x5_1 (⟨(rd_T30 l0 x15_1).f0, (rd_T30 l0 x15_1).f1, (rd_T30 l0 x15_1).f2, (⟨t272, t273⟩ : S28), t274, (rd_T30 l0 x15_1).f5, (rd_T30 l0 x15_1).f6⟩ : S30) [.string ((rd_T30 l0 x15_1).f0), .int .i64 ((rd_T30 l0 x15_1).f1), .string ((rd_T30 l0 x15_1).f2), .int .i64 t272, .int .i64 t273, .int .i64 t274, .int .i64 ((rd_T30 l0 x15_1).f5), .int .i64 ((rd_T30 l0 x15_1).f6)] (fun k_ => k_ ≠ gb271) (fun _ => False) rfl (by first | (go_simp; done) | (go_simp; rfl)) ?aP (fun _ hk => hk.elim) ?aF ?aO ?aB ?aS ?aL ?_; (case aP => exact k30_mkM _ _ _ (⟨(rd_T30 l0 x15_1).f0, (rd_T30 l0 x15_1).f1, (rd_T30 l0 x15_1).f2, (⟨t272, t273⟩ : S28), t274, (rd_T30 l0 x15_1).f5, (rd_T30 l0 x15_1).f6⟩ : S30)); (case aB => exact u12_13); (case aF => exact (fun k_ hk => Kd.freshB (g := gb271) (o := .cells #[.string ((rd_T30 l0 x15_1).f0), .int .i64 ((rd_T30 l0 x15_1).f1), .string ((rd_T30 l0 x15_1).f2), .int .i64 t272, .int .i64 t273, .int .i64 t274, .int .i64 ((rd_T30 l0 x15_1).f5), .int .i64 ((rd_T30 l0 x15_1).f6)] 30 (0, 0)) u12_10 k_ hk)); (case aO => exact (by (with_reducible repeat (first | apply Kd.R_alloc | apply Kd.R_drewN | apply Kd.R_drew)); exact Kd.R_mono (Kd.R_far (p := ⟨gb271, 5, none⟩) (Kd.R_far (p := ⟨gb271, 4, none⟩) (Kd.R_far (p := ⟨gb271, 3, none⟩) (Kd.R_mono HO_5.out (fun k_ hk => (⟨hk, hk.2⟩ : _ ∧ k_ ≠ gb271))) (fun _ hk => hk.2) (.int .i64 t272)) (fun _ hk => hk.2) (.int .i64 t273)) (fun _ hk => hk.2) (.int .i64 t274)) (fun _ hk => hk.1.2))); (case aS => exact (below_size u12_13)); (case aL => have := LMc14.out; omega); intro v276 w19 ho hb hg hat; rw [← Ny275.out] at ho; have n0_ := Aside0.mk (blk_grown (g := gb271) (o := .cells #[.string ((rd_T30 l0 x15_1).f0), .int .i64 ((rd_T30 l0 x15_1).f1), .string ((rd_T30 l0 x15_1).f2), .int .i64 t272, .int .i64 t273, .int .i64 t274, .int .i64 ((rd_T30 l0 x15_1).f5), .int .i64 ((rd_T30 l0 x15_1).f6)] 30 (0, 0)) u12_10 hg (Kd.R_away HO_5.out (fun _ hk => hk.2))); have n1_ := Aside0.mk (hb); have n2_ := Aside0.mk (ho); clear BK271; clear HB; clear HO_5; have BK271 := n0_; have HB := n1_; have HO277 := n2_; clear n0_ n1_ n2_; clear ho hb hg hat))
         go_roundg k1
         case measure => have := HK1.out; omega
         case rel => exact ⟨(y275), (wrap64 (x15_1 + 1)), u12_17, H', ⟨by have := HK1.out; omega⟩, ⟨by (with_reducible repeat (first | apply Kd.R_alloc | apply Kd.R_drewN | apply Kd.R_drew)); exact Kd.R_mono HO277.out (fun _ hk => trivial)⟩, ⟨by repeat (first | (with_reducible first | exact HB.out | apply below_alloc | apply pw_below_drewN | apply below_drew1 | refine below_set ?_ GE271.out) | exact HB.out)⟩⟩
        ·rw [if_neg c14] at H
         exact absurd H (by simp)
       ·rw [if_neg c12] at H
        have c12b0 : (((rd_T30 l0 x15_1).f1) == 2) = false := beq_eq_false_iff_ne.mpr c12
        have c12b1 : (((rd_T30 l0 x15_1).f1) != 2) = true := bne_iff_ne.mpr c12
        by_cases c20 : x5_1.length < 1759218604441
        ·rw [if_pos c20] at H
         have LMc20 := Aside0.mk c20
         clear c20
         obtain ⟨y278, hy278⟩ : ∃ y_ : List (S30), y_ = (x5_1 ++ [(⟨(rd_T30 l0 x15_1).f0, (rd_T30 l0 x15_1).f1, (rd_T30 l0 x15_1).f2, (⟨t272, t273⟩ : S28), (rd_T30 l0 x15_1).f4, (rd_T30 l0 x15_1).f5, (rd_T30 l0 x15_1).f6⟩ : S30)]) := ⟨_, rfl⟩
         replace H : (impl_TurnRig.l0 k1 a1 y278 l0 (l0.length : Int) (wrap64 (x15_1 + 1))) = some r := by first | (rw [hy278]; with_reducible exact H) | (have H2_ := (Option.bind_some _ _).symm.trans H; rw [hy278]; with_reducible exact H2_) | (have H2_ := (Option.bind_some _ _).symm.trans H; with_reducible exact H2_) | with_reducible exact H | (rw [hy278]; exact H) | exact H
         have Ny278 := Aside0.mk hy278
         clear hy278
         have H' := Aside0.mk H
         clear H
         have p270 : 0 ≤ (x15_1 : Int) := of_decide_eq_true (by assumption)
         have q270 : x15_1 < (l0.length : Int) := of_decide_eq_true (by assumption)
         obtain ⟨ad270, e270, hx270_0, hx270_1, hx270_2, hx270_3, hx270_4, hx270_5, hx270_6, hx270_7⟩ := at_T30 HR0.out x15_1 p270 q270
         cases e270
         replace hx270_0 := bc HB.out hx270_0
         replace hx270_1 := bc HB.out hx270_1
         replace hx270_2 := bc HB.out hx270_2
         replace hx270_3 := bc HB.out hx270_3
         replace hx270_4 := bc HB.out hx270_4
         replace hx270_5 := bc HB.out hx270_5
         replace hx270_6 := bc HB.out hx270_6
         replace hx270_7 := bc HB.out hx270_7
         replace p270 := eq_true p270
         replace q270 := eq_true q270
         go_wp2_with (first | ((with_reducible refine gate_dst (N := 7) rfl ?_); refine box_event ?hg (N := 7) ?hd (cs := #[.string (⟨#[]⟩ : ByteArray), .int .i64 0, .string (⟨#[]⟩ : ByteArray), .int .i64 0, .int .i64 0, .int .i64 0, .int .i64 0, .int .i64 0]) (t := 30) ?hr ?_; (case hd => rfl); (case hg => rfl); (case hr => first | (go_simp; done) | (go_simp; rfl)); intro gb271 hg w21 hbox hb; have n0_ := Aside0.mk (Kd.R_below (Kd.R_elderB (by (with_reducible repeat (first | apply Kd.R_alloc | apply Kd.R_drewN | apply Kd.R_drew)); exact HO_5.out) gb271 (Nat.le_of_eq hg.symm)) hb); have n1_ := Aside0.mk (below_step u12_0 hb); have n2_ := Aside0.mk (hbox); have n3_ := Aside0.mk ((by rw [hg]; exact (below_size u12_0) : w.heap.size ≤ gb271)); have n4_ := Aside0.mk ((by rw [hg]; exact (below_size u12_0) : w.heap.size ≤ gb271)); clear HO_5; clear HB; have HO_5 := n0_; have HB := n1_; have BK271 := n2_; have GW271 := n3_; have GE271 := n4_; clear n0_ n1_ n2_ n3_ n4_; clear hb hbox hg; have hcz22_0 : w21.cell? ⟨gb271, 0, none⟩ = some (.string (⟨#[]⟩ : ByteArray)) := (blk_cell BK271.out 0).trans rfl; have hcz22_1 : w21.cell? ⟨gb271, 1, none⟩ = some (.int .i64 0) := (blk_cell BK271.out 1).trans rfl; have hcz22_2 : w21.cell? ⟨gb271, 2, none⟩ = some (.string (⟨#[]⟩ : ByteArray)) := (blk_cell BK271.out 2).trans rfl; have hcz22_3 : w21.cell? ⟨gb271, 3, none⟩ = some (.int .i64 0) := (blk_cell BK271.out 3).trans rfl; have hcz22_4 : w21.cell? ⟨gb271, 4, none⟩ = some (.int .i64 0) := (blk_cell BK271.out 4).trans rfl; have hcz22_5 : w21.cell? ⟨gb271, 5, none⟩ = some (.int .i64 0) := (blk_cell BK271.out 5).trans rfl; have hcz22_6 : w21.cell? ⟨gb271, 6, none⟩ = some (.int .i64 0) := (blk_cell BK271.out 6).trans rfl; have hcz22_7 : w21.cell? ⟨gb271, 7, none⟩ = some (.int .i64 0) := (blk_cell BK271.out 7).trans rfl; have hfz22_0 := blk_frozen BK271.out 0; have hfz22_1 := blk_frozen BK271.out 1; have hfz22_2 := blk_frozen BK271.out 2; have hfz22_3 := blk_frozen BK271.out 3; have hfz22_4 := blk_frozen BK271.out 4; have hfz22_5 := blk_frozen BK271.out 5; have hfz22_6 := blk_frozen BK271.out 6; have hfz22_7 := blk_frozen BK271.out 7) | ((with_reducible refine gate_callee (f := 73) rfl ?_); refine goesL_ (some 22) rfl rfl Try.func73 (by kernel_rfl) rfl #[.agg #[.int .i64 ((rd_T30 l0 x15_1).f3.f0), .int .i64 ((rd_T30 l0 x15_1).f3.f1)], .int .i64 a1] rfl u12_1 ?_; (with_reducible refine (impl_turned.calls k1 ((rd_T30 l0 x15_1).f3.f0) ((rd_T30 l0 x15_1).f3.f1) a1 t272 t273 _ A11.out).mono ?_); rintro e w23 ⟨rfl, hb⟩; refine ⟨_, rfl, ?_⟩; have n0_ := Aside0.mk (Kd.R_below u12_12 hb); have n1_ := Aside0.mk (blk_below (g := gb271) (o := .cells #[.string ((rd_T30 l0 x15_1).f0), .int .i64 ((rd_T30 l0 x15_1).f1), .string ((rd_T30 l0 x15_1).f2), .int .i64 ((rd_T30 l0 x15_1).f3.f0), .int .i64 ((rd_T30 l0 x15_1).f3.f1), .int .i64 ((rd_T30 l0 x15_1).f4), .int .i64 ((rd_T30 l0 x15_1).f5), .int .i64 ((rd_T30 l0 x15_1).f6)] 30 (0, 0)) u12_6 hb); have n2_ := Aside0.mk (below_step u12_13 hb); clear HO_5; clear BK271; clear HB; have HO_5 := n0_; have BK271 := n1_; have HB := n2_; clear n0_ n1_ n2_; (try clear hb); (try clear hb2); (try clear hk); (try clear hi); have hcz24_0 : w23.cell? ⟨gb271, 0, none⟩ = some (.string ((rd_T30 l0 x15_1).f0)) := (blk_cell BK271.out 0).trans rfl; have hcz24_1 : w23.cell? ⟨gb271, 1, none⟩ = some (.int .i64 ((rd_T30 l0 x15_1).f1)) := (blk_cell BK271.out 1).trans rfl; have hcz24_2 : w23.cell? ⟨gb271, 2, none⟩ = some (.string ((rd_T30 l0 x15_1).f2)) := (blk_cell BK271.out 2).trans rfl; have hcz24_3 : w23.cell? ⟨gb271, 3, none⟩ = some (.int .i64 ((rd_T30 l0 x15_1).f3.f0)) := (blk_cell BK271.out 3).trans rfl; have hcz24_4 : w23.cell? ⟨gb271, 4, none⟩ = some (.int .i64 ((rd_T30 l0 x15_1).f3.f1)) := (blk_cell BK271.out 4).trans rfl; have hcz24_5 : w23.cell? ⟨gb271, 5, none⟩ = some (.int .i64 ((rd_T30 l0 x15_1).f4)) := (blk_cell BK271.out 5).trans rfl; have hcz24_6 : w23.cell? ⟨gb271, 6, none⟩ = some (.int .i64 ((rd_T30 l0 x15_1).f5)) := (blk_cell BK271.out 6).trans rfl; have hcz24_7 : w23.cell? ⟨gb271, 7, none⟩ = some (.int .i64 ((rd_T30 l0 x15_1).f6)) := (blk_cell BK271.out 7).trans rfl; have hfz24_0 := blk_frozen BK271.out 0; have hfz24_1 := blk_frozen BK271.out 1; have hfz24_2 := blk_frozen BK271.out 2; have hfz24_3 := blk_frozen BK271.out 3; have hfz24_4 := blk_frozen BK271.out 4; have hfz24_5 := blk_frozen BK271.out 5; have hfz24_6 := blk_frozen BK271.out 6; have hfz24_7 := blk_frozen BK271.out 7) | ((with_reducible refine gate_builtin (b := .append) (xs := #[.tmp 32, .tmp 34]) rfl ?_); at_builtin; refine Kd.R_append k30 (w0 := w) w.heap.size rfl (.tmp 32) (.tmp 34) 36 30 (.agg #[(.string ⟨#[]⟩), (.int .i64 0), (.string ⟨#[]⟩), (.int .i64 0), (.int .i64 0), (.int .i64 0), (.int .i64 0), (.int .i64 0)]) 80 rfl Try.underlying36 info30 rfl (by decide) (by omega) u5 x5_1 (⟨(rd_T30 l0 x15_1).f0, (rd_T30 l0 x15_1).f1, (rd_T30 l0 x15_1).f2, (⟨t272, t273⟩ : S28), (rd_T30 l0 x15_1).f4, (rd_T30 l0 x15_1).f5, (rd_T30 l0 x15_1).f6⟩ : S30) [.string ((rd_T30 l0 x15_1).f0), .int .i64 ((rd_T30 l0 x15_1).f1), .string ((rd_T30 l0 x15_1).f2), .int .i64 t272, .int .i64 t273, .int .i64 ((rd_T30 l0 x15_1).f4), .int .i64 ((rd_T30 l0 x15_1).f5), .int .i64 ((rd_T30 l0 x15_1).f6)] (fun k_ => k_ ≠ gb271) (fun _ => False) rfl (by first | (go_simp; done) | (go_simp; rfl)) ?aP (fun _ hk => hk.elim) ?aF ?aO ?aB ?aS ?aL ?_; (case aP => exact k30_mkM _ _ _ (⟨(rd_T30 l0 x15_1).f0, (rd_T30 l0 x15_1).f1, (rd_T30 l0 x15_1).f2, (⟨t272, t273⟩ : S28), (rd_T30 l0 x15_1).f4, (rd_T30 l0 x15_1).f5, (rd_T30 l0 x15_1).f6⟩ : S30)); (case aB => exact u12_13); (case aF => exact (fun k_ hk => Kd.freshB (g := gb271) (o := .cells #[.string ((rd_T30 l0 x15_1).f0), .int .i64 ((rd_T30 l0 x15_1).f1), .string ((rd_T30 l0 x15_1).f2), .int .i64 t272, .int .i64 t273, .int .i64 ((rd_T30 l0 x15_1).f4), .int .i64 ((rd_T30 l0 x15_1).f5), .int .i64 ((rd_T30 l0 x15_1).f6)] 30 (0, 0)) u12_14 k_ hk)); (case aO => exact (by (with_reducible repeat (first | apply Kd.R_alloc | apply Kd.R_drewN | apply Kd.R_drew)); exact Kd.R_mono (Kd.R_far (p := ⟨gb271, 4, none⟩) (Kd.R_far (p := ⟨gb271, 3, none⟩) (Kd.R_mono HO_5.out (fun k_ hk => (⟨hk, hk.2⟩ : _ ∧ k_ ≠ gb271))) (fun _ hk => hk.2) (.int .i64 t272)) (fun _ hk => hk.2) (.int .i64 t273)) (fun _ hk => hk.1.2))); (case aS => exact (below_size u12_13)); (case aL => have := LMc20.out; omega); intro v279 w25 ho hb hg hat; rw [← Ny278.out] at ho; have n0_ := Aside0.mk (blk_grown (g := gb271) (o := .cells #[.string ((rd_T30 l0 x15_1).f0), .int .i64 ((rd_T30 l0 x15_1).f1), .string ((rd_T30 l0 x15_1).f2), .int .i64 t272, .int .i64 t273, .int .i64 ((rd_T30 l0 x15_1).f4), .int .i64 ((rd_T30 l0 x15_1).f5), .int .i64 ((rd_T30 l0 x15_1).f6)] 30 (0, 0)) u12_14 hg (Kd.R_away HO_5.out (fun _ hk => hk.2))); have n1_ := Aside0.mk (hb); have n2_ := Aside0.mk (ho); clear BK271; clear HB; clear HO_5; have BK271 := n0_; have HB := n1_; have HO280 := n2_; clear n0_ n1_ n2_; clear ho hb hg hat))
         go_roundg k1
         case measure => have := HK1.out; omega
         case rel => exact ⟨(y278), (wrap64 (x15_1 + 1)), u12_17, H', ⟨by have := HK1.out; omega⟩, ⟨by (with_reducible repeat (first | apply Kd.R_alloc | apply Kd.R_drewN | apply Kd.R_drew)); exact Kd.R_mono HO280.out (fun _ hk => trivial)⟩, ⟨by repeat (first | (with_reducible first | exact HB.out | apply below_alloc | apply pw_below_drewN | apply below_drew1 | refine below_set ?_ GE271.out) | exact HB.out)⟩⟩
        ·rw [if_neg c20] at H
         exact absurd H (by simp)
      ·rw [if_neg c10] at H
       exact absurd H (by simp)
     ·rw [if_neg c9] at H
      exact absurd H (by simp)
    ·rw [if_neg c8] at H
     have c8b0 : decide (x15_1 < (l0.length : Int)) = false := decide_eq_false c8
     clear c8
     obtain rfl := Option.some.inj H
     go_wp2
     go_ret
     exact ⟨_, by first | rfl | (simp [*] <;> rfl), by (with_reducible repeat (first | apply Kd.R_alloc | apply Kd.R_drewN | apply Kd.R_drew)); exact HO_5.out, by repeat (first | (with_reducible first | exact HB.out | apply below_alloc | apply pw_below_drewN | apply below_drew1) | exact HB.out)⟩
 ·replace c4 := Bool.eq_false_iff.mpr c4
  subst c4
  have H1 : (some y266) = some r := by rw [if_neg (show ¬ (false = true) by decide)] at H; exact H
  clear H
  have H := H1
  clear H1
  obtain rfl := Option.some.inj H
  go_enter Try.func43, Try.ntmps43
  go_wp2_with (first | ((with_reducible refine gate_dst (N := 8) rfl ?_); refine Kd.R_lit k30 _ 30 ?hg (N := 8) ?hd (xs := ([] : List (S30))) (inner := []) (ok := fun _ => True) (okp := fun _ => True) ?hr ?hp (fun _ hk => hk) trivial (Below.refl _ _) (Nat.le_refl _) (by simp) ?_; (case hd => rfl); (case hg => rfl); (case hr => first | (go_simp; done) | (go_simp; rfl)); (case hp => exact (Reps.none _ _)); intro v267 w26 ho27 hb hg_ hnew_; clear hg_ hnew_; (first | rw [← Ny266.out] at ho27 | (simp only [Int.reduceToNat] at ho27; rw [← Ny266.out] at ho27)); have n0_ := Aside0.mk (Kd.R_lower ho27 (below_size u12_0)); have n1_ := Aside0.mk (below_step u12_0 hb); clear HB; have HO268 := n0_; have HB := n1_; clear n0_ n1_; clear hb ho27) | ((with_reducible refine gate_callee (f := 25) rfl ?_); refine goesL_ (some 10) rfl rfl Try.func25 (by kernel_rfl) rfl #[.slice A0 l0.length c0] rfl u12_1 ?_; (with_reducible refine (impl_IsRig.calls k _ _ l0 false _ ?side1 ?side2 A3.out).mono ?_); (case side1 => repeat (first | exact (Kd.C_below HR0.out HB.out) | (with_reducible refine Kd.C_alloc ?_ _) | (with_reducible refine Kd.C_drewN ?_ _) | (with_reducible refine Kd.C_drew ?_))); (case side2 => exact HC0.out); rintro e w28 ⟨rfl, hb⟩; refine ⟨_, rfl, ?_⟩; have n0_ := Aside0.mk (Kd.R_below (by (with_reducible repeat (first | apply Kd.R_alloc | apply Kd.R_drewN | apply Kd.R_drew)); exact HO268.out) hb); have n1_ := Aside0.mk (below_step u12_0 hb); clear HO268; clear HB; have HO268 := n0_; have HB := n1_; clear n0_ n1_; (try clear hb); (try clear hb2); (try clear hk); (try clear hi)))
  go_ret
  exact ⟨_, by first | rfl | (simp [*] <;> rfl), by (with_reducible repeat (first | apply Kd.R_alloc | apply Kd.R_drewN | apply Kd.R_drew)); exact HO268.out, by repeat (first | (with_reducible first | exact HB.out | apply below_alloc | apply pw_below_drewN | apply below_drew1) | exact HB.out)⟩

/-! ### laws_FnExactTurnRig: function 11 -/
def laws_FnExactTurnRig.j0 : Nat → List (S25) → Int → List (S30) → List (S30) → Bool → Option (Bool)
 | 0, _, _, _, _, _ => none
 | k + 1, x0, x1, x6, x8, x46 => if x46 = true then (some false) else ((laws_markDeviceS.f k x8 1).bind fun bt302 => ((laws_heldDeviceS.f k bt302.2 1).bind fun t304 => (if t304 < 0 then (some false) else (if t304 = bt302.1 then ((laws_toDeviceS.f k x0).bind fun t305 => ((impl_TurnRig.f k t305 x1).bind fun t308 => ((laws_eqDeviceS.f k t308 x6).bind fun t311 => (if t311 = true then ((laws_heldDeviceS.f k bt302.2 1).bind fun t312 => (if t312 < 0 then (some false) else (if t312 = bt302.1 then (some true) else (some false)))) else (some false))))) else (some false)))))
def laws_FnExactTurnRig.f (k : Nat) (l0 : List (S25)) (a1 : Int) : Option (Bool) := (laws_szDeviceS.f k l0 1048576).bind fun t281 => (if t281 < 0 then (some true) else ((laws_toDeviceS.f k l0).bind fun t282 => ((spec_TurnRig.f k t282 a1).bind fun t285 => ((laws_toDeviceS.f k l0).bind fun t288 => ((impl_TurnRig.f k t288 a1).bind fun t291 => ((laws_eqDeviceS.f k t291 t285).bind fun t294 => (if t294 = true then ((laws_toDeviceS.f k l0).bind fun t295 => ((laws_eqDeviceS.f k t288 t295).bind fun t298 => (if t298 = true then ((laws_markDeviceS.f k t288 1).bind fun bt299 => (if bt299.1 < 0 then (laws_FnExactTurnRig.j0 k l0 a1 t285 t291 true) else ((laws_eqDeviceS.f k t291 t285).bind fun t301 => (laws_FnExactTurnRig.j0 k l0 a1 t285 t291 (!t301))))) else (some false)))) else (some false))))))))
theorem laws_FnExactTurnRig.mono_l : ∀ k, (∀ y0 y1 y2 y3 y4, LeO (laws_FnExactTurnRig.j0 k y0 y1 y2 y3 y4) (laws_FnExactTurnRig.j0 (k + 1) y0 y1 y2 y3 y4))
 | 0 => fun _ _ _ _ _ r h => by simp [laws_FnExactTurnRig.j0] at h
 | k + 1 => by
  have ih0 := laws_FnExactTurnRig.mono_l k
  ·intro y0 y1 y2 y3 y4
   unfold laws_FnExactTurnRig.j0
   repeat' first
   | (with_reducible exact ih0 _ _ _ _ _)
   | (with_reducible exact impl_TurnRig.mono _ _ _)
   | (with_reducible exact laws_eqDeviceS.mono _ _ _)
   | (with_reducible exact laws_heldDeviceS.mono _ _ _)
   | (with_reducible exact laws_markDeviceS.mono _ _ _)
   | (with_reducible exact laws_szDeviceS.mono _ _ _)
   | (with_reducible exact laws_toDeviceS.mono _ _)
   | (with_reducible exact spec_TurnRig.mono _ _ _)
   | (with_reducible exact LeO.refl _)
   | (with_reducible exact LeO.none _)
   | (with_reducible refine LeO.ite ?_ ?_)
   | (with_reducible refine LeO.bind ?_ (fun _ => ?_))
   | exact ih0 _ _ _ _ _
   | exact impl_TurnRig.mono _ _ _
   | exact laws_eqDeviceS.mono _ _ _
   | exact laws_heldDeviceS.mono _ _ _
   | exact laws_markDeviceS.mono _ _ _
   | exact laws_szDeviceS.mono _ _ _
   | exact laws_toDeviceS.mono _ _
   | exact spec_TurnRig.mono _ _ _
   | exact LeO.none _
   | refine LeO.ite ?_ ?_
   | refine LeO.bind ?_ (fun _ => ?_)
theorem laws_FnExactTurnRig.mono : ∀ a0 a1 k, LeO (laws_FnExactTurnRig.f k a0 a1) (laws_FnExactTurnRig.f (k + 1) a0 a1) := by
 intro a0 a1 k
 have ih0 := laws_FnExactTurnRig.mono_l k
 unfold laws_FnExactTurnRig.f
 repeat' first
   | (with_reducible exact ih0 _ _ _ _ _)
   | (with_reducible exact impl_TurnRig.mono _ _ _)
   | (with_reducible exact laws_eqDeviceS.mono _ _ _)
   | (with_reducible exact laws_heldDeviceS.mono _ _ _)
   | (with_reducible exact laws_markDeviceS.mono _ _ _)
   | (with_reducible exact laws_szDeviceS.mono _ _ _)
   | (with_reducible exact laws_toDeviceS.mono _ _)
   | (with_reducible exact spec_TurnRig.mono _ _ _)
   | (with_reducible exact LeO.refl _)
   | (with_reducible exact LeO.none _)
   | (with_reducible refine LeO.ite ?_ ?_)
   | (with_reducible refine LeO.bind ?_ (fun _ => ?_))
   | exact ih0 _ _ _ _ _
   | exact impl_TurnRig.mono _ _ _
   | exact laws_eqDeviceS.mono _ _ _
   | exact laws_heldDeviceS.mono _ _ _
   | exact laws_markDeviceS.mono _ _ _
   | exact laws_szDeviceS.mono _ _ _
   | exact laws_toDeviceS.mono _ _
   | exact spec_TurnRig.mono _ _ _
   | exact LeO.none _
   | refine LeO.ite ?_ ?_
   | refine LeO.bind ?_ (fun _ => ?_)
set_option maxHeartbeats 8000000 in
set_option maxRecDepth 100000 in
theorem laws_FnExactTurnRig.calls (k : Nat) (A0 : Option Addr) (c0 : Nat) (l0 : List (S25)) (a1 : Int) (r : Bool) (w : World) (hr0 : Kd.C k25 w A0 l0.length l0) (hc0 : l0.length ≤ c0) (h : laws_FnExactTurnRig.f k l0 a1 = some r) :
  Calls Try.prog 11 #[.slice A0 l0.length c0, .int .i64 a1] w fun e w' => e = .returned (.bool r) ∧ Below w.heap.size w w' := by
 have HR0 := Aside0.mk hr0
 have HC0 := Aside0.mk hc0
 clear hr0 hc0
 have HB := Aside0.mk (Below.refl w.heap.size w)
 have H : ((laws_szDeviceS.f k l0 1048576).bind fun t281 => (if t281 < 0 then (some true) else ((laws_toDeviceS.f k l0).bind fun t282 => ((spec_TurnRig.f k t282 a1).bind fun t285 => ((laws_toDeviceS.f k l0).bind fun t288 => ((impl_TurnRig.f k t288 a1).bind fun t291 => ((laws_eqDeviceS.f k t291 t285).bind fun t294 => (if t294 = true then ((laws_toDeviceS.f k l0).bind fun t295 => ((laws_eqDeviceS.f k t288 t295).bind fun t298 => (if t298 = true then ((laws_markDeviceS.f k t288 1).bind fun bt299 => (if bt299.1 < 0 then (laws_FnExactTurnRig.j0 k l0 a1 t285 t291 true) else ((laws_eqDeviceS.f k t291 t285).bind fun t301 => (laws_FnExactTurnRig.j0 k l0 a1 t285 t291 (!t301))))) else (some false)))) else (some false))))))))) = some r := h
 clear h
 replace H := Option.bind_eq_some_iff.mp H
 obtain ⟨t281, A30, H⟩ := H
 replace H : (if t281 < 0 then (some true) else ((laws_toDeviceS.f k l0).bind fun t282 => ((spec_TurnRig.f k t282 a1).bind fun t285 => ((laws_toDeviceS.f k l0).bind fun t288 => ((impl_TurnRig.f k t288 a1).bind fun t291 => ((laws_eqDeviceS.f k t291 t285).bind fun t294 => (if t294 = true then ((laws_toDeviceS.f k l0).bind fun t295 => ((laws_eqDeviceS.f k t288 t295).bind fun t298 => (if t298 = true then ((laws_markDeviceS.f k t288 1).bind fun bt299 => (if bt299.1 < 0 then (laws_FnExactTurnRig.j0 k l0 a1 t285 t291 true) else ((laws_eqDeviceS.f k t291 t285).bind fun t301 => (laws_FnExactTurnRig.j0 k l0 a1 t285 t291 (!t301))))) else (some false)))) else (some false)))))))) = some r := H
 have A3 := Aside0.mk A30
 clear A30
 by_cases c4 : t281 < 0
 ·rw [if_pos c4] at H
  have c4b0 : decide (t281 < 0) = true := decide_eq_true c4
  clear c4
  obtain rfl := Option.some.inj H
  go_enter Try.func11, Try.ntmps11
  go_wp2_with (first | ((with_reducible refine gate_callee (f := 19) rfl ?_); refine goesL_ (some 15) rfl rfl Try.func19 (by kernel_rfl) rfl #[.slice A0 l0.length c0, .int .i64 1048576] rfl u12_1 ?_; (with_reducible refine (laws_szDeviceS.calls k _ _ l0 1048576 t281 _ ?side1 ?side2 A3.out).mono ?_); (case side1 => repeat (first | exact HR0.out | (with_reducible refine Kd.C_alloc ?_ _) | (with_reducible refine Kd.C_drewN ?_ _) | (with_reducible refine Kd.C_drew ?_))); (case side2 => exact HC0.out); rintro e w5 ⟨rfl, hb⟩; refine ⟨_, rfl, ?_⟩; have n0_ := Aside0.mk (below_step u12_0 hb); clear HB; have HB := n0_; clear n0_; (try clear hb); (try clear hb2); (try clear hk); (try clear hi)))
  go_ret
  exact ⟨by first | rfl | (simp [*] <;> rfl), by repeat (first | (with_reducible first | exact HB.out | apply below_alloc | apply pw_below_drewN | apply below_drew1) | exact HB.out)⟩
 ·rw [if_neg c4] at H
  have c4b0 : decide (t281 < 0) = false := decide_eq_false c4
  clear c4
  replace H := Option.bind_eq_some_iff.mp H
  obtain ⟨t282, A60, H⟩ := H
  replace H : ((spec_TurnRig.f k t282 a1).bind fun t285 => ((laws_toDeviceS.f k l0).bind fun t288 => ((impl_TurnRig.f k t288 a1).bind fun t291 => ((laws_eqDeviceS.f k t291 t285).bind fun t294 => (if t294 = true then ((laws_toDeviceS.f k l0).bind fun t295 => ((laws_eqDeviceS.f k t288 t295).bind fun t298 => (if t298 = true then ((laws_markDeviceS.f k t288 1).bind fun bt299 => (if bt299.1 < 0 then (laws_FnExactTurnRig.j0 k l0 a1 t285 t291 true) else ((laws_eqDeviceS.f k t291 t285).bind fun t301 => (laws_FnExactTurnRig.j0 k l0 a1 t285 t291 (!t301))))) else (some false)))) else (some false)))))) = some r := H
  have A6 := Aside0.mk A60
  clear A60
  replace H := Option.bind_eq_some_iff.mp H
  obtain ⟨t285, A70, H⟩ := H
  replace H : ((laws_toDeviceS.f k l0).bind fun t288 => ((impl_TurnRig.f k t288 a1).bind fun t291 => ((laws_eqDeviceS.f k t291 t285).bind fun t294 => (if t294 = true then ((laws_toDeviceS.f k l0).bind fun t295 => ((laws_eqDeviceS.f k t288 t295).bind fun t298 => (if t298 = true then ((laws_markDeviceS.f k t288 1).bind fun bt299 => (if bt299.1 < 0 then (laws_FnExactTurnRig.j0 k l0 a1 t285 t291 true) else ((laws_eqDeviceS.f k t291 t285).bind fun t301 => (laws_FnExactTurnRig.j0 k l0 a1 t285 t291 (!t301))))) else (some false)))) else (some false))))) = some r := H
  have A7 := Aside0.mk A70
  clear A70
  replace H := Option.bind_eq_some_iff.mp H
  obtain ⟨t288, A80, H⟩ := H
  replace H : ((impl_TurnRig.f k t288 a1).bind fun t291 => ((laws_eqDeviceS.f k t291 t285).bind fun t294 => (if t294 = true then ((laws_toDeviceS.f k l0).bind fun t295 => ((laws_eqDeviceS.f k t288 t295).bind fun t298 => (if t298 = true then ((laws_markDeviceS.f k t288 1).bind fun bt299 => (if bt299.1 < 0 then (laws_FnExactTurnRig.j0 k l0 a1 t285 t291 true) else ((laws_eqDeviceS.f k t291 t285).bind fun t301 => (laws_FnExactTurnRig.j0 k l0 a1 t285 t291 (!t301))))) else (some false)))) else (some false)))) = some r := H
  have A8 := Aside0.mk A80
  clear A80
  replace H := Option.bind_eq_some_iff.mp H
  obtain ⟨t291, A90, H⟩ := H
  replace H : ((laws_eqDeviceS.f k t291 t285).bind fun t294 => (if t294 = true then ((laws_toDeviceS.f k l0).bind fun t295 => ((laws_eqDeviceS.f k t288 t295).bind fun t298 => (if t298 = true then ((laws_markDeviceS.f k t288 1).bind fun bt299 => (if bt299.1 < 0 then (laws_FnExactTurnRig.j0 k l0 a1 t285 t291 true) else ((laws_eqDeviceS.f k t291 t285).bind fun t301 => (laws_FnExactTurnRig.j0 k l0 a1 t285 t291 (!t301))))) else (some false)))) else (some false))) = some r := H
  have A9 := Aside0.mk A90
  clear A90
  replace H := Option.bind_eq_some_iff.mp H
  obtain ⟨t294, A100, H⟩ := H
  replace H : (if t294 = true then ((laws_toDeviceS.f k l0).bind fun t295 => ((laws_eqDeviceS.f k t288 t295).bind fun t298 => (if t298 = true then ((laws_markDeviceS.f k t288 1).bind fun bt299 => (if bt299.1 < 0 then (laws_FnExactTurnRig.j0 k l0 a1 t285 t291 true) else ((laws_eqDeviceS.f k t291 t285).bind fun t301 => (laws_FnExactTurnRig.j0 k l0 a1 t285 t291 (!t301))))) else (some false)))) else (some false)) = some r := H
  have A10 := Aside0.mk A100
  clear A100
  by_cases c11 : t294 = true
  ·subst c11
   have H1 : ((laws_toDeviceS.f k l0).bind fun t295 => ((laws_eqDeviceS.f k t288 t295).bind fun t298 => (if t298 = true then ((laws_markDeviceS.f k t288 1).bind fun bt299 => (if bt299.1 < 0 then (laws_FnExactTurnRig.j0 k l0 a1 t285 t291 true) else ((laws_eqDeviceS.f k t291 t285).bind fun t301 => (laws_FnExactTurnRig.j0 k l0 a1 t285 t291 (!t301))))) else (some false)))) = some r := by rw [if_pos rfl] at H; exact H
   clear H
   have H := H1
   clear H1
   replace H := Option.bind_eq_some_iff.mp H
   obtain ⟨t295, A120, H⟩ := H
   replace H : ((laws_eqDeviceS.f k t288 t295).bind fun t298 => (if t298 = true then ((laws_markDeviceS.f k t288 1).bind fun bt299 => (if bt299.1 < 0 then (laws_FnExactTurnRig.j0 k l0 a1 t285 t291 true) else ((laws_eqDeviceS.f k t291 t285).bind fun t301 => (laws_FnExactTurnRig.j0 k l0 a1 t285 t291 (!t301))))) else (some false))) = some r := H
   have A12 := Aside0.mk A120
   clear A120
   replace H := Option.bind_eq_some_iff.mp H
   obtain ⟨t298, A130, H⟩ := H
   replace H : (if t298 = true then ((laws_markDeviceS.f k t288 1).bind fun bt299 => (if bt299.1 < 0 then (laws_FnExactTurnRig.j0 k l0 a1 t285 t291 true) else ((laws_eqDeviceS.f k t291 t285).bind fun t301 => (laws_FnExactTurnRig.j0 k l0 a1 t285 t291 (!t301))))) else (some false)) = some r := H
   have A13 := Aside0.mk A130
   clear A130
   by_cases c14 : t298 = true
   ·subst c14
    have H1 : ((laws_markDeviceS.f k t288 1).bind fun bt299 => (if bt299.1 < 0 then (laws_FnExactTurnRig.j0 k l0 a1 t285 t291 true) else ((laws_eqDeviceS.f k t291 t285).bind fun t301 => (laws_FnExactTurnRig.j0 k l0 a1 t285 t291 (!t301))))) = some r := by rw [if_pos rfl] at H; exact H
    clear H
    have H := H1
    clear H1
    replace H := Option.bind_eq_some_iff.mp H
    obtain ⟨⟨t299, t300⟩, A150, H⟩ := H
    replace H : (if t299 < 0 then (laws_FnExactTurnRig.j0 k l0 a1 t285 t291 true) else ((laws_eqDeviceS.f k t291 t285).bind fun t301 => (laws_FnExactTurnRig.j0 k l0 a1 t285 t291 (!t301)))) = some r := H
    have A15 := Aside0.mk A150
    clear A150
    have HC16 := Aside0.mk H
    clear H
    go_enter Try.func11, Try.ntmps11
    go_upto_region 14 with (first | ((with_reducible refine gate_callee (f := 19) rfl ?_); refine goesL_ (some 15) rfl rfl Try.func19 (by kernel_rfl) rfl #[.slice A0 l0.length c0, .int .i64 1048576] rfl u12_1 ?_; (with_reducible refine (laws_szDeviceS.calls k _ _ l0 1048576 t281 _ ?side1 ?side2 A3.out).mono ?_); (case side1 => repeat (first | exact HR0.out | (with_reducible refine Kd.C_alloc ?_ _) | (with_reducible refine Kd.C_drewN ?_ _) | (with_reducible refine Kd.C_drew ?_))); (case side2 => exact HC0.out); rintro e w17 ⟨rfl, hb⟩; refine ⟨_, rfl, ?_⟩; have n0_ := Aside0.mk (below_step u12_0 hb); clear HB; have HB := n0_; clear n0_; (try clear hb); (try clear hb2); (try clear hk); (try clear hi)) | ((with_reducible refine gate_callee (f := 21) rfl ?_); refine goesL_ (some 19) rfl rfl Try.func21 (by kernel_rfl) rfl #[.slice A0 l0.length c0] rfl u12_1 ?_; (with_reducible refine (laws_toDeviceS.calls k _ _ l0 t282 _ ?side1 ?side2 A6.out).mono ?_); (case side1 => repeat (first | exact (Kd.C_below HR0.out HB.out) | (with_reducible refine Kd.C_alloc ?_ _) | (with_reducible refine Kd.C_drewN ?_ _) | (with_reducible refine Kd.C_drew ?_))); (case side2 => exact HC0.out); rintro e w18 ⟨v283, rfl, ho0, hb⟩; refine ⟨_, rfl, ?_⟩; have n0_ := Aside0.mk (Kd.R_lower ho0 (below_size u12_0)); have n1_ := Aside0.mk (below_step u12_0 hb); clear HB; have HO284 := n0_; have HB := n1_; clear n0_ n1_; (try clear hb); (try clear hb2); (try clear hk); (try clear hi); (try clear ho0); obtain ⟨Ao19, co19, eo19⟩ := Kd.R_slice HO284.out; subst eo19) | ((with_reducible refine gate_callee (f := 42) rfl ?_); refine goesL_ (some 21) rfl rfl Try.func42 (by kernel_rfl) rfl #[.slice Ao19 t282.length co19, .int .i64 a1] rfl u12_1 ?_; (with_reducible refine (spec_TurnRig.calls k _ _ t282 a1 t285 _ ?side1 ?side2 A7.out).mono ?_); (case side1 => repeat (first | exact (Kd.R_reads' HO284.out).2.2 | (with_reducible refine Kd.C_alloc ?_ _) | (with_reducible refine Kd.C_drewN ?_ _) | (with_reducible refine Kd.C_drew ?_))); (case side2 => exact (Kd.R_reads' HO284.out).2.1); rintro e w20 ⟨v286, rfl, ho0, hb⟩; refine ⟨_, rfl, ?_⟩; have n0_ := Aside0.mk (Kd.R_elder' u12_4 (Kd.R_base ho0) hb); have n1_ := Aside0.mk (Kd.R_lower (Kd.R_new' ho0 (Kd.R_lt u12_4)) (below_size u12_0)); have n2_ := Aside0.mk (below_step u12_0 hb); clear HO284; clear HB; have HO284 := n0_; have HO287 := n1_; have HB := n2_; clear n0_ n1_ n2_; (try clear hb); (try clear hb2); (try clear hk); (try clear hi); (try clear ho0)) | ((with_reducible refine gate_callee (f := 21) rfl ?_); refine goesL_ (some 23) rfl rfl Try.func21 (by kernel_rfl) rfl #[.slice A0 l0.length c0] rfl u12_1 ?_; (with_reducible refine (laws_toDeviceS.calls k _ _ l0 t288 _ ?side1 ?side2 A8.out).mono ?_); (case side1 => repeat (first | exact (Kd.C_below HR0.out HB.out) | (with_reducible refine Kd.C_alloc ?_ _) | (with_reducible refine Kd.C_drewN ?_ _) | (with_reducible refine Kd.C_drew ?_))); (case side2 => exact HC0.out); rintro e w21 ⟨v289, rfl, ho0, hb⟩; refine ⟨_, rfl, ?_⟩; have n0_ := Aside0.mk (Kd.R_elder' u12_4 (Kd.R_base ho0) hb); have n1_ := Aside0.mk (Kd.R_elder' u12_5 (Kd.R_base ho0) hb); have n2_ := Aside0.mk (Kd.R_lower (Kd.R_new' (Kd.R_new' ho0 (Kd.R_lt u12_4)) (Kd.R_lt u12_5)) (below_size u12_0)); have n3_ := Aside0.mk (below_step u12_0 hb); clear HO284; clear HO287; clear HB; have HO284 := n0_; have HO287 := n1_; have HO290 := n2_; have HB := n3_; clear n0_ n1_ n2_ n3_; (try clear hb); (try clear hb2); (try clear hk); (try clear hi); (try clear ho0); obtain ⟨Ao22, co22, eo22⟩ := Kd.R_slice HO290.out; subst eo22) | ((with_reducible refine gate_callee (f := 43) rfl ?_); refine goesL_ (some 26) rfl rfl Try.func43 (by kernel_rfl) rfl #[.slice Ao22 t288.length co22, .int .i64 a1] rfl u12_1 ?_; (with_reducible refine (impl_TurnRig.calls k _ _ t288 a1 t291 _ ?side1 ?side2 A9.out).mono ?_); (case side1 => repeat (first | exact (Kd.R_reads' HO290.out).2.2 | (with_reducible refine Kd.C_alloc ?_ _) | (with_reducible refine Kd.C_drewN ?_ _) | (with_reducible refine Kd.C_drew ?_))); (case side2 => exact (Kd.R_reads' HO290.out).2.1); rintro e w23 ⟨v292, rfl, ho0, hb⟩; refine ⟨_, rfl, ?_⟩; have n0_ := Aside0.mk (Kd.R_elder' u12_4 (Kd.R_base ho0) hb); have n1_ := Aside0.mk (Kd.R_elder' u12_5 (Kd.R_base ho0) hb); have n2_ := Aside0.mk (Kd.R_elder' u12_8 (Kd.R_base ho0) hb); have n3_ := Aside0.mk (Kd.R_lower (Kd.R_new' (Kd.R_new' (Kd.R_new' ho0 (Kd.R_lt u12_4)) (Kd.R_lt u12_5)) (Kd.R_lt u12_8)) (below_size u12_0)); have n4_ := Aside0.mk (below_step u12_0 hb); clear HO284; clear HO287; clear HO290; clear HB; have HO284 := n0_; have HO287 := n1_; have HO290 := n2_; have HO293 := n3_; have HB := n4_; clear n0_ n1_ n2_ n3_ n4_; (try clear hb); (try clear hb2); (try clear hk); (try clear hi); (try clear ho0); obtain ⟨Ao24, co24, eo24⟩ := Kd.R_slice HO293.out; subst eo24; obtain ⟨Ao25, co25, eo25⟩ := Kd.R_slice HO287.out; subst eo25) | ((with_reducible refine gate_callee (f := 23) rfl ?_); refine goesL_ (some 29) rfl rfl Try.func23 (by kernel_rfl) rfl #[.slice Ao24 t291.length co24, .slice Ao25 t285.length co25] rfl u12_1 ?_; (with_reducible refine (laws_eqDeviceS.calls k _ _ t291 _ _ t285 true _ ?side1 ?side2 ?side3 ?side4 A10.out).mono ?_); (case side1 => repeat (first | exact (Kd.R_reads' HO293.out).2.2 | (with_reducible refine Kd.C_alloc ?_ _) | (with_reducible refine Kd.C_drewN ?_ _) | (with_reducible refine Kd.C_drew ?_))); (case side2 => exact (Kd.R_reads' HO293.out).2.1); (case side3 => repeat (first | exact (Kd.R_reads' HO287.out).2.2 | (with_reducible refine Kd.C_alloc ?_ _) | (with_reducible refine Kd.C_drewN ?_ _) | (with_reducible refine Kd.C_drew ?_))); (case side4 => exact (Kd.R_reads' HO287.out).2.1); rintro e w26 ⟨rfl, hb⟩; refine ⟨_, rfl, ?_⟩; have n0_ := Aside0.mk (Kd.R_below u12_4 hb); have n1_ := Aside0.mk (Kd.R_below u12_5 hb); have n2_ := Aside0.mk (Kd.R_below u12_8 hb); have n3_ := Aside0.mk (Kd.R_below u12_11 hb); have n4_ := Aside0.mk (below_step u12_0 hb); clear HO284; clear HO287; clear HO290; clear HO293; clear HB; have HO284 := n0_; have HO287 := n1_; have HO290 := n2_; have HO293 := n3_; have HB := n4_; clear n0_ n1_ n2_ n3_ n4_; (try clear hb); (try clear hb2); (try clear hk); (try clear hi)) | ((with_reducible refine gate_callee (f := 21) rfl ?_); refine goesL_ (some 33) rfl rfl Try.func21 (by kernel_rfl) rfl #[.slice A0 l0.length c0] rfl u12_1 ?_; (with_reducible refine (laws_toDeviceS.calls k _ _ l0 t295 _ ?side1 ?side2 A12.out).mono ?_); (case side1 => repeat (first | exact (Kd.C_below HR0.out HB.out) | (with_reducible refine Kd.C_alloc ?_ _) | (with_reducible refine Kd.C_drewN ?_ _) | (with_reducible refine Kd.C_drew ?_))); (case side2 => exact HC0.out); rintro e w27 ⟨v296, rfl, ho0, hb⟩; refine ⟨_, rfl, ?_⟩; have n0_ := Aside0.mk (Kd.R_elder' u12_4 (Kd.R_base ho0) hb); have n1_ := Aside0.mk (Kd.R_elder' u12_5 (Kd.R_base ho0) hb); have n2_ := Aside0.mk (Kd.R_elder' u12_8 (Kd.R_base ho0) hb); have n3_ := Aside0.mk (Kd.R_elder' u12_11 (Kd.R_base ho0) hb); have n4_ := Aside0.mk (Kd.R_lower (Kd.R_new' (Kd.R_new' (Kd.R_new' (Kd.R_new' ho0 (Kd.R_lt u12_4)) (Kd.R_lt u12_5)) (Kd.R_lt u12_8)) (Kd.R_lt u12_11)) (below_size u12_0)); have n5_ := Aside0.mk (below_step u12_0 hb); clear HO284; clear HO287; clear HO290; clear HO293; clear HB; have HO284 := n0_; have HO287 := n1_; have HO290 := n2_; have HO293 := n3_; have HO297 := n4_; have HB := n5_; clear n0_ n1_ n2_ n3_ n4_ n5_; (try clear hb); (try clear hb2); (try clear hk); (try clear hi); (try clear ho0); obtain ⟨Ao28, co28, eo28⟩ := Kd.R_slice HO297.out; subst eo28) | ((with_reducible refine gate_callee (f := 23) rfl ?_); refine goesL_ (some 34) rfl rfl Try.func23 (by kernel_rfl) rfl #[.slice Ao22 t288.length co22, .slice Ao28 t295.length co28] rfl u12_1 ?_; (with_reducible refine (laws_eqDeviceS.calls k _ _ t288 _ _ t295 true _ ?side1 ?side2 ?side3 ?side4 A13.out).mono ?_); (case side1 => repeat (first | exact (Kd.R_reads' HO290.out).2.2 | (with_reducible refine Kd.C_alloc ?_ _) | (with_reducible refine Kd.C_drewN ?_ _) | (with_reducible refine Kd.C_drew ?_))); (case side2 => exact (Kd.R_reads' HO290.out).2.1); (case side3 => repeat (first | exact (Kd.R_reads' HO297.out).2.2 | (with_reducible refine Kd.C_alloc ?_ _) | (with_reducible refine Kd.C_drewN ?_ _) | (with_reducible refine Kd.C_drew ?_))); (case side4 => exact (Kd.R_reads' HO297.out).2.1); rintro e w29 ⟨rfl, hb⟩; refine ⟨_, rfl, ?_⟩; have n0_ := Aside0.mk (Kd.R_below u12_4 hb); have n1_ := Aside0.mk (Kd.R_below u12_5 hb); have n2_ := Aside0.mk (Kd.R_below u12_8 hb); have n3_ := Aside0.mk (Kd.R_below u12_11 hb); have n4_ := Aside0.mk (Kd.R_below u12_19 hb); have n5_ := Aside0.mk (below_step u12_0 hb); clear HO284; clear HO287; clear HO290; clear HO293; clear HO297; clear HB; have HO284 := n0_; have HO287 := n1_; have HO290 := n2_; have HO293 := n3_; have HO297 := n4_; have HB := n5_; clear n0_ n1_ n2_ n3_ n4_ n5_; (try clear hb); (try clear hb2); (try clear hk); (try clear hi)) | ((with_reducible refine gate_callee (f := 36) rfl ?_); refine goesL_ (some 38) rfl rfl Try.func36 (by kernel_rfl) rfl #[.slice Ao22 t288.length co22, .int .i64 1] rfl u12_1 ?_; (with_reducible refine (laws_markDeviceS.calls k (fun k_ => some k_ = (.slice Ao22 t288.length co22 : Value).ownBlock) (.slice Ao22 t288.length co22) t288 1 t299 t300 w _ ?side1 ?side2 A15.out).mono ?_); (case side1 => repeat (first | (with_reducible first | exact HB.out | apply below_alloc | apply pw_below_drewN | apply below_drew1) | exact HB.out)); (case side2 => exact Kd.R_tight rfl HO290.out); rintro e w30 ⟨rfl, hy0, hb, hkp⟩; refine ⟨_, rfl, ?_⟩; have n0_ := Aside0.mk (Kd.R_mono (ok' := fun k_ => some k_ ≠ (.slice Ao25 t285.length co25 : Value).ownBlock ∧ some k_ ≠ (.slice Ao22 t288.length co22 : Value).ownBlock ∧ some k_ ≠ (.slice Ao24 t291.length co24 : Value).ownBlock ∧ some k_ ≠ (.slice Ao28 t295.length co28 : Value).ownBlock) (Kd.R_keptB (HO284.out) hkp (fun k_ hk_ hs_ => (hk_.1.1.2) hs_)) (fun k_ hk_ => ⟨hk_.1.1.1.1.2, hk_.1.1.1.2, hk_.1.1.2, hk_.1.2⟩)); have n1_ := Aside0.mk (Kd.R_mono (ok' := fun k_ => some k_ ≠ (.slice Ao19 t282.length co19 : Value).ownBlock ∧ some k_ ≠ (.slice Ao22 t288.length co22 : Value).ownBlock ∧ some k_ ≠ (.slice Ao24 t291.length co24 : Value).ownBlock ∧ some k_ ≠ (.slice Ao28 t295.length co28 : Value).ownBlock) (Kd.R_keptB (HO287.out) hkp (fun k_ hk_ hs_ => (hk_.1.1.2) hs_)) (fun k_ hk_ => ⟨hk_.1.1.1.1.2, hk_.1.1.1.2, hk_.1.1.2, hk_.1.2⟩)); have n2_ := Aside0.mk (Kd.R_reok rfl hy0 (fun k_ e_ => HO290.out.1 k_ e_)); have n3_ := Aside0.mk (Kd.R_mono (ok' := fun k_ => some k_ ≠ (.slice Ao19 t282.length co19 : Value).ownBlock ∧ some k_ ≠ (.slice Ao25 t285.length co25 : Value).ownBlock ∧ some k_ ≠ (.slice Ao22 t288.length co22 : Value).ownBlock ∧ some k_ ≠ (.slice Ao28 t295.length co28 : Value).ownBlock) (Kd.R_keptB (HO293.out) hkp (fun k_ hk_ hs_ => (hk_.1.2) hs_)) (fun k_ hk_ => ⟨hk_.1.1.1.1.2, hk_.1.1.1.2, hk_.1.1.2, hk_.1.2⟩)); have n4_ := Aside0.mk (Kd.R_mono (ok' := fun k_ => some k_ ≠ (.slice Ao19 t282.length co19 : Value).ownBlock ∧ some k_ ≠ (.slice Ao25 t285.length co25 : Value).ownBlock ∧ some k_ ≠ (.slice Ao22 t288.length co22 : Value).ownBlock ∧ some k_ ≠ (.slice Ao24 t291.length co24 : Value).ownBlock) (Kd.R_keptB (HO297.out) hkp (fun k_ hk_ hs_ => (hk_.1.2) hs_)) (fun k_ hk_ => ⟨hk_.1.1.1.1.2, hk_.1.1.1.2, hk_.1.1.2, hk_.1.2⟩)); have n5_ := Aside0.mk (hb); clear HO284; clear HO287; clear HO290; clear HO293; clear HO297; clear HB; have HO284 := n0_; have HO287 := n1_; have HO290 := n2_; have HO293 := n3_; have HO297 := n4_; have HB := n5_; clear n0_ n1_ n2_ n3_ n4_ n5_; (try clear hb); (try clear hkp); (try clear hy0)))
    (try simp only [Act.put, List.setIfInBounds_toArray, List.set_cons_zero, List.set_cons_succ])
    go_cut [46] (fun v46 wc => ∃ (kq : Nat) (x46_15 : Bool), v46 = .bool x46_15 ∧ Aside0 (laws_FnExactTurnRig.j0 kq l0 a1 t285 t291 x46_15 = some r) ∧ Aside0 (kq ≤ k) ∧ Aside0 (Kd.R k30 30 wc w.heap.size (fun k_ => some k_ ≠ ((.slice Ao24 t291.length co24) : Value).ownBlock) (.slice Ao25 t285.length co25) t285) ∧ Aside0 (Kd.R k30 30 wc w.heap.size (fun k_ => some k_ ≠ ((.slice Ao25 t285.length co25) : Value).ownBlock) (.slice Ao24 t291.length co24) t291) ∧ Aside0 (Below w.heap.size w wc))
    case first =>
     have H := HC16.out
     clear HC16
     by_cases c31 : t299 < 0
     ·rw [if_pos c31] at H
      have c31b0 : decide (t299 < 0) = true := decide_eq_true c31
      clear c31
      (first | rw [c31b0] | (simp only [i64_w, i32_w]; rw [c31b0]) | skip)
      have H' := Aside0.mk H
      clear H
      go_wp2
      go_meet
      case rel => exact ⟨_, (true), u12_17, H', ⟨by first | omega | exact Nat.le_refl _⟩, ⟨by (with_reducible repeat (first | apply Kd.R_alloc | apply Kd.R_drewN | apply Kd.R_drew)); exact Kd.R_mono HO287.out (fun _ hk => hk.2.2.1)⟩, ⟨by (with_reducible repeat (first | apply Kd.R_alloc | apply Kd.R_drewN | apply Kd.R_drew)); exact Kd.R_mono HO293.out (fun _ hk => hk.2.1)⟩, ⟨by repeat (first | (with_reducible first | exact HB.out | apply below_alloc | apply pw_below_drewN | apply below_drew1) | exact HB.out)⟩⟩
     ·rw [if_neg c31] at H
      have c31b0 : decide (t299 < 0) = false := decide_eq_false c31
      clear c31
      (first | rw [c31b0] | (simp only [i64_w, i32_w]; rw [c31b0]) | skip)
      replace H := Option.bind_eq_some_iff.mp H
      obtain ⟨t301, A320, H⟩ := H
      replace H : (laws_FnExactTurnRig.j0 k l0 a1 t285 t291 (!t301)) = some r := H
      have A32 := Aside0.mk A320
      clear A320
      have H' := Aside0.mk H
      clear H
      go_wp2_with (first | (go_at_call 23; (with_reducible refine (laws_eqDeviceS.calls k _ _ t291 _ _ t285 t301 _ ?side1 ?side2 ?side3 ?side4 A32.out).mono ?_); (case side1 => repeat (first | exact (Kd.R_reads' HO293.out).2.2 | (with_reducible refine Kd.C_alloc ?_ _) | (with_reducible refine Kd.C_drewN ?_ _) | (with_reducible refine Kd.C_drew ?_))); (case side2 => exact (Kd.R_reads' HO293.out).2.1); (case side3 => repeat (first | exact (Kd.R_reads' HO287.out).2.2 | (with_reducible refine Kd.C_alloc ?_ _) | (with_reducible refine Kd.C_drewN ?_ _) | (with_reducible refine Kd.C_drew ?_))); (case side4 => exact (Kd.R_reads' HO287.out).2.1); rintro e w33 ⟨rfl, hb⟩; have n0_ := Aside0.mk (Kd.R_below u12_4 hb); have n1_ := Aside0.mk (Kd.R_below u12_5 hb); have n2_ := Aside0.mk (Kd.R_below u12_8 hb); have n3_ := Aside0.mk (Kd.R_below u12_11 hb); have n4_ := Aside0.mk (Kd.R_below u12_19 hb); have n5_ := Aside0.mk (below_step u12_0 hb); clear HO284; clear HO287; clear HO290; clear HO293; clear HO297; clear HB; have HO284 := n0_; have HO287 := n1_; have HO290 := n2_; have HO293 := n3_; have HO297 := n4_; have HB := n5_; clear n0_ n1_ n2_ n3_ n4_ n5_; (try clear hb); (try clear hb2); (try clear hk); (try clear hi)))
      go_meet
      case rel => exact ⟨_, (!t301), u12_17, H', ⟨by first | omega | exact Nat.le_refl _⟩, ⟨by (with_reducible repeat (first | apply Kd.R_alloc | apply Kd.R_drewN | apply Kd.R_drew)); exact Kd.R_mono HO287.out (fun _ hk => hk.2.2.1)⟩, ⟨by (with_reducible repeat (first | apply Kd.R_alloc | apply Kd.R_drewN | apply Kd.R_drew)); exact Kd.R_mono HO293.out (fun _ hk => hk.2.1)⟩, ⟨by repeat (first | (with_reducible first | exact HB.out | apply below_alloc | apply pw_below_drewN | apply below_drew1) | exact HB.out)⟩⟩
    case rest =>
     clear HC16
     try clear c1
     try clear c2
     try clear p2
     try clear c3
     try clear c4
     try clear c4b0
     try clear c11
     try clear c14
     try clear c19
     try clear c21
     try clear c23
     try clear c31
     try clear c31b0
     obtain ⟨kq, x46_15, rfl, HA, HJ15, HO_6, HO_8, HB⟩ := hcut
     cases kq with
     | zero => exact absurd HA.out (by simp [laws_FnExactTurnRig.j0])
     | succ kj15 =>
      have H := HA.out
      clear HA
      simp only [laws_FnExactTurnRig.j0] at H
      by_cases c34 : x46_15 = true
      ·subst c34
       have H1 : (some false) = some r := by rw [if_pos rfl] at H; exact H
       clear H
       have H := H1
       clear H1
       obtain rfl := Option.some.inj H
       go_wp2
       go_ret
       exact ⟨by first | rfl | (simp [*] <;> rfl), by repeat (first | (with_reducible first | exact HB.out | apply below_alloc | apply pw_below_drewN | apply below_drew1) | exact HB.out)⟩
      ·replace c34 := Bool.eq_false_iff.mpr c34
       subst c34
       have H1 : ((laws_markDeviceS.f kj15 t291 1).bind fun bt302 => ((laws_heldDeviceS.f kj15 bt302.2 1).bind fun t304 => (if t304 < 0 then (some false) else (if t304 = bt302.1 then ((laws_toDeviceS.f kj15 l0).bind fun t305 => ((impl_TurnRig.f kj15 t305 a1).bind fun t308 => ((laws_eqDeviceS.f kj15 t308 t285).bind fun t311 => (if t311 = true then ((laws_heldDeviceS.f kj15 bt302.2 1).bind fun t312 => (if t312 < 0 then (some false) else (if t312 = bt302.1 then (some true) else (some false)))) else (some false))))) else (some false))))) = some r := by rw [if_neg (show ¬ (false = true) by decide)] at H; exact H
       clear H
       have H := H1
       clear H1
       replace H := Option.bind_eq_some_iff.mp H
       obtain ⟨⟨t302, t303⟩, A350, H⟩ := H
       replace H : ((laws_heldDeviceS.f kj15 t303 1).bind fun t304 => (if t304 < 0 then (some false) else (if t304 = t302 then ((laws_toDeviceS.f kj15 l0).bind fun t305 => ((impl_TurnRig.f kj15 t305 a1).bind fun t308 => ((laws_eqDeviceS.f kj15 t308 t285).bind fun t311 => (if t311 = true then ((laws_heldDeviceS.f kj15 t303 1).bind fun t312 => (if t312 < 0 then (some false) else (if t312 = t302 then (some true) else (some false)))) else (some false))))) else (some false)))) = some r := H
       have A35 := Aside0.mk A350
       clear A350
       replace H := Option.bind_eq_some_iff.mp H
       obtain ⟨t304, A360, H⟩ := H
       replace H : (if t304 < 0 then (some false) else (if t304 = t302 then ((laws_toDeviceS.f kj15 l0).bind fun t305 => ((impl_TurnRig.f kj15 t305 a1).bind fun t308 => ((laws_eqDeviceS.f kj15 t308 t285).bind fun t311 => (if t311 = true then ((laws_heldDeviceS.f kj15 t303 1).bind fun t312 => (if t312 < 0 then (some false) else (if t312 = t302 then (some true) else (some false)))) else (some false))))) else (some false))) = some r := H
       have A36 := Aside0.mk A360
       clear A360
       by_cases c37 : t304 < 0
       ·rw [if_pos c37] at H
        have c37b0 : decide (t304 < 0) = true := decide_eq_true c37
        clear c37
        obtain rfl := Option.some.inj H
        go_wp2_with (first | ((with_reducible refine gate_callee (f := 36) rfl ?_); refine goesL_ (some 49) rfl rfl Try.func36 (by kernel_rfl) rfl #[.slice Ao24 t291.length co24, .int .i64 1] rfl u12_1 ?_; (with_reducible refine (laws_markDeviceS.calls kj15 (fun k_ => some k_ = (.slice Ao24 t291.length co24 : Value).ownBlock) (.slice Ao24 t291.length co24) t291 1 t302 t303 w _ ?side1 ?side2 A35.out).mono ?_); (case side1 => repeat (first | (with_reducible first | exact HB.out | apply below_alloc | apply pw_below_drewN | apply below_drew1) | exact HB.out)); (case side2 => exact Kd.R_tight rfl HO_8.out); rintro e w38 ⟨rfl, hy0, hb, hkp⟩; refine ⟨_, rfl, ?_⟩; have n0_ := Aside0.mk (Kd.R_mono (ok' := fun k_ => some k_ ≠ (.slice Ao24 t291.length co24 : Value).ownBlock) (Kd.R_keptB (HO_6.out) hkp (fun k_ hk_ hs_ => (hk_) hs_)) (fun k_ hk_ => hk_.1)); have n1_ := Aside0.mk (Kd.R_reok rfl hy0 (fun k_ e_ => HO_8.out.1 k_ e_)); have n2_ := Aside0.mk (hb); clear HO_6; clear HO_8; clear HB; have HO_6 := n0_; have HO_8 := n1_; have HB := n2_; clear n0_ n1_ n2_; (try clear hb); (try clear hkp); (try clear hy0)) | ((with_reducible refine gate_callee (f := 41) rfl ?_); refine goesL_ (some 52) rfl rfl Try.func41 (by kernel_rfl) rfl #[.slice Ao24 t303.length co24, .int .i64 1] rfl u12_7 ?_; (with_reducible refine (laws_heldDeviceS.calls kj15 _ _ t303 1 t304 _ ?side1 ?side2 A36.out).mono ?_); (case side1 => repeat (first | exact (Kd.R_reads' HO_8.out).2.2 | (with_reducible refine Kd.C_alloc ?_ _) | (with_reducible refine Kd.C_drewN ?_ _) | (with_reducible refine Kd.C_drew ?_))); (case side2 => rw [show t303.length = t291.length from (Kd.R_reads' HO_8.out).1.symm]; exact (Kd.R_reads' HO_8.out).2.1); rintro e w39 ⟨rfl, hb⟩; refine ⟨_, rfl, ?_⟩; have n0_ := Aside0.mk (Kd.R_below u12_3 hb); have n1_ := Aside0.mk (Kd.R_below u12_2 hb); have n2_ := Aside0.mk (below_step u12_0 hb); clear HO_6; clear HO_8; clear HB; have HO_6 := n0_; have HO_8 := n1_; have HB := n2_; clear n0_ n1_ n2_; (try clear hb); (try clear hb2); (try clear hk); (try clear hi)))
        go_ret
        exact ⟨by first | rfl | (simp [*] <;> rfl), by repeat (first | (with_reducible first | exact HB.out | apply below_alloc | apply pw_below_drewN | apply below_drew1) | exact HB.out)⟩
       ·rw [if_neg c37] at H
        have c37b0 : decide (t304 < 0) = false := decide_eq_false c37
        clear c37
        by_cases c40 : t304 = t302
        ·rw [if_pos c40] at H
         have c40b0 : (t304 == t302) = true := beq_iff_eq.mpr c40
         have c40b1 : (t304 != t302) = false := bne_eq_false_iff_eq.mpr c40
         clear c40
         replace H := Option.bind_eq_some_iff.mp H
         obtain ⟨t305, A410, H⟩ := H
         replace H : ((impl_TurnRig.f kj15 t305 a1).bind fun t308 => ((laws_eqDeviceS.f kj15 t308 t285).bind fun t311 => (if t311 = true then ((laws_heldDeviceS.f kj15 t303 1).bind fun t312 => (if t312 < 0 then (some false) else (if t312 = t302 then (some true) else (some false)))) else (some false)))) = some r := H
         have A41 := Aside0.mk A410
         clear A410
         replace H := Option.bind_eq_some_iff.mp H
         obtain ⟨t308, A420, H⟩ := H
         replace H : ((laws_eqDeviceS.f kj15 t308 t285).bind fun t311 => (if t311 = true then ((laws_heldDeviceS.f kj15 t303 1).bind fun t312 => (if t312 < 0 then (some false) else (if t312 = t302 then (some true) else (some false)))) else (some false))) = some r := H
         have A42 := Aside0.mk A420
         clear A420
         replace H := Option.bind_eq_some_iff.mp H
         obtain ⟨t311, A430, H⟩ := H
         replace H : (if t311 = true then ((laws_heldDeviceS.f kj15 t303 1).bind fun t312 => (if t312 < 0 then (some false) else (if t312 = t302 then (some true) else (some false)))) else (some false)) = some r := H
         have A43 := Aside0.mk A430
         clear A430
         by_cases c44 : t311 = true
         ·subst c44
          have H1 : ((laws_heldDeviceS.f kj15 t303 1).bind fun t312 => (if t312 < 0 then (some false) else (if t312 = t302 then (some true) else (some false)))) = some r := by rw [if_pos rfl] at H; exact H
          clear H
          have H := H1
          clear H1
          replace H := Option.bind_eq_some_iff.mp H
          obtain ⟨t312, A450, H⟩ := H
          replace H : (if t312 < 0 then (some false) else (if t312 = t302 then (some true) else (some false))) = some r := H
          have A45 := Aside0.mk A450
          clear A450
          by_cases c46 : t312 < 0
          ·rw [if_pos c46] at H
           have c46b0 : decide (t312 < 0) = true := decide_eq_true c46
           clear c46
           obtain rfl := Option.some.inj H
           go_wp2_with (first | ((with_reducible refine gate_callee (f := 36) rfl ?_); refine goesL_ (some 49) rfl rfl Try.func36 (by kernel_rfl) rfl #[.slice Ao24 t291.length co24, .int .i64 1] rfl u12_1 ?_; (with_reducible refine (laws_markDeviceS.calls kj15 (fun k_ => some k_ = (.slice Ao24 t291.length co24 : Value).ownBlock) (.slice Ao24 t291.length co24) t291 1 t302 t303 w _ ?side1 ?side2 A35.out).mono ?_); (case side1 => repeat (first | (with_reducible first | exact HB.out | apply below_alloc | apply pw_below_drewN | apply below_drew1) | exact HB.out)); (case side2 => exact Kd.R_tight rfl HO_8.out); rintro e w47 ⟨rfl, hy0, hb, hkp⟩; refine ⟨_, rfl, ?_⟩; have n0_ := Aside0.mk (Kd.R_mono (ok' := fun k_ => some k_ ≠ (.slice Ao24 t291.length co24 : Value).ownBlock) (Kd.R_keptB (HO_6.out) hkp (fun k_ hk_ hs_ => (hk_) hs_)) (fun k_ hk_ => hk_.1)); have n1_ := Aside0.mk (Kd.R_reok rfl hy0 (fun k_ e_ => HO_8.out.1 k_ e_)); have n2_ := Aside0.mk (hb); clear HO_6; clear HO_8; clear HB; have HO_6 := n0_; have HO_8 := n1_; have HB := n2_; clear n0_ n1_ n2_; (try clear hb); (try clear hkp); (try clear hy0)) | ((with_reducible refine gate_callee (f := 41) rfl ?_); refine goesL_ (some 52) rfl rfl Try.func41 (by kernel_rfl) rfl #[.slice Ao24 t303.length co24, .int .i64 1] rfl u12_7 ?_; (with_reducible refine (laws_heldDeviceS.calls kj15 _ _ t303 1 t304 _ ?side1 ?side2 A36.out).mono ?_); (case side1 => repeat (first | exact (Kd.R_reads' HO_8.out).2.2 | (with_reducible refine Kd.C_alloc ?_ _) | (with_reducible refine Kd.C_drewN ?_ _) | (with_reducible refine Kd.C_drew ?_))); (case side2 => rw [show t303.length = t291.length from (Kd.R_reads' HO_8.out).1.symm]; exact (Kd.R_reads' HO_8.out).2.1); rintro e w48 ⟨rfl, hb⟩; refine ⟨_, rfl, ?_⟩; have n0_ := Aside0.mk (Kd.R_below u12_3 hb); have n1_ := Aside0.mk (Kd.R_below u12_2 hb); have n2_ := Aside0.mk (below_step u12_0 hb); clear HO_6; clear HO_8; clear HB; have HO_6 := n0_; have HO_8 := n1_; have HB := n2_; clear n0_ n1_ n2_; (try clear hb); (try clear hb2); (try clear hk); (try clear hi)) | ((with_reducible refine gate_callee (f := 21) rfl ?_); refine goesL_ (some 59) rfl rfl Try.func21 (by kernel_rfl) rfl #[.slice A0 l0.length c0] rfl u12_1 ?_; (with_reducible refine (laws_toDeviceS.calls kj15 _ _ l0 t305 _ ?side1 ?side2 A41.out).mono ?_); (case side1 => repeat (first | exact (Kd.C_below HR0.out HB.out) | (with_reducible refine Kd.C_alloc ?_ _) | (with_reducible refine Kd.C_drewN ?_ _) | (with_reducible refine Kd.C_drew ?_))); (case side2 => exact HC0.out); rintro e w49 ⟨v306, rfl, ho0, hb⟩; refine ⟨_, rfl, ?_⟩; have n0_ := Aside0.mk (Kd.R_elder' u12_3 (Kd.R_base ho0) hb); have n1_ := Aside0.mk (Kd.R_elder' u12_2 (Kd.R_base ho0) hb); have n2_ := Aside0.mk (Kd.R_lower (Kd.R_new' (Kd.R_new' ho0 (Kd.R_lt u12_3)) (Kd.R_lt u12_2)) (below_size u12_0)); have n3_ := Aside0.mk (below_step u12_0 hb); clear HO_6; clear HO_8; clear HB; have HO_6 := n0_; have HO_8 := n1_; have HO307 := n2_; have HB := n3_; clear n0_ n1_ n2_ n3_; (try clear hb); (try clear hb2); (try clear hk); (try clear hi); (try clear ho0); obtain ⟨Ao50, co50, eo50⟩ := Kd.R_slice HO307.out; subst eo50) | ((with_reducible refine gate_callee (f := 43) rfl ?_); refine goesL_ (some 61) rfl rfl Try.func43 (by kernel_rfl) rfl #[.slice Ao50 t305.length co50, .int .i64 a1] rfl u12_1 ?_; (with_reducible refine (impl_TurnRig.calls kj15 _ _ t305 a1 t308 _ ?side1 ?side2 A42.out).mono ?_); (case side1 => repeat (first | exact (Kd.R_reads' HO307.out).2.2 | (with_reducible refine Kd.C_alloc ?_ _) | (with_reducible refine Kd.C_drewN ?_ _) | (with_reducible refine Kd.C_drew ?_))); (case side2 => exact (Kd.R_reads' HO307.out).2.1); rintro e w51 ⟨v309, rfl, ho0, hb⟩; refine ⟨_, rfl, ?_⟩; have n0_ := Aside0.mk (Kd.R_elder' u12_3 (Kd.R_base ho0) hb); have n1_ := Aside0.mk (Kd.R_elder' u12_2 (Kd.R_base ho0) hb); have n2_ := Aside0.mk (Kd.R_elder' u12_9 (Kd.R_base ho0) hb); have n3_ := Aside0.mk (Kd.R_lower (Kd.R_new' (Kd.R_new' (Kd.R_new' ho0 (Kd.R_lt u12_3)) (Kd.R_lt u12_2)) (Kd.R_lt u12_9)) (below_size u12_0)); have n4_ := Aside0.mk (below_step u12_0 hb); clear HO_6; clear HO_8; clear HO307; clear HB; have HO_6 := n0_; have HO_8 := n1_; have HO307 := n2_; have HO310 := n3_; have HB := n4_; clear n0_ n1_ n2_ n3_ n4_; (try clear hb); (try clear hb2); (try clear hk); (try clear hi); (try clear ho0); obtain ⟨Ao52, co52, eo52⟩ := Kd.R_slice HO310.out; subst eo52) | ((with_reducible refine gate_callee (f := 23) rfl ?_); refine goesL_ (some 64) rfl rfl Try.func23 (by kernel_rfl) rfl #[.slice Ao52 t308.length co52, .slice Ao25 t285.length co25] rfl u12_1 ?_; (with_reducible refine (laws_eqDeviceS.calls kj15 _ _ t308 _ _ t285 true _ ?side1 ?side2 ?side3 ?side4 A43.out).mono ?_); (case side1 => repeat (first | exact (Kd.R_reads' HO310.out).2.2 | (with_reducible refine Kd.C_alloc ?_ _) | (with_reducible refine Kd.C_drewN ?_ _) | (with_reducible refine Kd.C_drew ?_))); (case side2 => exact (Kd.R_reads' HO310.out).2.1); (case side3 => repeat (first | exact (Kd.R_reads' HO_6.out).2.2 | (with_reducible refine Kd.C_alloc ?_ _) | (with_reducible refine Kd.C_drewN ?_ _) | (with_reducible refine Kd.C_drew ?_))); (case side4 => exact (Kd.R_reads' HO_6.out).2.1); rintro e w53 ⟨rfl, hb⟩; refine ⟨_, rfl, ?_⟩; have n0_ := Aside0.mk (Kd.R_below u12_3 hb); have n1_ := Aside0.mk (Kd.R_below u12_2 hb); have n2_ := Aside0.mk (Kd.R_below u12_9 hb); have n3_ := Aside0.mk (Kd.R_below u12_15 hb); have n4_ := Aside0.mk (below_step u12_0 hb); clear HO_6; clear HO_8; clear HO307; clear HO310; clear HB; have HO_6 := n0_; have HO_8 := n1_; have HO307 := n2_; have HO310 := n3_; have HB := n4_; clear n0_ n1_ n2_ n3_ n4_; (try clear hb); (try clear hb2); (try clear hk); (try clear hi)) | ((with_reducible refine gate_callee (f := 41) rfl ?_); refine goesL_ (some 68) rfl rfl Try.func41 (by kernel_rfl) rfl #[.slice Ao24 t303.length co24, .int .i64 1] rfl u12_7 ?_; (with_reducible refine (laws_heldDeviceS.calls kj15 _ _ t303 1 t312 _ ?side1 ?side2 A45.out).mono ?_); (case side1 => repeat (first | exact (Kd.R_reads' HO_8.out).2.2 | (with_reducible refine Kd.C_alloc ?_ _) | (with_reducible refine Kd.C_drewN ?_ _) | (with_reducible refine Kd.C_drew ?_))); (case side2 => rw [show t303.length = t291.length from (Kd.R_reads' HO_8.out).1.symm]; exact (Kd.R_reads' HO_8.out).2.1); rintro e w54 ⟨rfl, hb⟩; refine ⟨_, rfl, ?_⟩; have n0_ := Aside0.mk (Kd.R_below u12_3 hb); have n1_ := Aside0.mk (Kd.R_below u12_2 hb); have n2_ := Aside0.mk (Kd.R_below u12_9 hb); have n3_ := Aside0.mk (Kd.R_below u12_15 hb); have n4_ := Aside0.mk (below_step u12_0 hb); clear HO_6; clear HO_8; clear HO307; clear HO310; clear HB; have HO_6 := n0_; have HO_8 := n1_; have HO307 := n2_; have HO310 := n3_; have HB := n4_; clear n0_ n1_ n2_ n3_ n4_; (try clear hb); (try clear hb2); (try clear hk); (try clear hi)))
           go_ret
           exact ⟨by first | rfl | (simp [*] <;> rfl), by repeat (first | (with_reducible first | exact HB.out | apply below_alloc | apply pw_below_drewN | apply below_drew1) | exact HB.out)⟩
          ·rw [if_neg c46] at H
           have c46b0 : decide (t312 < 0) = false := decide_eq_false c46
           clear c46
           by_cases c55 : t312 = t302
           ·rw [if_pos c55] at H
            have c55b0 : (t312 == t302) = true := beq_iff_eq.mpr c55
            have c55b1 : (t312 != t302) = false := bne_eq_false_iff_eq.mpr c55
            clear c55
            obtain rfl := Option.some.inj H
            go_wp2_with (first | ((with_reducible refine gate_callee (f := 36) rfl ?_); refine goesL_ (some 49) rfl rfl Try.func36 (by kernel_rfl) rfl #[.slice Ao24 t291.length co24, .int .i64 1] rfl u12_1 ?_; (with_reducible refine (laws_markDeviceS.calls kj15 (fun k_ => some k_ = (.slice Ao24 t291.length co24 : Value).ownBlock) (.slice Ao24 t291.length co24) t291 1 t302 t303 w _ ?side1 ?side2 A35.out).mono ?_); (case side1 => repeat (first | (with_reducible first | exact HB.out | apply below_alloc | apply pw_below_drewN | apply below_drew1) | exact HB.out)); (case side2 => exact Kd.R_tight rfl HO_8.out); rintro e w56 ⟨rfl, hy0, hb, hkp⟩; refine ⟨_, rfl, ?_⟩; have n0_ := Aside0.mk (Kd.R_mono (ok' := fun k_ => some k_ ≠ (.slice Ao24 t291.length co24 : Value).ownBlock) (Kd.R_keptB (HO_6.out) hkp (fun k_ hk_ hs_ => (hk_) hs_)) (fun k_ hk_ => hk_.1)); have n1_ := Aside0.mk (Kd.R_reok rfl hy0 (fun k_ e_ => HO_8.out.1 k_ e_)); have n2_ := Aside0.mk (hb); clear HO_6; clear HO_8; clear HB; have HO_6 := n0_; have HO_8 := n1_; have HB := n2_; clear n0_ n1_ n2_; (try clear hb); (try clear hkp); (try clear hy0)) | ((with_reducible refine gate_callee (f := 41) rfl ?_); refine goesL_ (some 52) rfl rfl Try.func41 (by kernel_rfl) rfl #[.slice Ao24 t303.length co24, .int .i64 1] rfl u12_7 ?_; (with_reducible refine (laws_heldDeviceS.calls kj15 _ _ t303 1 t304 _ ?side1 ?side2 A36.out).mono ?_); (case side1 => repeat (first | exact (Kd.R_reads' HO_8.out).2.2 | (with_reducible refine Kd.C_alloc ?_ _) | (with_reducible refine Kd.C_drewN ?_ _) | (with_reducible refine Kd.C_drew ?_))); (case side2 => rw [show t303.length = t291.length from (Kd.R_reads' HO_8.out).1.symm]; exact (Kd.R_reads' HO_8.out).2.1); rintro e w57 ⟨rfl, hb⟩; refine ⟨_, rfl, ?_⟩; have n0_ := Aside0.mk (Kd.R_below u12_3 hb); have n1_ := Aside0.mk (Kd.R_below u12_2 hb); have n2_ := Aside0.mk (below_step u12_0 hb); clear HO_6; clear HO_8; clear HB; have HO_6 := n0_; have HO_8 := n1_; have HB := n2_; clear n0_ n1_ n2_; (try clear hb); (try clear hb2); (try clear hk); (try clear hi)) | ((with_reducible refine gate_callee (f := 21) rfl ?_); refine goesL_ (some 59) rfl rfl Try.func21 (by kernel_rfl) rfl #[.slice A0 l0.length c0] rfl u12_1 ?_; (with_reducible refine (laws_toDeviceS.calls kj15 _ _ l0 t305 _ ?side1 ?side2 A41.out).mono ?_); (case side1 => repeat (first | exact (Kd.C_below HR0.out HB.out) | (with_reducible refine Kd.C_alloc ?_ _) | (with_reducible refine Kd.C_drewN ?_ _) | (with_reducible refine Kd.C_drew ?_))); (case side2 => exact HC0.out); rintro e w58 ⟨v306, rfl, ho0, hb⟩; refine ⟨_, rfl, ?_⟩; have n0_ := Aside0.mk (Kd.R_elder' u12_3 (Kd.R_base ho0) hb); have n1_ := Aside0.mk (Kd.R_elder' u12_2 (Kd.R_base ho0) hb); have n2_ := Aside0.mk (Kd.R_lower (Kd.R_new' (Kd.R_new' ho0 (Kd.R_lt u12_3)) (Kd.R_lt u12_2)) (below_size u12_0)); have n3_ := Aside0.mk (below_step u12_0 hb); clear HO_6; clear HO_8; clear HB; have HO_6 := n0_; have HO_8 := n1_; have HO307 := n2_; have HB := n3_; clear n0_ n1_ n2_ n3_; (try clear hb); (try clear hb2); (try clear hk); (try clear hi); (try clear ho0); obtain ⟨Ao59, co59, eo59⟩ := Kd.R_slice HO307.out; subst eo59) | ((with_reducible refine gate_callee (f := 43) rfl ?_); refine goesL_ (some 61) rfl rfl Try.func43 (by kernel_rfl) rfl #[.slice Ao59 t305.length co59, .int .i64 a1] rfl u12_1 ?_; (with_reducible refine (impl_TurnRig.calls kj15 _ _ t305 a1 t308 _ ?side1 ?side2 A42.out).mono ?_); (case side1 => repeat (first | exact (Kd.R_reads' HO307.out).2.2 | (with_reducible refine Kd.C_alloc ?_ _) | (with_reducible refine Kd.C_drewN ?_ _) | (with_reducible refine Kd.C_drew ?_))); (case side2 => exact (Kd.R_reads' HO307.out).2.1); rintro e w60 ⟨v309, rfl, ho0, hb⟩; refine ⟨_, rfl, ?_⟩; have n0_ := Aside0.mk (Kd.R_elder' u12_3 (Kd.R_base ho0) hb); have n1_ := Aside0.mk (Kd.R_elder' u12_2 (Kd.R_base ho0) hb); have n2_ := Aside0.mk (Kd.R_elder' u12_9 (Kd.R_base ho0) hb); have n3_ := Aside0.mk (Kd.R_lower (Kd.R_new' (Kd.R_new' (Kd.R_new' ho0 (Kd.R_lt u12_3)) (Kd.R_lt u12_2)) (Kd.R_lt u12_9)) (below_size u12_0)); have n4_ := Aside0.mk (below_step u12_0 hb); clear HO_6; clear HO_8; clear HO307; clear HB; have HO_6 := n0_; have HO_8 := n1_; have HO307 := n2_; have HO310 := n3_; have HB := n4_; clear n0_ n1_ n2_ n3_ n4_; (try clear hb); (try clear hb2); (try clear hk); (try clear hi); (try clear ho0); obtain ⟨Ao61, co61, eo61⟩ := Kd.R_slice HO310.out; subst eo61) | ((with_reducible refine gate_callee (f := 23) rfl ?_); refine goesL_ (some 64) rfl rfl Try.func23 (by kernel_rfl) rfl #[.slice Ao61 t308.length co61, .slice Ao25 t285.length co25] rfl u12_1 ?_; (with_reducible refine (laws_eqDeviceS.calls kj15 _ _ t308 _ _ t285 true _ ?side1 ?side2 ?side3 ?side4 A43.out).mono ?_); (case side1 => repeat (first | exact (Kd.R_reads' HO310.out).2.2 | (with_reducible refine Kd.C_alloc ?_ _) | (with_reducible refine Kd.C_drewN ?_ _) | (with_reducible refine Kd.C_drew ?_))); (case side2 => exact (Kd.R_reads' HO310.out).2.1); (case side3 => repeat (first | exact (Kd.R_reads' HO_6.out).2.2 | (with_reducible refine Kd.C_alloc ?_ _) | (with_reducible refine Kd.C_drewN ?_ _) | (with_reducible refine Kd.C_drew ?_))); (case side4 => exact (Kd.R_reads' HO_6.out).2.1); rintro e w62 ⟨rfl, hb⟩; refine ⟨_, rfl, ?_⟩; have n0_ := Aside0.mk (Kd.R_below u12_3 hb); have n1_ := Aside0.mk (Kd.R_below u12_2 hb); have n2_ := Aside0.mk (Kd.R_below u12_9 hb); have n3_ := Aside0.mk (Kd.R_below u12_15 hb); have n4_ := Aside0.mk (below_step u12_0 hb); clear HO_6; clear HO_8; clear HO307; clear HO310; clear HB; have HO_6 := n0_; have HO_8 := n1_; have HO307 := n2_; have HO310 := n3_; have HB := n4_; clear n0_ n1_ n2_ n3_ n4_; (try clear hb); (try clear hb2); (try clear hk); (try clear hi)) | ((with_reducible refine gate_callee (f := 41) rfl ?_); refine goesL_ (some 68) rfl rfl Try.func41 (by kernel_rfl) rfl #[.slice Ao24 t303.length co24, .int .i64 1] rfl u12_7 ?_; (with_reducible refine (laws_heldDeviceS.calls kj15 _ _ t303 1 t312 _ ?side1 ?side2 A45.out).mono ?_); (case side1 => repeat (first | exact (Kd.R_reads' HO_8.out).2.2 | (with_reducible refine Kd.C_alloc ?_ _) | (with_reducible refine Kd.C_drewN ?_ _) | (with_reducible refine Kd.C_drew ?_))); (case side2 => rw [show t303.length = t291.length from (Kd.R_reads' HO_8.out).1.symm]; exact (Kd.R_reads' HO_8.out).2.1); rintro e w63 ⟨rfl, hb⟩; refine ⟨_, rfl, ?_⟩; have n0_ := Aside0.mk (Kd.R_below u12_3 hb); have n1_ := Aside0.mk (Kd.R_below u12_2 hb); have n2_ := Aside0.mk (Kd.R_below u12_9 hb); have n3_ := Aside0.mk (Kd.R_below u12_15 hb); have n4_ := Aside0.mk (below_step u12_0 hb); clear HO_6; clear HO_8; clear HO307; clear HO310; clear HB; have HO_6 := n0_; have HO_8 := n1_; have HO307 := n2_; have HO310 := n3_; have HB := n4_; clear n0_ n1_ n2_ n3_ n4_; (try clear hb); (try clear hb2); (try clear hk); (try clear hi)))
            go_ret
            exact ⟨by first | rfl | (simp [*] <;> rfl), by repeat (first | (with_reducible first | exact HB.out | apply below_alloc | apply pw_below_drewN | apply below_drew1) | exact HB.out)⟩
           ·rw [if_neg c55] at H
            have c55b0 : (t312 == t302) = false := beq_eq_false_iff_ne.mpr c55
            have c55b1 : (t312 != t302) = true := bne_iff_ne.mpr c55
            obtain rfl := Option.some.inj H
            go_wp2_with (first | ((with_reducible refine gate_callee (f := 36) rfl ?_); refine goesL_ (some 49) rfl rfl Try.func36 (by kernel_rfl) rfl #[.slice Ao24 t291.length co24, .int .i64 1] rfl u12_1 ?_; (with_reducible refine (laws_markDeviceS.calls kj15 (fun k_ => some k_ = (.slice Ao24 t291.length co24 : Value).ownBlock) (.slice Ao24 t291.length co24) t291 1 t302 t303 w _ ?side1 ?side2 A35.out).mono ?_); (case side1 => repeat (first | (with_reducible first | exact HB.out | apply below_alloc | apply pw_below_drewN | apply below_drew1) | exact HB.out)); (case side2 => exact Kd.R_tight rfl HO_8.out); rintro e w64 ⟨rfl, hy0, hb, hkp⟩; refine ⟨_, rfl, ?_⟩; have n0_ := Aside0.mk (Kd.R_mono (ok' := fun k_ => some k_ ≠ (.slice Ao24 t291.length co24 : Value).ownBlock) (Kd.R_keptB (HO_6.out) hkp (fun k_ hk_ hs_ => (hk_) hs_)) (fun k_ hk_ => hk_.1)); have n1_ := Aside0.mk (Kd.R_reok rfl hy0 (fun k_ e_ => HO_8.out.1 k_ e_)); have n2_ := Aside0.mk (hb); clear HO_6; clear HO_8; clear HB; have HO_6 := n0_; have HO_8 := n1_; have HB := n2_; clear n0_ n1_ n2_; (try clear hb); (try clear hkp); (try clear hy0)) | ((with_reducible refine gate_callee (f := 41) rfl ?_); refine goesL_ (some 52) rfl rfl Try.func41 (by kernel_rfl) rfl #[.slice Ao24 t303.length co24, .int .i64 1] rfl u12_7 ?_; (with_reducible refine (laws_heldDeviceS.calls kj15 _ _ t303 1 t304 _ ?side1 ?side2 A36.out).mono ?_); (case side1 => repeat (first | exact (Kd.R_reads' HO_8.out).2.2 | (with_reducible refine Kd.C_alloc ?_ _) | (with_reducible refine Kd.C_drewN ?_ _) | (with_reducible refine Kd.C_drew ?_))); (case side2 => rw [show t303.length = t291.length from (Kd.R_reads' HO_8.out).1.symm]; exact (Kd.R_reads' HO_8.out).2.1); rintro e w65 ⟨rfl, hb⟩; refine ⟨_, rfl, ?_⟩; have n0_ := Aside0.mk (Kd.R_below u12_3 hb); have n1_ := Aside0.mk (Kd.R_below u12_2 hb); have n2_ := Aside0.mk (below_step u12_0 hb); clear HO_6; clear HO_8; clear HB; have HO_6 := n0_; have HO_8 := n1_; have HB := n2_; clear n0_ n1_ n2_; (try clear hb); (try clear hb2); (try clear hk); (try clear hi)) | ((with_reducible refine gate_callee (f := 21) rfl ?_); refine goesL_ (some 59) rfl rfl Try.func21 (by kernel_rfl) rfl #[.slice A0 l0.length c0] rfl u12_1 ?_; (with_reducible refine (laws_toDeviceS.calls kj15 _ _ l0 t305 _ ?side1 ?side2 A41.out).mono ?_); (case side1 => repeat (first | exact (Kd.C_below HR0.out HB.out) | (with_reducible refine Kd.C_alloc ?_ _) | (with_reducible refine Kd.C_drewN ?_ _) | (with_reducible refine Kd.C_drew ?_))); (case side2 => exact HC0.out); rintro e w66 ⟨v306, rfl, ho0, hb⟩; refine ⟨_, rfl, ?_⟩; have n0_ := Aside0.mk (Kd.R_elder' u12_3 (Kd.R_base ho0) hb); have n1_ := Aside0.mk (Kd.R_elder' u12_2 (Kd.R_base ho0) hb); have n2_ := Aside0.mk (Kd.R_lower (Kd.R_new' (Kd.R_new' ho0 (Kd.R_lt u12_3)) (Kd.R_lt u12_2)) (below_size u12_0)); have n3_ := Aside0.mk (below_step u12_0 hb); clear HO_6; clear HO_8; clear HB; have HO_6 := n0_; have HO_8 := n1_; have HO307 := n2_; have HB := n3_; clear n0_ n1_ n2_ n3_; (try clear hb); (try clear hb2); (try clear hk); (try clear hi); (try clear ho0); obtain ⟨Ao67, co67, eo67⟩ := Kd.R_slice HO307.out; subst eo67) | ((with_reducible refine gate_callee (f := 43) rfl ?_); refine goesL_ (some 61) rfl rfl Try.func43 (by kernel_rfl) rfl #[.slice Ao67 t305.length co67, .int .i64 a1] rfl u12_1 ?_; (with_reducible refine (impl_TurnRig.calls kj15 _ _ t305 a1 t308 _ ?side1 ?side2 A42.out).mono ?_); (case side1 => repeat (first | exact (Kd.R_reads' HO307.out).2.2 | (with_reducible refine Kd.C_alloc ?_ _) | (with_reducible refine Kd.C_drewN ?_ _) | (with_reducible refine Kd.C_drew ?_))); (case side2 => exact (Kd.R_reads' HO307.out).2.1); rintro e w68 ⟨v309, rfl, ho0, hb⟩; refine ⟨_, rfl, ?_⟩; have n0_ := Aside0.mk (Kd.R_elder' u12_3 (Kd.R_base ho0) hb); have n1_ := Aside0.mk (Kd.R_elder' u12_2 (Kd.R_base ho0) hb); have n2_ := Aside0.mk (Kd.R_elder' u12_9 (Kd.R_base ho0) hb); have n3_ := Aside0.mk (Kd.R_lower (Kd.R_new' (Kd.R_new' (Kd.R_new' ho0 (Kd.R_lt u12_3)) (Kd.R_lt u12_2)) (Kd.R_lt u12_9)) (below_size u12_0)); have n4_ := Aside0.mk (below_step u12_0 hb); clear HO_6; clear HO_8; clear HO307; clear HB; have HO_6 := n0_; have HO_8 := n1_; have HO307 := n2_; have HO310 := n3_; have HB := n4_; clear n0_ n1_ n2_ n3_ n4_; (try clear hb); (try clear hb2); (try clear hk); (try clear hi); (try clear ho0); obtain ⟨Ao69, co69, eo69⟩ := Kd.R_slice HO310.out; subst eo69) | ((with_reducible refine gate_callee (f := 23) rfl ?_); refine goesL_ (some 64) rfl rfl Try.func23 (by kernel_rfl) rfl #[.slice Ao69 t308.length co69, .slice Ao25 t285.length co25] rfl u12_1 ?_; (with_reducible refine (laws_eqDeviceS.calls kj15 _ _ t308 _ _ t285 true _ ?side1 ?side2 ?side3 ?side4 A43.out).mono ?_); (case side1 => repeat (first | exact (Kd.R_reads' HO310.out).2.2 | (with_reducible refine Kd.C_alloc ?_ _) | (with_reducible refine Kd.C_drewN ?_ _) | (with_reducible refine Kd.C_drew ?_))); (case side2 => exact (Kd.R_reads' HO310.out).2.1); (case side3 => repeat (first | exact (Kd.R_reads' HO_6.out).2.2 | (with_reducible refine Kd.C_alloc ?_ _) | (with_reducible refine Kd.C_drewN ?_ _) | (with_reducible refine Kd.C_drew ?_))); (case side4 => exact (Kd.R_reads' HO_6.out).2.1); rintro e w70 ⟨rfl, hb⟩; refine ⟨_, rfl, ?_⟩; have n0_ := Aside0.mk (Kd.R_below u12_3 hb); have n1_ := Aside0.mk (Kd.R_below u12_2 hb); have n2_ := Aside0.mk (Kd.R_below u12_9 hb); have n3_ := Aside0.mk (Kd.R_below u12_15 hb); have n4_ := Aside0.mk (below_step u12_0 hb); clear HO_6; clear HO_8; clear HO307; clear HO310; clear HB; have HO_6 := n0_; have HO_8 := n1_; have HO307 := n2_; have HO310 := n3_; have HB := n4_; clear n0_ n1_ n2_ n3_ n4_; (try clear hb); (try clear hb2); (try clear hk); (try clear hi)) | ((with_reducible refine gate_callee (f := 41) rfl ?_); refine goesL_ (some 68) rfl rfl Try.func41 (by kernel_rfl) rfl #[.slice Ao24 t303.length co24, .int .i64 1] rfl u12_7 ?_; (with_reducible refine (laws_heldDeviceS.calls kj15 _ _ t303 1 t312 _ ?side1 ?side2 A45.out).mono ?_); (case side1 => repeat (first | exact (Kd.R_reads' HO_8.out).2.2 | (with_reducible refine Kd.C_alloc ?_ _) | (with_reducible refine Kd.C_drewN ?_ _) | (with_reducible refine Kd.C_drew ?_))); (case side2 => rw [show t303.length = t291.length from (Kd.R_reads' HO_8.out).1.symm]; exact (Kd.R_reads' HO_8.out).2.1); rintro e w71 ⟨rfl, hb⟩; refine ⟨_, rfl, ?_⟩; have n0_ := Aside0.mk (Kd.R_below u12_3 hb); have n1_ := Aside0.mk (Kd.R_below u12_2 hb); have n2_ := Aside0.mk (Kd.R_below u12_9 hb); have n3_ := Aside0.mk (Kd.R_below u12_15 hb); have n4_ := Aside0.mk (below_step u12_0 hb); clear HO_6; clear HO_8; clear HO307; clear HO310; clear HB; have HO_6 := n0_; have HO_8 := n1_; have HO307 := n2_; have HO310 := n3_; have HB := n4_; clear n0_ n1_ n2_ n3_ n4_; (try clear hb); (try clear hb2); (try clear hk); (try clear hi)))
            go_ret
            exact ⟨by first | rfl | (simp [*] <;> rfl), by repeat (first | (with_reducible first | exact HB.out | apply below_alloc | apply pw_below_drewN | apply below_drew1) | exact HB.out)⟩
         ·replace c44 := Bool.eq_false_iff.mpr c44
          subst c44
          have H1 : (some false) = some r := by rw [if_neg (show ¬ (false = true) by decide)] at H; exact H
          clear H
          have H := H1
          clear H1
          obtain rfl := Option.some.inj H
          go_wp2_with (first | ((with_reducible refine gate_callee (f := 36) rfl ?_); refine goesL_ (some 49) rfl rfl Try.func36 (by kernel_rfl) rfl #[.slice Ao24 t291.length co24, .int .i64 1] rfl u12_1 ?_; (with_reducible refine (laws_markDeviceS.calls kj15 (fun k_ => some k_ = (.slice Ao24 t291.length co24 : Value).ownBlock) (.slice Ao24 t291.length co24) t291 1 t302 t303 w _ ?side1 ?side2 A35.out).mono ?_); (case side1 => repeat (first | (with_reducible first | exact HB.out | apply below_alloc | apply pw_below_drewN | apply below_drew1) | exact HB.out)); (case side2 => exact Kd.R_tight rfl HO_8.out); rintro e w72 ⟨rfl, hy0, hb, hkp⟩; refine ⟨_, rfl, ?_⟩; have n0_ := Aside0.mk (Kd.R_mono (ok' := fun k_ => some k_ ≠ (.slice Ao24 t291.length co24 : Value).ownBlock) (Kd.R_keptB (HO_6.out) hkp (fun k_ hk_ hs_ => (hk_) hs_)) (fun k_ hk_ => hk_.1)); have n1_ := Aside0.mk (Kd.R_reok rfl hy0 (fun k_ e_ => HO_8.out.1 k_ e_)); have n2_ := Aside0.mk (hb); clear HO_6; clear HO_8; clear HB; have HO_6 := n0_; have HO_8 := n1_; have HB := n2_; clear n0_ n1_ n2_; (try clear hb); (try clear hkp); (try clear hy0)) | ((with_reducible refine gate_callee (f := 41) rfl ?_); refine goesL_ (some 52) rfl rfl Try.func41 (by kernel_rfl) rfl #[.slice Ao24 t303.length co24, .int .i64 1] rfl u12_7 ?_; (with_reducible refine (laws_heldDeviceS.calls kj15 _ _ t303 1 t304 _ ?side1 ?side2 A36.out).mono ?_); (case side1 => repeat (first | exact (Kd.R_reads' HO_8.out).2.2 | (with_reducible refine Kd.C_alloc ?_ _) | (with_reducible refine Kd.C_drewN ?_ _) | (with_reducible refine Kd.C_drew ?_))); (case side2 => rw [show t303.length = t291.length from (Kd.R_reads' HO_8.out).1.symm]; exact (Kd.R_reads' HO_8.out).2.1); rintro e w73 ⟨rfl, hb⟩; refine ⟨_, rfl, ?_⟩; have n0_ := Aside0.mk (Kd.R_below u12_3 hb); have n1_ := Aside0.mk (Kd.R_below u12_2 hb); have n2_ := Aside0.mk (below_step u12_0 hb); clear HO_6; clear HO_8; clear HB; have HO_6 := n0_; have HO_8 := n1_; have HB := n2_; clear n0_ n1_ n2_; (try clear hb); (try clear hb2); (try clear hk); (try clear hi)) | ((with_reducible refine gate_callee (f := 21) rfl ?_); refine goesL_ (some 59) rfl rfl Try.func21 (by kernel_rfl) rfl #[.slice A0 l0.length c0] rfl u12_1 ?_; (with_reducible refine (laws_toDeviceS.calls kj15 _ _ l0 t305 _ ?side1 ?side2 A41.out).mono ?_); (case side1 => repeat (first | exact (Kd.C_below HR0.out HB.out) | (with_reducible refine Kd.C_alloc ?_ _) | (with_reducible refine Kd.C_drewN ?_ _) | (with_reducible refine Kd.C_drew ?_))); (case side2 => exact HC0.out); rintro e w74 ⟨v306, rfl, ho0, hb⟩; refine ⟨_, rfl, ?_⟩; have n0_ := Aside0.mk (Kd.R_elder' u12_3 (Kd.R_base ho0) hb); have n1_ := Aside0.mk (Kd.R_elder' u12_2 (Kd.R_base ho0) hb); have n2_ := Aside0.mk (Kd.R_lower (Kd.R_new' (Kd.R_new' ho0 (Kd.R_lt u12_3)) (Kd.R_lt u12_2)) (below_size u12_0)); have n3_ := Aside0.mk (below_step u12_0 hb); clear HO_6; clear HO_8; clear HB; have HO_6 := n0_; have HO_8 := n1_; have HO307 := n2_; have HB := n3_; clear n0_ n1_ n2_ n3_; (try clear hb); (try clear hb2); (try clear hk); (try clear hi); (try clear ho0); obtain ⟨Ao75, co75, eo75⟩ := Kd.R_slice HO307.out; subst eo75) | ((with_reducible refine gate_callee (f := 43) rfl ?_); refine goesL_ (some 61) rfl rfl Try.func43 (by kernel_rfl) rfl #[.slice Ao75 t305.length co75, .int .i64 a1] rfl u12_1 ?_; (with_reducible refine (impl_TurnRig.calls kj15 _ _ t305 a1 t308 _ ?side1 ?side2 A42.out).mono ?_); (case side1 => repeat (first | exact (Kd.R_reads' HO307.out).2.2 | (with_reducible refine Kd.C_alloc ?_ _) | (with_reducible refine Kd.C_drewN ?_ _) | (with_reducible refine Kd.C_drew ?_))); (case side2 => exact (Kd.R_reads' HO307.out).2.1); rintro e w76 ⟨v309, rfl, ho0, hb⟩; refine ⟨_, rfl, ?_⟩; have n0_ := Aside0.mk (Kd.R_elder' u12_3 (Kd.R_base ho0) hb); have n1_ := Aside0.mk (Kd.R_elder' u12_2 (Kd.R_base ho0) hb); have n2_ := Aside0.mk (Kd.R_elder' u12_9 (Kd.R_base ho0) hb); have n3_ := Aside0.mk (Kd.R_lower (Kd.R_new' (Kd.R_new' (Kd.R_new' ho0 (Kd.R_lt u12_3)) (Kd.R_lt u12_2)) (Kd.R_lt u12_9)) (below_size u12_0)); have n4_ := Aside0.mk (below_step u12_0 hb); clear HO_6; clear HO_8; clear HO307; clear HB; have HO_6 := n0_; have HO_8 := n1_; have HO307 := n2_; have HO310 := n3_; have HB := n4_; clear n0_ n1_ n2_ n3_ n4_; (try clear hb); (try clear hb2); (try clear hk); (try clear hi); (try clear ho0); obtain ⟨Ao77, co77, eo77⟩ := Kd.R_slice HO310.out; subst eo77) | ((with_reducible refine gate_callee (f := 23) rfl ?_); refine goesL_ (some 64) rfl rfl Try.func23 (by kernel_rfl) rfl #[.slice Ao77 t308.length co77, .slice Ao25 t285.length co25] rfl u12_1 ?_; (with_reducible refine (laws_eqDeviceS.calls kj15 _ _ t308 _ _ t285 false _ ?side1 ?side2 ?side3 ?side4 A43.out).mono ?_); (case side1 => repeat (first | exact (Kd.R_reads' HO310.out).2.2 | (with_reducible refine Kd.C_alloc ?_ _) | (with_reducible refine Kd.C_drewN ?_ _) | (with_reducible refine Kd.C_drew ?_))); (case side2 => exact (Kd.R_reads' HO310.out).2.1); (case side3 => repeat (first | exact (Kd.R_reads' HO_6.out).2.2 | (with_reducible refine Kd.C_alloc ?_ _) | (with_reducible refine Kd.C_drewN ?_ _) | (with_reducible refine Kd.C_drew ?_))); (case side4 => exact (Kd.R_reads' HO_6.out).2.1); rintro e w78 ⟨rfl, hb⟩; refine ⟨_, rfl, ?_⟩; have n0_ := Aside0.mk (Kd.R_below u12_3 hb); have n1_ := Aside0.mk (Kd.R_below u12_2 hb); have n2_ := Aside0.mk (Kd.R_below u12_9 hb); have n3_ := Aside0.mk (Kd.R_below u12_15 hb); have n4_ := Aside0.mk (below_step u12_0 hb); clear HO_6; clear HO_8; clear HO307; clear HO310; clear HB; have HO_6 := n0_; have HO_8 := n1_; have HO307 := n2_; have HO310 := n3_; have HB := n4_; clear n0_ n1_ n2_ n3_ n4_; (try clear hb); (try clear hb2); (try clear hk); (try clear hi)))
          go_ret
          exact ⟨by first | rfl | (simp [*] <;> rfl), by repeat (first | (with_reducible first | exact HB.out | apply below_alloc | apply pw_below_drewN | apply below_drew1) | exact HB.out)⟩
        ·rw [if_neg c40] at H
         have c40b0 : (t304 == t302) = false := beq_eq_false_iff_ne.mpr c40
         have c40b1 : (t304 != t302) = true := bne_iff_ne.mpr c40
         obtain rfl := Option.some.inj H
         go_wp2_with (first | ((with_reducible refine gate_callee (f := 36) rfl ?_); refine goesL_ (some 49) rfl rfl Try.func36 (by kernel_rfl) rfl #[.slice Ao24 t291.length co24, .int .i64 1] rfl u12_1 ?_; (with_reducible refine (laws_markDeviceS.calls kj15 (fun k_ => some k_ = (.slice Ao24 t291.length co24 : Value).ownBlock) (.slice Ao24 t291.length co24) t291 1 t302 t303 w _ ?side1 ?side2 A35.out).mono ?_); (case side1 => repeat (first | (with_reducible first | exact HB.out | apply below_alloc | apply pw_below_drewN | apply below_drew1) | exact HB.out)); (case side2 => exact Kd.R_tight rfl HO_8.out); rintro e w79 ⟨rfl, hy0, hb, hkp⟩; refine ⟨_, rfl, ?_⟩; have n0_ := Aside0.mk (Kd.R_mono (ok' := fun k_ => some k_ ≠ (.slice Ao24 t291.length co24 : Value).ownBlock) (Kd.R_keptB (HO_6.out) hkp (fun k_ hk_ hs_ => (hk_) hs_)) (fun k_ hk_ => hk_.1)); have n1_ := Aside0.mk (Kd.R_reok rfl hy0 (fun k_ e_ => HO_8.out.1 k_ e_)); have n2_ := Aside0.mk (hb); clear HO_6; clear HO_8; clear HB; have HO_6 := n0_; have HO_8 := n1_; have HB := n2_; clear n0_ n1_ n2_; (try clear hb); (try clear hkp); (try clear hy0)) | ((with_reducible refine gate_callee (f := 41) rfl ?_); refine goesL_ (some 52) rfl rfl Try.func41 (by kernel_rfl) rfl #[.slice Ao24 t303.length co24, .int .i64 1] rfl u12_7 ?_; (with_reducible refine (laws_heldDeviceS.calls kj15 _ _ t303 1 t304 _ ?side1 ?side2 A36.out).mono ?_); (case side1 => repeat (first | exact (Kd.R_reads' HO_8.out).2.2 | (with_reducible refine Kd.C_alloc ?_ _) | (with_reducible refine Kd.C_drewN ?_ _) | (with_reducible refine Kd.C_drew ?_))); (case side2 => rw [show t303.length = t291.length from (Kd.R_reads' HO_8.out).1.symm]; exact (Kd.R_reads' HO_8.out).2.1); rintro e w80 ⟨rfl, hb⟩; refine ⟨_, rfl, ?_⟩; have n0_ := Aside0.mk (Kd.R_below u12_3 hb); have n1_ := Aside0.mk (Kd.R_below u12_2 hb); have n2_ := Aside0.mk (below_step u12_0 hb); clear HO_6; clear HO_8; clear HB; have HO_6 := n0_; have HO_8 := n1_; have HB := n2_; clear n0_ n1_ n2_; (try clear hb); (try clear hb2); (try clear hk); (try clear hi)))
         go_ret
         exact ⟨by first | rfl | (simp [*] <;> rfl), by repeat (first | (with_reducible first | exact HB.out | apply below_alloc | apply pw_below_drewN | apply below_drew1) | exact HB.out)⟩
   ·replace c14 := Bool.eq_false_iff.mpr c14
    subst c14
    have H1 : (some false) = some r := by rw [if_neg (show ¬ (false = true) by decide)] at H; exact H
    clear H
    have H := H1
    clear H1
    obtain rfl := Option.some.inj H
    go_enter Try.func11, Try.ntmps11
    go_wp2_with (first | ((with_reducible refine gate_callee (f := 19) rfl ?_); refine goesL_ (some 15) rfl rfl Try.func19 (by kernel_rfl) rfl #[.slice A0 l0.length c0, .int .i64 1048576] rfl u12_1 ?_; (with_reducible refine (laws_szDeviceS.calls k _ _ l0 1048576 t281 _ ?side1 ?side2 A3.out).mono ?_); (case side1 => repeat (first | exact HR0.out | (with_reducible refine Kd.C_alloc ?_ _) | (with_reducible refine Kd.C_drewN ?_ _) | (with_reducible refine Kd.C_drew ?_))); (case side2 => exact HC0.out); rintro e w81 ⟨rfl, hb⟩; refine ⟨_, rfl, ?_⟩; have n0_ := Aside0.mk (below_step u12_0 hb); clear HB; have HB := n0_; clear n0_; (try clear hb); (try clear hb2); (try clear hk); (try clear hi)) | ((with_reducible refine gate_callee (f := 21) rfl ?_); refine goesL_ (some 19) rfl rfl Try.func21 (by kernel_rfl) rfl #[.slice A0 l0.length c0] rfl u12_1 ?_; (with_reducible refine (laws_toDeviceS.calls k _ _ l0 t282 _ ?side1 ?side2 A6.out).mono ?_); (case side1 => repeat (first | exact (Kd.C_below HR0.out HB.out) | (with_reducible refine Kd.C_alloc ?_ _) | (with_reducible refine Kd.C_drewN ?_ _) | (with_reducible refine Kd.C_drew ?_))); (case side2 => exact HC0.out); rintro e w82 ⟨v283, rfl, ho0, hb⟩; refine ⟨_, rfl, ?_⟩; have n0_ := Aside0.mk (Kd.R_lower ho0 (below_size u12_0)); have n1_ := Aside0.mk (below_step u12_0 hb); clear HB; have HO284 := n0_; have HB := n1_; clear n0_ n1_; (try clear hb); (try clear hb2); (try clear hk); (try clear hi); (try clear ho0); obtain ⟨Ao83, co83, eo83⟩ := Kd.R_slice HO284.out; subst eo83) | ((with_reducible refine gate_callee (f := 42) rfl ?_); refine goesL_ (some 21) rfl rfl Try.func42 (by kernel_rfl) rfl #[.slice Ao83 t282.length co83, .int .i64 a1] rfl u12_1 ?_; (with_reducible refine (spec_TurnRig.calls k _ _ t282 a1 t285 _ ?side1 ?side2 A7.out).mono ?_); (case side1 => repeat (first | exact (Kd.R_reads' HO284.out).2.2 | (with_reducible refine Kd.C_alloc ?_ _) | (with_reducible refine Kd.C_drewN ?_ _) | (with_reducible refine Kd.C_drew ?_))); (case side2 => exact (Kd.R_reads' HO284.out).2.1); rintro e w84 ⟨v286, rfl, ho0, hb⟩; refine ⟨_, rfl, ?_⟩; have n0_ := Aside0.mk (Kd.R_elder' u12_4 (Kd.R_base ho0) hb); have n1_ := Aside0.mk (Kd.R_lower (Kd.R_new' ho0 (Kd.R_lt u12_4)) (below_size u12_0)); have n2_ := Aside0.mk (below_step u12_0 hb); clear HO284; clear HB; have HO284 := n0_; have HO287 := n1_; have HB := n2_; clear n0_ n1_ n2_; (try clear hb); (try clear hb2); (try clear hk); (try clear hi); (try clear ho0)) | ((with_reducible refine gate_callee (f := 21) rfl ?_); refine goesL_ (some 23) rfl rfl Try.func21 (by kernel_rfl) rfl #[.slice A0 l0.length c0] rfl u12_1 ?_; (with_reducible refine (laws_toDeviceS.calls k _ _ l0 t288 _ ?side1 ?side2 A8.out).mono ?_); (case side1 => repeat (first | exact (Kd.C_below HR0.out HB.out) | (with_reducible refine Kd.C_alloc ?_ _) | (with_reducible refine Kd.C_drewN ?_ _) | (with_reducible refine Kd.C_drew ?_))); (case side2 => exact HC0.out); rintro e w85 ⟨v289, rfl, ho0, hb⟩; refine ⟨_, rfl, ?_⟩; have n0_ := Aside0.mk (Kd.R_elder' u12_4 (Kd.R_base ho0) hb); have n1_ := Aside0.mk (Kd.R_elder' u12_5 (Kd.R_base ho0) hb); have n2_ := Aside0.mk (Kd.R_lower (Kd.R_new' (Kd.R_new' ho0 (Kd.R_lt u12_4)) (Kd.R_lt u12_5)) (below_size u12_0)); have n3_ := Aside0.mk (below_step u12_0 hb); clear HO284; clear HO287; clear HB; have HO284 := n0_; have HO287 := n1_; have HO290 := n2_; have HB := n3_; clear n0_ n1_ n2_ n3_; (try clear hb); (try clear hb2); (try clear hk); (try clear hi); (try clear ho0); obtain ⟨Ao86, co86, eo86⟩ := Kd.R_slice HO290.out; subst eo86) | ((with_reducible refine gate_callee (f := 43) rfl ?_); refine goesL_ (some 26) rfl rfl Try.func43 (by kernel_rfl) rfl #[.slice Ao86 t288.length co86, .int .i64 a1] rfl u12_1 ?_; (with_reducible refine (impl_TurnRig.calls k _ _ t288 a1 t291 _ ?side1 ?side2 A9.out).mono ?_); (case side1 => repeat (first | exact (Kd.R_reads' HO290.out).2.2 | (with_reducible refine Kd.C_alloc ?_ _) | (with_reducible refine Kd.C_drewN ?_ _) | (with_reducible refine Kd.C_drew ?_))); (case side2 => exact (Kd.R_reads' HO290.out).2.1); rintro e w87 ⟨v292, rfl, ho0, hb⟩; refine ⟨_, rfl, ?_⟩; have n0_ := Aside0.mk (Kd.R_elder' u12_4 (Kd.R_base ho0) hb); have n1_ := Aside0.mk (Kd.R_elder' u12_5 (Kd.R_base ho0) hb); have n2_ := Aside0.mk (Kd.R_elder' u12_8 (Kd.R_base ho0) hb); have n3_ := Aside0.mk (Kd.R_lower (Kd.R_new' (Kd.R_new' (Kd.R_new' ho0 (Kd.R_lt u12_4)) (Kd.R_lt u12_5)) (Kd.R_lt u12_8)) (below_size u12_0)); have n4_ := Aside0.mk (below_step u12_0 hb); clear HO284; clear HO287; clear HO290; clear HB; have HO284 := n0_; have HO287 := n1_; have HO290 := n2_; have HO293 := n3_; have HB := n4_; clear n0_ n1_ n2_ n3_ n4_; (try clear hb); (try clear hb2); (try clear hk); (try clear hi); (try clear ho0); obtain ⟨Ao88, co88, eo88⟩ := Kd.R_slice HO293.out; subst eo88; obtain ⟨Ao89, co89, eo89⟩ := Kd.R_slice HO287.out; subst eo89) | ((with_reducible refine gate_callee (f := 23) rfl ?_); refine goesL_ (some 29) rfl rfl Try.func23 (by kernel_rfl) rfl #[.slice Ao88 t291.length co88, .slice Ao89 t285.length co89] rfl u12_1 ?_; (with_reducible refine (laws_eqDeviceS.calls k _ _ t291 _ _ t285 true _ ?side1 ?side2 ?side3 ?side4 A10.out).mono ?_); (case side1 => repeat (first | exact (Kd.R_reads' HO293.out).2.2 | (with_reducible refine Kd.C_alloc ?_ _) | (with_reducible refine Kd.C_drewN ?_ _) | (with_reducible refine Kd.C_drew ?_))); (case side2 => exact (Kd.R_reads' HO293.out).2.1); (case side3 => repeat (first | exact (Kd.R_reads' HO287.out).2.2 | (with_reducible refine Kd.C_alloc ?_ _) | (with_reducible refine Kd.C_drewN ?_ _) | (with_reducible refine Kd.C_drew ?_))); (case side4 => exact (Kd.R_reads' HO287.out).2.1); rintro e w90 ⟨rfl, hb⟩; refine ⟨_, rfl, ?_⟩; have n0_ := Aside0.mk (Kd.R_below u12_4 hb); have n1_ := Aside0.mk (Kd.R_below u12_5 hb); have n2_ := Aside0.mk (Kd.R_below u12_8 hb); have n3_ := Aside0.mk (Kd.R_below u12_11 hb); have n4_ := Aside0.mk (below_step u12_0 hb); clear HO284; clear HO287; clear HO290; clear HO293; clear HB; have HO284 := n0_; have HO287 := n1_; have HO290 := n2_; have HO293 := n3_; have HB := n4_; clear n0_ n1_ n2_ n3_ n4_; (try clear hb); (try clear hb2); (try clear hk); (try clear hi)) | ((with_reducible refine gate_callee (f := 21) rfl ?_); refine goesL_ (some 33) rfl rfl Try.func21 (by kernel_rfl) rfl #[.slice A0 l0.length c0] rfl u12_1 ?_; (with_reducible refine (laws_toDeviceS.calls k _ _ l0 t295 _ ?side1 ?side2 A12.out).mono ?_); (case side1 => repeat (first | exact (Kd.C_below HR0.out HB.out) | (with_reducible refine Kd.C_alloc ?_ _) | (with_reducible refine Kd.C_drewN ?_ _) | (with_reducible refine Kd.C_drew ?_))); (case side2 => exact HC0.out); rintro e w91 ⟨v296, rfl, ho0, hb⟩; refine ⟨_, rfl, ?_⟩; have n0_ := Aside0.mk (Kd.R_elder' u12_4 (Kd.R_base ho0) hb); have n1_ := Aside0.mk (Kd.R_elder' u12_5 (Kd.R_base ho0) hb); have n2_ := Aside0.mk (Kd.R_elder' u12_8 (Kd.R_base ho0) hb); have n3_ := Aside0.mk (Kd.R_elder' u12_11 (Kd.R_base ho0) hb); have n4_ := Aside0.mk (Kd.R_lower (Kd.R_new' (Kd.R_new' (Kd.R_new' (Kd.R_new' ho0 (Kd.R_lt u12_4)) (Kd.R_lt u12_5)) (Kd.R_lt u12_8)) (Kd.R_lt u12_11)) (below_size u12_0)); have n5_ := Aside0.mk (below_step u12_0 hb); clear HO284; clear HO287; clear HO290; clear HO293; clear HB; have HO284 := n0_; have HO287 := n1_; have HO290 := n2_; have HO293 := n3_; have HO297 := n4_; have HB := n5_; clear n0_ n1_ n2_ n3_ n4_ n5_; (try clear hb); (try clear hb2); (try clear hk); (try clear hi); (try clear ho0); obtain ⟨Ao92, co92, eo92⟩ := Kd.R_slice HO297.out; subst eo92) | ((with_reducible refine gate_callee (f := 23) rfl ?_); refine goesL_ (some 34) rfl rfl Try.func23 (by kernel_rfl) rfl #[.slice Ao86 t288.length co86, .slice Ao92 t295.length co92] rfl u12_1 ?_; (with_reducible refine (laws_eqDeviceS.calls k _ _ t288 _ _ t295 false _ ?side1 ?side2 ?side3 ?side4 A13.out).mono ?_); (case side1 => repeat (first | exact (Kd.R_reads' HO290.out).2.2 | (with_reducible refine Kd.C_alloc ?_ _) | (with_reducible refine Kd.C_drewN ?_ _) | (with_reducible refine Kd.C_drew ?_))); (case side2 => exact (Kd.R_reads' HO290.out).2.1); (case side3 => repeat (first | exact (Kd.R_reads' HO297.out).2.2 | (with_reducible refine Kd.C_alloc ?_ _) | (with_reducible refine Kd.C_drewN ?_ _) | (with_reducible refine Kd.C_drew ?_))); (case side4 => exact (Kd.R_reads' HO297.out).2.1); rintro e w93 ⟨rfl, hb⟩; refine ⟨_, rfl, ?_⟩; have n0_ := Aside0.mk (Kd.R_below u12_4 hb); have n1_ := Aside0.mk (Kd.R_below u12_5 hb); have n2_ := Aside0.mk (Kd.R_below u12_8 hb); have n3_ := Aside0.mk (Kd.R_below u12_11 hb); have n4_ := Aside0.mk (Kd.R_below u12_19 hb); have n5_ := Aside0.mk (below_step u12_0 hb); clear HO284; clear HO287; clear HO290; clear HO293; clear HO297; clear HB; have HO284 := n0_; have HO287 := n1_; have HO290 := n2_; have HO293 := n3_; have HO297 := n4_; have HB := n5_; clear n0_ n1_ n2_ n3_ n4_ n5_; (try clear hb); (try clear hb2); (try clear hk); (try clear hi)))
    go_ret
    exact ⟨by first | rfl | (simp [*] <;> rfl), by repeat (first | (with_reducible first | exact HB.out | apply below_alloc | apply pw_below_drewN | apply below_drew1) | exact HB.out)⟩
  ·replace c11 := Bool.eq_false_iff.mpr c11
   subst c11
   have H1 : (some false) = some r := by rw [if_neg (show ¬ (false = true) by decide)] at H; exact H
   clear H
   have H := H1
   clear H1
   obtain rfl := Option.some.inj H
   go_enter Try.func11, Try.ntmps11
   go_wp2_with (first | ((with_reducible refine gate_callee (f := 19) rfl ?_); refine goesL_ (some 15) rfl rfl Try.func19 (by kernel_rfl) rfl #[.slice A0 l0.length c0, .int .i64 1048576] rfl u12_1 ?_; (with_reducible refine (laws_szDeviceS.calls k _ _ l0 1048576 t281 _ ?side1 ?side2 A3.out).mono ?_); (case side1 => repeat (first | exact HR0.out | (with_reducible refine Kd.C_alloc ?_ _) | (with_reducible refine Kd.C_drewN ?_ _) | (with_reducible refine Kd.C_drew ?_))); (case side2 => exact HC0.out); rintro e w94 ⟨rfl, hb⟩; refine ⟨_, rfl, ?_⟩; have n0_ := Aside0.mk (below_step u12_0 hb); clear HB; have HB := n0_; clear n0_; (try clear hb); (try clear hb2); (try clear hk); (try clear hi)) | ((with_reducible refine gate_callee (f := 21) rfl ?_); refine goesL_ (some 19) rfl rfl Try.func21 (by kernel_rfl) rfl #[.slice A0 l0.length c0] rfl u12_1 ?_; (with_reducible refine (laws_toDeviceS.calls k _ _ l0 t282 _ ?side1 ?side2 A6.out).mono ?_); (case side1 => repeat (first | exact (Kd.C_below HR0.out HB.out) | (with_reducible refine Kd.C_alloc ?_ _) | (with_reducible refine Kd.C_drewN ?_ _) | (with_reducible refine Kd.C_drew ?_))); (case side2 => exact HC0.out); rintro e w95 ⟨v283, rfl, ho0, hb⟩; refine ⟨_, rfl, ?_⟩; have n0_ := Aside0.mk (Kd.R_lower ho0 (below_size u12_0)); have n1_ := Aside0.mk (below_step u12_0 hb); clear HB; have HO284 := n0_; have HB := n1_; clear n0_ n1_; (try clear hb); (try clear hb2); (try clear hk); (try clear hi); (try clear ho0); obtain ⟨Ao96, co96, eo96⟩ := Kd.R_slice HO284.out; subst eo96) | ((with_reducible refine gate_callee (f := 42) rfl ?_); refine goesL_ (some 21) rfl rfl Try.func42 (by kernel_rfl) rfl #[.slice Ao96 t282.length co96, .int .i64 a1] rfl u12_1 ?_; (with_reducible refine (spec_TurnRig.calls k _ _ t282 a1 t285 _ ?side1 ?side2 A7.out).mono ?_); (case side1 => repeat (first | exact (Kd.R_reads' HO284.out).2.2 | (with_reducible refine Kd.C_alloc ?_ _) | (with_reducible refine Kd.C_drewN ?_ _) | (with_reducible refine Kd.C_drew ?_))); (case side2 => exact (Kd.R_reads' HO284.out).2.1); rintro e w97 ⟨v286, rfl, ho0, hb⟩; refine ⟨_, rfl, ?_⟩; have n0_ := Aside0.mk (Kd.R_elder' u12_4 (Kd.R_base ho0) hb); have n1_ := Aside0.mk (Kd.R_lower (Kd.R_new' ho0 (Kd.R_lt u12_4)) (below_size u12_0)); have n2_ := Aside0.mk (below_step u12_0 hb); clear HO284; clear HB; have HO284 := n0_; have HO287 := n1_; have HB := n2_; clear n0_ n1_ n2_; (try clear hb); (try clear hb2); (try clear hk); (try clear hi); (try clear ho0)) | ((with_reducible refine gate_callee (f := 21) rfl ?_); refine goesL_ (some 23) rfl rfl Try.func21 (by kernel_rfl) rfl #[.slice A0 l0.length c0] rfl u12_1 ?_; (with_reducible refine (laws_toDeviceS.calls k _ _ l0 t288 _ ?side1 ?side2 A8.out).mono ?_); (case side1 => repeat (first | exact (Kd.C_below HR0.out HB.out) | (with_reducible refine Kd.C_alloc ?_ _) | (with_reducible refine Kd.C_drewN ?_ _) | (with_reducible refine Kd.C_drew ?_))); (case side2 => exact HC0.out); rintro e w98 ⟨v289, rfl, ho0, hb⟩; refine ⟨_, rfl, ?_⟩; have n0_ := Aside0.mk (Kd.R_elder' u12_4 (Kd.R_base ho0) hb); have n1_ := Aside0.mk (Kd.R_elder' u12_5 (Kd.R_base ho0) hb); have n2_ := Aside0.mk (Kd.R_lower (Kd.R_new' (Kd.R_new' ho0 (Kd.R_lt u12_4)) (Kd.R_lt u12_5)) (below_size u12_0)); have n3_ := Aside0.mk (below_step u12_0 hb); clear HO284; clear HO287; clear HB; have HO284 := n0_; have HO287 := n1_; have HO290 := n2_; have HB := n3_; clear n0_ n1_ n2_ n3_; (try clear hb); (try clear hb2); (try clear hk); (try clear hi); (try clear ho0); obtain ⟨Ao99, co99, eo99⟩ := Kd.R_slice HO290.out; subst eo99) | ((with_reducible refine gate_callee (f := 43) rfl ?_); refine goesL_ (some 26) rfl rfl Try.func43 (by kernel_rfl) rfl #[.slice Ao99 t288.length co99, .int .i64 a1] rfl u12_1 ?_; (with_reducible refine (impl_TurnRig.calls k _ _ t288 a1 t291 _ ?side1 ?side2 A9.out).mono ?_); (case side1 => repeat (first | exact (Kd.R_reads' HO290.out).2.2 | (with_reducible refine Kd.C_alloc ?_ _) | (with_reducible refine Kd.C_drewN ?_ _) | (with_reducible refine Kd.C_drew ?_))); (case side2 => exact (Kd.R_reads' HO290.out).2.1); rintro e w100 ⟨v292, rfl, ho0, hb⟩; refine ⟨_, rfl, ?_⟩; have n0_ := Aside0.mk (Kd.R_elder' u12_4 (Kd.R_base ho0) hb); have n1_ := Aside0.mk (Kd.R_elder' u12_5 (Kd.R_base ho0) hb); have n2_ := Aside0.mk (Kd.R_elder' u12_8 (Kd.R_base ho0) hb); have n3_ := Aside0.mk (Kd.R_lower (Kd.R_new' (Kd.R_new' (Kd.R_new' ho0 (Kd.R_lt u12_4)) (Kd.R_lt u12_5)) (Kd.R_lt u12_8)) (below_size u12_0)); have n4_ := Aside0.mk (below_step u12_0 hb); clear HO284; clear HO287; clear HO290; clear HB; have HO284 := n0_; have HO287 := n1_; have HO290 := n2_; have HO293 := n3_; have HB := n4_; clear n0_ n1_ n2_ n3_ n4_; (try clear hb); (try clear hb2); (try clear hk); (try clear hi); (try clear ho0); obtain ⟨Ao101, co101, eo101⟩ := Kd.R_slice HO293.out; subst eo101; obtain ⟨Ao102, co102, eo102⟩ := Kd.R_slice HO287.out; subst eo102) | ((with_reducible refine gate_callee (f := 23) rfl ?_); refine goesL_ (some 29) rfl rfl Try.func23 (by kernel_rfl) rfl #[.slice Ao101 t291.length co101, .slice Ao102 t285.length co102] rfl u12_1 ?_; (with_reducible refine (laws_eqDeviceS.calls k _ _ t291 _ _ t285 false _ ?side1 ?side2 ?side3 ?side4 A10.out).mono ?_); (case side1 => repeat (first | exact (Kd.R_reads' HO293.out).2.2 | (with_reducible refine Kd.C_alloc ?_ _) | (with_reducible refine Kd.C_drewN ?_ _) | (with_reducible refine Kd.C_drew ?_))); (case side2 => exact (Kd.R_reads' HO293.out).2.1); (case side3 => repeat (first | exact (Kd.R_reads' HO287.out).2.2 | (with_reducible refine Kd.C_alloc ?_ _) | (with_reducible refine Kd.C_drewN ?_ _) | (with_reducible refine Kd.C_drew ?_))); (case side4 => exact (Kd.R_reads' HO287.out).2.1); rintro e w103 ⟨rfl, hb⟩; refine ⟨_, rfl, ?_⟩; have n0_ := Aside0.mk (Kd.R_below u12_4 hb); have n1_ := Aside0.mk (Kd.R_below u12_5 hb); have n2_ := Aside0.mk (Kd.R_below u12_8 hb); have n3_ := Aside0.mk (Kd.R_below u12_11 hb); have n4_ := Aside0.mk (below_step u12_0 hb); clear HO284; clear HO287; clear HO290; clear HO293; clear HB; have HO284 := n0_; have HO287 := n1_; have HO290 := n2_; have HO293 := n3_; have HB := n4_; clear n0_ n1_ n2_ n3_ n4_; (try clear hb); (try clear hb2); (try clear hk); (try clear hi)))
   go_ret
   exact ⟨by first | rfl | (simp [*] <;> rfl), by repeat (first | (with_reducible first | exact HB.out | apply below_alloc | apply pw_below_drewN | apply below_drew1) | exact HB.out)⟩

end Go.Proofs.Ytkedcokhcgklpaa.MFnExactTurnRig
