-- Written by a program for this claim.
import Derived.Lib.SliceRun
import Derived.Test.YtkljnmojnkiafaaMFnMovedRigx0
import Derived.Test.YtkljnmojnkiafaaMFnMovedRigx1
import Derived.Test.YtkljnmojnkiafaaMFnMovedRigx10
import Derived.Test.YtkljnmojnkiafaaMFnMovedRigx12
namespace Go.Proofs.Ytkljnmojnkiafaa.MFnMovedRig
open Go.RowKit Go.Proofs.YtkljnmojnkiafaaW.PrintWords Go.Proofs.YtkljnmojnkiafaaW.PrintLast Go.Proofs.YtkljnmojnkiafaaW.PrintMore
attribute [local go_sem] max2_int min2_int max_two min_two max_three min_three max_four min_four   -- for this text's walks alone
set_option linter.unusedVariables false
set_option linter.unusedSimpArgs false

attribute [local go_sem high] eqA87
theorem s13_0 {p : Prop} (h : p := by repeat (first | (with_reducible first | exact HB.out | apply below_alloc | apply pw_below_drewN | apply below_drew1 | refine below_set ?_ GE561.out | refine below_set ?_ GE562.out | refine below_set ?_ GE563.out) | exact HB.out)) : p := h
theorem s13_1 {p : Prop} (h : p := by repeat (first | (with_reducible first | exact HB.out | apply below_alloc | apply pw_below_drewN | apply below_drew1 | refine below_set ?_ GE530.out | refine below_set ?_ GE531.out) | exact HB.out)) : p := h
theorem s13_2 {p : Prop} (h : p := by repeat (first | (with_reducible first | exact HB.out | apply below_alloc | apply pw_below_drewN | apply below_drew1 | refine below_set ?_ GE558.out | refine below_set ?_ GE559.out) | exact HB.out)) : p := h
theorem s13_3 {p : Prop} (h : p := by repeat (first | (with_reducible first | exact HB.out | apply below_alloc | apply pw_below_drewN | apply below_drew1 | refine below_set ?_ GE540.out) | exact HB.out)) : p := h
theorem s13_4 {p : Prop} (h : p := by repeat (first | (with_reducible first | exact HB.out | apply below_alloc | apply pw_below_drewN | apply below_drew1) | exact HB.out)) : p := h
theorem s13_5 {p : Prop} (h : p := by repeat (first | exact Drawn0.refl _ | apply Drawn0.step)) : p := h
theorem y13_0 {p : Prop} (h : p := by repeat (first | exact (Kd.C_below HR0.out HB.out) | (with_reducible refine Kd.C_alloc ?_ _) | (with_reducible refine Kd.C_drewN ?_ _) | (with_reducible refine Kd.C_drew ?_))) : p := h
theorem u13_0 {p : Prop} (h : p := by repeat (first | (with_reducible first | exact HB.out | apply below_alloc | apply pw_below_drewN | apply below_drew1) | exact HB.out)) : p := h
theorem u13_1 {p : Prop} (h : p := by (with_reducible repeat (first | refine blk_drewN ?_ _ | refine blk_drew ?_ | refine blk_alloc ?_ _)); exact BK561.out) : p := h
theorem u13_2 {p : Prop} (h : p := by (with_reducible repeat (first | refine blk_drewN ?_ _ | refine blk_drew ?_ | refine blk_alloc ?_ _)); refine blk_put (cs := zr5 ((rd_T87 l0 x15_1).f0) ((rd_T87 l0 x15_1).f1) ((rd_T87 l0 x15_1).f2) ((rd_T87 l0 x15_1).f3.f0) ((rd_T87 l0 x15_1).f3.f1) ((rd_T87 l0 x15_1).f4) ((rd_T87 l0 x15_1).f5) 0) ?_ 7 _ rfl; refine blk_put (cs := zr5 ((rd_T87 l0 x15_1).f0) ((rd_T87 l0 x15_1).f1) ((rd_T87 l0 x15_1).f2) ((rd_T87 l0 x15_1).f3.f0) ((rd_T87 l0 x15_1).f3.f1) ((rd_T87 l0 x15_1).f4) 0 0) ?_ 6 _ rfl; refine blk_put (cs := zr5 ((rd_T87 l0 x15_1).f0) ((rd_T87 l0 x15_1).f1) ((rd_T87 l0 x15_1).f2) ((rd_T87 l0 x15_1).f3.f0) ((rd_T87 l0 x15_1).f3.f1) 0 0 0) ?_ 5 _ rfl; refine blk_put (cs := zr5 ((rd_T87 l0 x15_1).f0) ((rd_T87 l0 x15_1).f1) ((rd_T87 l0 x15_1).f2) ((rd_T87 l0 x15_1).f3.f0) 0 0 0 0) ?_ 4 _ rfl; refine blk_put (cs := zr5 ((rd_T87 l0 x15_1).f0) ((rd_T87 l0 x15_1).f1) ((rd_T87 l0 x15_1).f2) 0 0 0 0 0) ?_ 3 _ rfl; refine blk_put (cs := zr5 ((rd_T87 l0 x15_1).f0) ((rd_T87 l0 x15_1).f1) (⟨#[]⟩ : ByteArray) 0 0 0 0 0) ?_ 2 _ rfl; (with_reducible repeat (first | refine blk_drewN ?_ _ | refine blk_drew ?_ | refine blk_alloc ?_ _)); refine blk_put (cs := zr5 ((rd_T87 l0 x15_1).f0) 0 (⟨#[]⟩ : ByteArray) 0 0 0 0 0) ?_ 1 _ rfl; (with_reducible repeat (first | refine blk_drewN ?_ _ | refine blk_drew ?_ | refine blk_alloc ?_ _)); refine blk_put (cs := zr5 (⟨#[]⟩ : ByteArray) 0 (⟨#[]⟩ : ByteArray) 0 0 0 0 0) ?_ 0 _ rfl; (with_reducible repeat (first | refine blk_drewN ?_ _ | refine blk_drew ?_ | refine blk_alloc ?_ _)); exact BK540.out) : p := h
theorem u13_3 {p : Prop} (h : p := by (with_reducible repeat (first | refine blk_drewN ?_ _ | refine blk_drew ?_ | refine blk_alloc ?_ _)); exact BK562.out) : p := h
theorem u13_4 {p : Prop} (h : p := by repeat (first | (with_reducible first | exact HB.out | apply below_alloc | apply pw_below_drewN | apply below_drew1 | refine below_set ?_ GE561.out | refine below_set ?_ GE562.out) | exact HB.out)) : p := h
theorem u13_5 {p : Prop} (h : p := by repeat (first | (with_reducible first | exact HB.out | apply below_alloc | apply pw_below_drewN | apply below_drew1 | refine below_set ?_ GE561.out) | exact HB.out)) : p := h
theorem u13_6 {p : Prop} (h : p := by (try simp only [List.map_toArray, List.map_cons, List.map_nil]); first | done | rfl) : p := h
theorem u13_7 {p : Prop} (h : p := by repeat (first | (with_reducible first | exact HB.out | apply below_alloc | apply pw_below_drewN | apply below_drew1 | refine below_set ?_ GE561.out | refine below_set ?_ GE562.out | refine below_set ?_ GE563.out) | exact HB.out)) : p := h
theorem u13_8 {p : Prop} (h : p := by (with_reducible repeat (first | refine blk_drewN ?_ _ | refine blk_drew ?_ | refine blk_alloc ?_ _)); refine blk_put (cs := zr5 ((rd_T87 l0 x15_1).f0) ((rd_T87 l0 x15_1).f1) ((rd_T87 l0 x15_1).f2) t541 t542 ((rd_T87 l0 x15_1).f4) ((rd_T87 l0 x15_1).f5) ((rd_T87 l0 x15_1).f6)) ?_ 5 _ rfl; refine blk_put (cs := zr5 ((rd_T87 l0 x15_1).f0) ((rd_T87 l0 x15_1).f1) ((rd_T87 l0 x15_1).f2) t541 ((rd_T87 l0 x15_1).f3.f1) ((rd_T87 l0 x15_1).f4) ((rd_T87 l0 x15_1).f5) ((rd_T87 l0 x15_1).f6)) ?_ 4 _ rfl; refine blk_put (cs := zr11 (rd_T87 l0 x15_1)) ?_ 3 _ rfl; (with_reducible repeat (first | refine blk_drewN ?_ _ | refine blk_drew ?_ | refine blk_alloc ?_ _)); exact BK540.out) : p := h
theorem u13_9 {p : Prop} (h : p := by (with_reducible repeat (first | apply Kd.R_alloc | apply Kd.R_drewN | apply Kd.R_drew)); exact (Kd.R_mono (Kd.R_far (p := ⟨gb540, 7, none⟩) (Kd.R_far (p := ⟨gb540, 6, none⟩) (Kd.R_far (p := ⟨gb540, 5, none⟩) (Kd.R_far (p := ⟨gb540, 4, none⟩) (Kd.R_far (p := ⟨gb540, 3, none⟩) (Kd.R_far (p := ⟨gb540, 2, none⟩) (Kd.R_far (p := ⟨gb540, 1, none⟩) (Kd.R_far (p := ⟨gb540, 0, none⟩) (Kd.R_mono HO_5.out (fun k_ hk => (⟨hk, hk.2⟩ : _ ∧ k_ ≠ gb540))) (fun _ hk => hk.2) (.string ((rd_T87 l0 x15_1).f0))) (fun _ hk => hk.2) (.int .i64 ((rd_T87 l0 x15_1).f1))) (fun _ hk => hk.2) (.string ((rd_T87 l0 x15_1).f2))) (fun _ hk => hk.2) (.int .i64 ((rd_T87 l0 x15_1).f3.f0))) (fun _ hk => hk.2) (.int .i64 ((rd_T87 l0 x15_1).f3.f1))) (fun _ hk => hk.2) (.int .i64 ((rd_T87 l0 x15_1).f4))) (fun _ hk => hk.2) (.int .i64 ((rd_T87 l0 x15_1).f5))) (fun _ hk => hk.2) (.int .i64 ((rd_T87 l0 x15_1).f6))) (fun _ h_ => h_.1))) : p := h
theorem u13_10 {p : Prop} (h : p := by (with_reducible repeat (first | refine blk_drewN ?_ _ | refine blk_drew ?_ | refine blk_alloc ?_ _)); exact BK558.out) : p := h
theorem u13_11 {p : Prop} (h : p := by repeat (first | (with_reducible first | exact HB.out | apply below_alloc | apply pw_below_drewN | apply below_drew1 | refine below_set ?_ GE558.out) | exact HB.out)) : p := h
theorem u13_12 {p : Prop} (h : p := by repeat (first | (with_reducible first | exact HB.out | apply below_alloc | apply pw_below_drewN | apply below_drew1 | refine below_set ?_ GE540.out) | exact HB.out)) : p := h
theorem u13_13 {p : Prop} (h : p := by (with_reducible repeat (first | refine blk_drewN ?_ _ | refine blk_drew ?_ | refine blk_alloc ?_ _)); refine blk_put (cs := zr5 ((rd_T87 l0 x15_1).f0) ((rd_T87 l0 x15_1).f1) ((rd_T87 l0 x15_1).f2) t541 ((rd_T87 l0 x15_1).f3.f1) ((rd_T87 l0 x15_1).f4) ((rd_T87 l0 x15_1).f5) ((rd_T87 l0 x15_1).f6)) ?_ 4 _ rfl; refine blk_put (cs := zr11 (rd_T87 l0 x15_1)) ?_ 3 _ rfl; (with_reducible repeat (first | refine blk_drewN ?_ _ | refine blk_drew ?_ | refine blk_alloc ?_ _)); exact BK540.out) : p := h
theorem u13_14 {p : Prop} (h : p := by (with_reducible repeat (first | refine blk_drewN ?_ _ | refine blk_drew ?_ | refine blk_alloc ?_ _)); exact BK563.out) : p := h
theorem u13_15 {p : Prop} (h : p := by (with_reducible repeat (first | refine blk_drewN ?_ _ | refine blk_drew ?_ | refine blk_alloc ?_ _)); refine blk_put (cs := zr8 0 0) ?_ 1 _ rfl; refine blk_put (cs := zr8 0 0) ?_ 0 _ rfl; (with_reducible repeat (first | refine blk_drewN ?_ _ | refine blk_drew ?_ | refine blk_alloc ?_ _)); exact BK563.out) : p := h
theorem u13_16 {p : Prop} (h : p := by repeat (first | (with_reducible first | exact HB.out | apply below_alloc | apply pw_below_drewN | apply below_drew1 | refine below_set ?_ GE530.out) | exact HB.out)) : p := h
theorem u13_17 {p : Prop} (h : p := by first | rfl | (simp; done) | (simp [*]; done)) : p := h
theorem u13_18 {p : Prop} (h : p := by (with_reducible repeat (first | refine blk_drewN ?_ _ | refine blk_drew ?_ | refine blk_alloc ?_ _)); exact BK530.out) : p := h
def impl_turns.f (a0 : Int) : Option (Int) := some (Int.tmod (wrap64 ((Int.tmod a0 4) + 4)) 4)
set_option maxHeartbeats 8000000 in
set_option maxRecDepth 100000 in
theorem impl_turns.calls (a0 : Int) (r : Int) (w : World) (h : impl_turns.f a0 = some r) :
  Calls Try.prog 125 #[.int .i64 a0] w fun e w' => e = .returned (.int .i64 r) ∧ Drawn0 w w' := by
 have H : (some (Int.tmod (wrap64 ((Int.tmod a0 4) + 4)) 4)) = some r := h
 clear h
 obtain rfl := Option.some.inj H
 go_enter Try.func125, Try.ntmps125
 go_wp2
 go_ret
 exact ⟨by first | rfl | (simp; done) | (simp [*]; done), s13_5⟩

def impl_turned.l0 : Nat → Int → Int → Int → Int → Option (Int × Int)
 | 0, _, _, _, _ => none
 | k + 1, x6, x7, x531000, x531001 => if x7 < x6 then (impl_turned.l0 k x6 (wrap64 (x7 + 1)) (wrap64 (-x531001)) x531000) else (some (x531000, x531001))
def impl_turned.f (k : Nat) (a0_0 : Int) (a0_1 : Int) (a1 : Int) : Option (Int × Int) := (impl_turns.f a1).bind fun t532 => (impl_turned.l0 k t532 0 a0_0 a0_1)
theorem impl_turned.mono_l : ∀ k, (∀ y0 y1 y2 y3, LeO (impl_turned.l0 k y0 y1 y2 y3) (impl_turned.l0 (k + 1) y0 y1 y2 y3))
 | 0 => fun _ _ _ _ r h => by simp [impl_turned.l0] at h
 | k + 1 => by
  have ih0 := impl_turned.mono_l k
  ·intro y0 y1 y2 y3
   unfold impl_turned.l0
   repeat' first
   | (with_reducible exact ih0 _ _ _ _)
   | (with_reducible exact LeO.refl _)
   | (with_reducible exact LeO.none _)
   | (with_reducible refine LeO.ite ?_ ?_)
   | (with_reducible refine LeO.bind ?_ (fun _ => ?_))
theorem impl_turned.mono : ∀ a0 a1 a2 k, LeO (impl_turned.f k a0 a1 a2) (impl_turned.f (k + 1) a0 a1 a2) := by
 intro a0 a1 a2 k
 have ih0 := impl_turned.mono_l k
 unfold impl_turned.f
 repeat' first
   | (with_reducible exact ih0 _ _ _ _)
   | (with_reducible exact LeO.refl _)
   | (with_reducible exact LeO.none _)
   | (with_reducible refine LeO.ite ?_ ?_)
   | (with_reducible refine LeO.bind ?_ (fun _ => ?_))
set_option maxHeartbeats 8000000 in
set_option maxRecDepth 100000 in
theorem impl_turned.calls (k : Nat) (a0_0 : Int) (a0_1 : Int) (a1 : Int) (r1 : Int) (r2 : Int) (w : World) (h : impl_turned.f k a0_0 a0_1 a1 = some (r1, r2)) :
  Calls Try.prog 87 #[.agg #[.int .i64 a0_0, .int .i64 a0_1], .int .i64 a1] w fun e w' => e = .returned (.agg #[.int .i64 r1, .int .i64 r2]) ∧ Below w.heap.size w w' := by
 have hu66 := Try.underlying66
 have HB := am (Below.refl w.heap.size w)
 have H : ((impl_turns.f a1).bind fun t532 => (impl_turned.l0 k t532 0 a0_0 a0_1)) = some (r1, r2) := h
 clear h
 replace H := Option.bind_eq_some_iff.mp H
 obtain ⟨t532, A30, H⟩ := H
 replace H : (impl_turned.l0 k t532 0 a0_0 a0_1) = some (r1, r2) := H
 have A3 := am A30
 clear A30
 have H' := am H
 clear H
 go_enter Try.func87, Try.ntmps87
 go_wp2_with (first | ((with_reducible refine gate_dst (N := 2) rfl ?_); refine box_event ?hg (N := 2) ?hd (cs := #[.int .i64 a0_0, .int .i64 a0_1]) (t := 66) ?hr ?_; (case hd => rfl); (case hg => rfl); (case hr => exact gq); intro gb530 hg w4 hbox hb; have n0_ := am (below_step u13_0 hb); have n1_ := am (hbox); have n2_ := bsw w hg (below_size u13_0); have n3_ := bsw w hg (below_size u13_0); clear HB; have HB := n0_; have BK530 := n1_; have GW530 := n2_; have GE530 := n3_; clear n0_ n1_ n2_ n3_ hb hbox hg) | ((with_reducible refine gate_dst (N := 4) rfl ?_); refine box_event ?hg (N := 4) ?hd (cs := #[.int .i64 0, .int .i64 0]) (t := 66) ?hr ?_; (case hd => rfl); (case hg => rfl); (case hr => exact gq); intro gb531 hg w5 hbox hb; have n0_ := am (blk_below (g := gb530) (o := zo6 a0_0 a0_1) u13_18 hb); have n1_ := am (below_step u13_16 hb); have n2_ := am (hbox); have n3_ := bsw w hg (below_size u13_16); have n4_ := bsw w hg (below_size u13_16); have n5_ := am ((by rw [hg]; exact Nat.ne_of_lt (blk_lt (g := gb530) (o := zo6 a0_0 a0_1) u13_18) : gb530 ≠ gb531)); have n6_ := am ((by rw [hg]; exact Nat.ne_of_gt (blk_lt (g := gb530) (o := zo6 a0_0 a0_1) u13_18) : gb531 ≠ gb530)); clear BK530 HB; have BK530 := n0_; have HB := n1_; have BK531 := n2_; have GW531 := n3_; have GE531 := n4_; have NB530_531 := n5_; have NB531_530 := n6_; clear n0_ n1_ n2_ n3_ n4_ n5_ n6_ hb hbox hg) | ((with_reducible refine gate_callee (f := 125) rfl ?_); refine goesL_ (some 6) rfl rfl Try.func125 (by kernel_rfl) rfl #[.int .i64 a1] rfl u13_6 ?_; (with_reducible refine (impl_turns.calls a1 t532 _ A3.out).mono ?_); rintro e w' ⟨rfl, ⟨nd, rfl⟩⟩; refine ⟨_, rfl, ?_⟩))
 go_loopg [7] k (fun kq v7 w' => ∃ (x7_1 : Int) (x531000_1 : Int) (x531001_1 : Int), v7 = .int .i64 x7_1 ∧ Aside0 (impl_turned.l0 kq t532 x7_1 x531000_1 x531001_1 = some (r1, r2)) ∧ Aside0 (kq ≤ k) ∧ Aside0 (w'.heap[gb530]? = some (.cells #[.int .i64 x531000_1, .int .i64 x531001_1] 66 (0, 0))) ∧ Aside0 (w'.heap[gb531]? = some (.cells #[.int .i64 0, .int .i64 0] 66 (0, 0))) ∧ Aside0 (Below w.heap.size w w'))
 case atStart => exact ⟨(0), (a0_0), (a0_1), u13_17, H', ⟨Nat.le_refl _⟩, ⟨by (with_reducible repeat (first | refine blk_drewN ?_ _ | refine blk_drew ?_ | refine blk_alloc ?_ _)); exact BK530.out⟩, ⟨by (with_reducible repeat (first | refine blk_drewN ?_ _ | refine blk_drew ?_ | refine blk_alloc ?_ _)); exact BK531.out⟩, ⟨s13_1⟩⟩
 case round =>
  clear H'
  try clear c1
  try clear p2
  obtain ⟨x7_1, x531000_1, x531001_1, rfl, HA, HK1, BK530, BK531, HB⟩ := hrel
  cases gk with
  | zero => exact absurd HA.out (by simp [impl_turned.l0])
  | succ k1 =>
   have H := HA.out
   clear HA
   simp only [impl_turned.l0] at H
   by_cases c6 : x7_1 < t532
   ·rw [if_pos c6] at H
    have c6b0 : decide (x7_1 < t532) = true := decide_eq_true c6
    clear c6
    have H' := am H
    clear H
    have hnb7 := NB530_531.out
    have hnc7 := NB531_530.out
    obtain ⟨hcz8_0, hcz8_1, hfz8_0, hfz8_1⟩ := cf2 BK530.out
    go_wp2
    go_roundg k1
    case measure => have := HK1.out; omega
    case rel => exact ⟨(wrap64 (x7_1 + 1)), (wrap64 (-x531001_1)), (x531000_1), u13_17, H', ⟨by have := HK1.out; omega⟩, ⟨by (with_reducible repeat (first | refine blk_drewN ?_ _ | refine blk_drew ?_ | refine blk_alloc ?_ _)); refine blk_put (cs := zr8 (wrap64 (-x531001_1)) x531001_1) ?_ 1 _ rfl; refine blk_put (cs := zr8 x531000_1 x531001_1) ?_ 0 _ rfl; (with_reducible repeat (first | refine blk_drewN ?_ _ | refine blk_drew ?_ | refine blk_alloc ?_ _)); exact BK530.out⟩, ⟨by (with_reducible repeat (first | refine blk_drewN ?_ _ | refine blk_drew ?_ | refine blk_alloc ?_ _)); refine blk_far ?_ NB531_530.out _; (with_reducible repeat (first | refine blk_drewN ?_ _ | refine blk_drew ?_ | refine blk_alloc ?_ _)); refine blk_far ?_ NB531_530.out _; (with_reducible repeat (first | refine blk_drewN ?_ _ | refine blk_drew ?_ | refine blk_alloc ?_ _)); exact BK531.out⟩, ⟨s13_1⟩⟩
   ·rw [if_neg c6] at H
    have c6b0 : decide (x7_1 < t532) = false := decide_eq_false c6
    clear c6
    simp only [Option.some.injEq, Prod.mk.injEq] at H
    obtain ⟨rfl, rfl⟩ := H
    have hnb9 := NB530_531.out
    have hnc9 := NB531_530.out
    obtain ⟨hcz10_0, hcz10_1, hfz10_0, hfz10_1⟩ := cf2 BK530.out
    obtain ⟨hcz11_0, hcz11_1, hfz11_0, hfz11_1⟩ := cf2 BK531.out
    go_wp2
    refine bodyPost_ret (results_cell_row rfl _ _ gb531 66 #[.int .i64 x531000_1, .int .i64 x531001_1] (0, 0) _ rfl (by (with_reducible repeat (first | refine blk_drewN ?_ _ | refine blk_drew ?_ | refine blk_alloc ?_ _)); refine blk_put (cs := zr8 x531000_1 0) ?_ 1 _ rfl; refine blk_put (cs := zr8 0 0) ?_ 0 _ rfl; (with_reducible repeat (first | refine blk_drewN ?_ _ | refine blk_drew ?_ | refine blk_alloc ?_ _)); exact BK531.out) Try.underlying66 rfl (by kernel_rfl)) rfl ?_
    exact ⟨by first | rfl | (simp [*] <;> rfl), s13_1⟩

def impl_TurnHeading.f (a0 : Int) (a1 : Int) : Option (Int) := (impl_IsHeading.f a0).bind fun t533 => (if t533 = true then ((impl_turns.f a1).bind fun t534 => (some (Int.tmod (wrap64 (a0 + t534)) 4))) else (some 0))
set_option maxHeartbeats 8000000 in
set_option maxRecDepth 100000 in
theorem impl_TurnHeading.calls (a0 : Int) (a1 : Int) (r : Int) (w : World) (h : impl_TurnHeading.f a0 a1 = some r) :
  Calls Try.prog 91 #[.int .i64 a0, .int .i64 a1] w fun e w' => e = .returned (.int .i64 r) ∧ Drawn0 w w' := by
 have H : ((impl_IsHeading.f a0).bind fun t533 => (if t533 = true then ((impl_turns.f a1).bind fun t534 => (some (Int.tmod (wrap64 (a0 + t534)) 4))) else (some 0))) = some r := h
 clear h
 replace H := Option.bind_eq_some_iff.mp H
 obtain ⟨t533, A30, H⟩ := H
 replace H : (if t533 = true then ((impl_turns.f a1).bind fun t534 => (some (Int.tmod (wrap64 (a0 + t534)) 4))) else (some 0)) = some r := H
 have A3 := am A30
 clear A30
 by_cases c4 : t533 = true
 ·subst c4
  have H1 : ((impl_turns.f a1).bind fun t534 => (some (Int.tmod (wrap64 (a0 + t534)) 4))) = some r := by rw [if_pos rfl] at H; exact H
  clear H
  have H := H1
  clear H1
  replace H := Option.bind_eq_some_iff.mp H
  obtain ⟨t534, A50, H⟩ := H
  replace H : (some (Int.tmod (wrap64 (a0 + t534)) 4)) = some r := H
  have A5 := am A50
  clear A50
  obtain rfl := Option.some.inj H
  go_enter Try.func91, Try.ntmps91
  go_wp2_with (first | ((with_reducible refine gate_callee (f := 86) rfl ?_); refine goesL_ (some 6) rfl rfl Try.func86 (by kernel_rfl) rfl #[.int .i64 a0] rfl u13_6 ?_; (with_reducible refine (impl_IsHeading.calls a0 true _ A3.out).mono ?_); rintro e w' ⟨rfl, ⟨nd, rfl⟩⟩; refine ⟨_, rfl, ?_⟩) | ((with_reducible refine gate_callee (f := 125) rfl ?_); refine goesL_ (some 10) rfl rfl Try.func125 (by kernel_rfl) rfl #[.int .i64 a1] rfl u13_6 ?_; (with_reducible refine (impl_turns.calls a1 t534 _ A5.out).mono ?_); rintro e w' ⟨rfl, ⟨nd, rfl⟩⟩; refine ⟨_, rfl, ?_⟩))
  go_ret
  exact ⟨by first | rfl | (simp; done) | (simp [*]; done), s13_5⟩
 ·replace c4 := Bool.eq_false_iff.mpr c4
  subst c4
  have H1 : (some 0) = some r := by rw [if_neg (show ¬ (false = true) by decide)] at H; exact H
  clear H
  have H := H1
  clear H1
  obtain rfl := Option.some.inj H
  go_enter Try.func91, Try.ntmps91
  go_wp2_with (first | ((with_reducible refine gate_callee (f := 86) rfl ?_); refine goesL_ (some 6) rfl rfl Try.func86 (by kernel_rfl) rfl #[.int .i64 a0] rfl u13_6 ?_; (with_reducible refine (impl_IsHeading.calls a0 false _ A3.out).mono ?_); rintro e w' ⟨rfl, ⟨nd, rfl⟩⟩; refine ⟨_, rfl, ?_⟩))
  go_ret
  exact ⟨by first | rfl | (simp; done) | (simp [*]; done), s13_5⟩

def impl_TurnRig.l0 : Nat → Int → List (S87) → List (S87) → Int → Int → Option ((List (S87)))
 | 0, _, _, _, _, _ => none
 | k + 1, x1, x5, x13, x14, x15 => if x15 < x14 then (if 0 ≤ x15 then (if x15 < (x13.length : Int) then ((impl_turned.f k ((rd_T87 x13 x15).f3.f0) ((rd_T87 x13 x15).f3.f1) x1).bind fun bt541 => (if ((rd_T87 x13 x15).f1) = 2 then ((impl_TurnHeading.f ((rd_T87 x13 x15).f4) x1).bind fun t543 => (if x5.length < 1759218604441 then (impl_TurnRig.l0 k x1 (x5 ++ [(⟨(rd_T87 x13 x15).f0, (rd_T87 x13 x15).f1, (rd_T87 x13 x15).f2, (⟨bt541.1, bt541.2⟩ : S66), t543, (rd_T87 x13 x15).f5, (rd_T87 x13 x15).f6⟩ : S87)]) x13 x14 (wrap64 (x15 + 1))) else (none))) else (if x5.length < 1759218604441 then (impl_TurnRig.l0 k x1 (x5 ++ [(⟨(rd_T87 x13 x15).f0, (rd_T87 x13 x15).f1, (rd_T87 x13 x15).f2, (⟨bt541.1, bt541.2⟩ : S66), (rd_T87 x13 x15).f4, (rd_T87 x13 x15).f5, (rd_T87 x13 x15).f6⟩ : S87)]) x13 x14 (wrap64 (x15 + 1))) else (none)))) else (none)) else (none)) else (some x5)
def impl_TurnRig.f (k : Nat) (l0 : List (S87)) (a1 : Int) : Option ((List (S87))) := (some (([] : List (S87)) : List (S87))).bind fun y535 => ((impl_IsRig.f k l0).bind fun t538 => (if t538 = true then (impl_TurnRig.l0 k a1 y535 l0 (l0.length : Int) 0) else (some y535)))
theorem impl_TurnRig.mono_l : ∀ k, (∀ y0 y1 y2 y3 y4, LeO (impl_TurnRig.l0 k y0 y1 y2 y3 y4) (impl_TurnRig.l0 (k + 1) y0 y1 y2 y3 y4))
 | 0 => fun _ _ _ _ _ r h => by simp [impl_TurnRig.l0] at h
 | k + 1 => by
  have ih0 := impl_TurnRig.mono_l k
  ·intro y0 y1 y2 y3 y4
   unfold impl_TurnRig.l0
   repeat' first
   | (with_reducible exact ih0 _ _ _ _ _)
   | (with_reducible exact impl_IsRig.mono _ _)
   | (with_reducible exact impl_turned.mono _ _ _ _)
   | (with_reducible exact LeO.refl _)
   | (with_reducible exact LeO.none _)
   | (with_reducible refine LeO.ite ?_ ?_)
   | (with_reducible refine LeO.bind ?_ (fun _ => ?_))
theorem impl_TurnRig.mono : ∀ a0 a1 k, LeO (impl_TurnRig.f k a0 a1) (impl_TurnRig.f (k + 1) a0 a1) := by
 intro a0 a1 k
 have ih0 := impl_TurnRig.mono_l k
 unfold impl_TurnRig.f
 repeat' first
   | (with_reducible exact ih0 _ _ _ _ _)
   | (with_reducible exact impl_IsRig.mono _ _)
   | (with_reducible exact impl_turned.mono _ _ _ _)
   | (with_reducible exact LeO.refl _)
   | (with_reducible exact LeO.none _)
   | (with_reducible refine LeO.ite ?_ ?_)
   | (with_reducible refine LeO.bind ?_ (fun _ => ?_))
set_option maxHeartbeats 8000000 in
set_option maxRecDepth 100000 in
theorem impl_TurnRig.calls (k : Nat) (A0 : Option Addr) (c0 : Nat) (l0 : List (S87)) (a1 : Int) (r : List (S87)) (w : World) (hr0 : Kd.C k87 w A0 l0.length l0) (hc0 : l0.length ≤ c0) (h : impl_TurnRig.f k l0 a1 = some r) :
  Calls Try.prog 49 #[.slice A0 l0.length c0, .int .i64 a1] w fun e w' => ∃ v0_ : Value, e = .returned (v0_) ∧ Kd.R k87 87 w' w.heap.size (fun _ => True) v0_ r ∧ Below w.heap.size w w' := by
 have hu87 := Try.underlying87
 have hu66 := Try.underlying66
 have HR0 := am hr0
 have HC0 := am hc0
 clear hr0 hc0
 have HB := am (Below.refl w.heap.size w)
 have H : ((some (([] : List (S87)) : List (S87))).bind fun y535 => ((impl_IsRig.f k l0).bind fun t538 => (if t538 = true then (impl_TurnRig.l0 k a1 y535 l0 (l0.length : Int) 0) else (some y535)))) = some r := h
 clear h
 obtain ⟨y535, hy535⟩ : ∃ y_ : List (S87), y_ = (([] : List (S87))) := ⟨_, rfl⟩
 replace H : ((impl_IsRig.f k l0).bind fun t538 => (if t538 = true then (impl_TurnRig.l0 k a1 y535 l0 (l0.length : Int) 0) else (some y535))) = some r := by first | (rw [hy535]; with_reducible exact H) | (have H2_ := (Option.bind_some _ _).symm.trans H; rw [hy535]; with_reducible exact H2_) | (have H2_ := (Option.bind_some _ _).symm.trans H; with_reducible exact H2_) | with_reducible exact H | (rw [hy535]; exact H) | exact H
 have Ny535 := am hy535
 clear hy535
 replace H := Option.bind_eq_some_iff.mp H
 obtain ⟨t538, A30, H⟩ := H
 replace H : (if t538 = true then (impl_TurnRig.l0 k a1 y535 l0 (l0.length : Int) 0) else (some y535)) = some r := H
 have A3 := am A30
 clear A30
 by_cases c4 : t538 = true
 ·subst c4
  have H1 : (impl_TurnRig.l0 k a1 y535 l0 (l0.length : Int) 0) = some r := by rw [if_pos rfl] at H; exact H
  clear H
  have H := H1
  clear H1
  have H' := am H
  clear H
  go_enter Try.func49, Try.ntmps49
  go_wp2_with (first | ((with_reducible refine gate_dst (N := 8) rfl ?_); refine Kd.R_lit k87 _ 87 ?hg (N := 8) ?hd (xs := ([] : List (S87))) (inner := []) (ok := fun _ => True) (okp := fun _ => True) ?hr ?hp (fun _ hk => hk) trivial (Below.refl _ _) (Nat.le_refl _) (by simp) ?_; (case hd => rfl); (case hg => rfl); (case hr => exact gq); (case hp => exact (Reps.none _ _)); intro v536 w5 ho6 hb hg_ hnew_; clear hg_ hnew_; (first | rw [← Ny535.out] at ho6 | (simp only [Int.reduceToNat] at ho6; rw [← Ny535.out] at ho6)); have n0_ := am (Kd.R_lower ho6 (below_size u13_0)); have n1_ := am (below_step u13_0 hb); clear HB; have HO537 := n0_; have HB := n1_; clear n0_ n1_ hb ho6) | ((with_reducible refine gate_callee (f := 50) rfl ?_); refine goesL_ (some 10) rfl rfl Try.func50 (by kernel_rfl) rfl #[.slice A0 l0.length c0] rfl u13_6 ?_; (with_reducible refine (impl_IsRig.calls k _ _ l0 true _ ?side1 ?side2 A3.out).mono ?_); (case side1 => exact y13_0); (case side2 => exact HC0.out); rintro e w7 ⟨rfl, hb⟩; refine ⟨_, rfl, ?_⟩; have n0_ := am (Kd.R_below (by (with_reducible repeat (first | apply Kd.R_alloc | apply Kd.R_drewN | apply Kd.R_drew)); exact HO537.out) hb); have n1_ := am (below_step u13_0 hb); clear HO537 HB; have HO537 := n0_; have HB := n1_; clear n0_ n1_; (try clear hb); (try clear hb2); (try clear hk); (try clear hi)))
  go_loopg [5, 15] k (fun kq v5 v15 w' => ∃ (x5_1 : List (S87)) (x15_1 : Int), v15 = .int .i64 x15_1 ∧ Aside0 (impl_TurnRig.l0 kq a1 x5_1 l0 (l0.length : Int) x15_1 = some r) ∧ Aside0 (kq ≤ k) ∧ Aside0 (Kd.R k87 87 w' w.heap.size (fun _ => True) v5 x5_1) ∧ Aside0 (Below w.heap.size w w'))
  case atStart => exact ⟨(y535), (0), u13_17, H', ⟨Nat.le_refl _⟩, ⟨by (with_reducible repeat (first | apply Kd.R_alloc | apply Kd.R_drewN | apply Kd.R_drew)); exact HO537.out⟩, ⟨s13_4⟩⟩
  case round =>
   clear H'
   try clear p2
   try clear c4
   try clear c5
   obtain ⟨x5_1, x15_1, rfl, HA, HK1, HO_5, HB⟩ := hrel
   cases gk with
   | zero => exact absurd HA.out (by simp [impl_TurnRig.l0])
   | succ k1 =>
    have H := HA.out
    clear HA
    simp only [impl_TurnRig.l0] at H
    by_cases c8 : x15_1 < (l0.length : Int)
    ·rw [if_pos c8] at H
     have c8b0 : decide (x15_1 < (l0.length : Int)) = true := decide_eq_true c8
     clear c8
     by_cases c9 : 0 ≤ x15_1
     ·rw [if_pos c9] at H
      have c9b0 : decide (0 ≤ x15_1) = true := decide_eq_true c9
      clear c9
      by_cases c10 : x15_1 < (l0.length : Int)
      ·rw [if_pos c10] at H
       have c10b0 : decide (x15_1 < (l0.length : Int)) = true := decide_eq_true c10
       clear c10
       replace H := Option.bind_eq_some_iff.mp H
       obtain ⟨⟨t541, t542⟩, A110, H⟩ := H
       replace H : (if ((rd_T87 l0 x15_1).f1) = 2 then ((impl_TurnHeading.f ((rd_T87 l0 x15_1).f4) a1).bind fun t543 => (if x5_1.length < 1759218604441 then (impl_TurnRig.l0 k1 a1 (x5_1 ++ [(⟨(rd_T87 l0 x15_1).f0, (rd_T87 l0 x15_1).f1, (rd_T87 l0 x15_1).f2, (⟨t541, t542⟩ : S66), t543, (rd_T87 l0 x15_1).f5, (rd_T87 l0 x15_1).f6⟩ : S87)]) l0 (l0.length : Int) (wrap64 (x15_1 + 1))) else (none))) else (if x5_1.length < 1759218604441 then (impl_TurnRig.l0 k1 a1 (x5_1 ++ [(⟨(rd_T87 l0 x15_1).f0, (rd_T87 l0 x15_1).f1, (rd_T87 l0 x15_1).f2, (⟨t541, t542⟩ : S66), (rd_T87 l0 x15_1).f4, (rd_T87 l0 x15_1).f5, (rd_T87 l0 x15_1).f6⟩ : S87)]) l0 (l0.length : Int) (wrap64 (x15_1 + 1))) else (none))) = some r := H
       have A11 := am A110
       clear A110
       by_cases c12 : ((rd_T87 l0 x15_1).f1) = 2
       ·rw [if_pos c12] at H
        have c12b0 : (((rd_T87 l0 x15_1).f1) == 2) = true := beq_iff_eq.mpr c12
        have c12b1 : (((rd_T87 l0 x15_1).f1) != 2) = false := bne_eq_false_iff_eq.mpr c12
        clear c12
        replace H := Option.bind_eq_some_iff.mp H
        obtain ⟨t543, A130, H⟩ := H
        replace H : (if x5_1.length < 1759218604441 then (impl_TurnRig.l0 k1 a1 (x5_1 ++ [(⟨(rd_T87 l0 x15_1).f0, (rd_T87 l0 x15_1).f1, (rd_T87 l0 x15_1).f2, (⟨t541, t542⟩ : S66), t543, (rd_T87 l0 x15_1).f5, (rd_T87 l0 x15_1).f6⟩ : S87)]) l0 (l0.length : Int) (wrap64 (x15_1 + 1))) else (none)) = some r := H
        have A13 := am A130
        clear A130
        by_cases c14 : x5_1.length < 1759218604441
        ·rw [if_pos c14] at H
         have LMc14 := am c14
         clear c14
         obtain ⟨y544, hy544⟩ : ∃ y_ : List (S87), y_ = (x5_1 ++ [(⟨(rd_T87 l0 x15_1).f0, (rd_T87 l0 x15_1).f1, (rd_T87 l0 x15_1).f2, (⟨t541, t542⟩ : S66), t543, (rd_T87 l0 x15_1).f5, (rd_T87 l0 x15_1).f6⟩ : S87)]) := ⟨_, rfl⟩
         replace H : (impl_TurnRig.l0 k1 a1 y544 l0 (l0.length : Int) (wrap64 (x15_1 + 1))) = some r := by first | (rw [hy544]; with_reducible exact H) | (have H2_ := (Option.bind_some _ _).symm.trans H; rw [hy544]; with_reducible exact H2_) | (have H2_ := (Option.bind_some _ _).symm.trans H; with_reducible exact H2_) | with_reducible exact H | (rw [hy544]; exact H) | exact H
         have Ny544 := am hy544
         clear hy544
         have H' := am H
         clear H
         have p539 : 0 ≤ (x15_1 : Int) := od (by assumption)
         have q539 : x15_1 < (l0.length : Int) := od (by assumption)
         obtain ⟨ad539, e539, hx539_0, hx539_1, hx539_2, hx539_3, hx539_4, hx539_5, hx539_6, hx539_7⟩ := at_T87 (Kd.C_below HR0.out HB.out) x15_1 p539 q539
         cases e539
         replace p539 := eq_true p539
         replace q539 := eq_true q539
         go_wp2_with (first | ((with_reducible refine gate_dst (N := 7) rfl ?_); refine box_event ?hg (N := 7) ?hd (cs := #[.string (⟨#[]⟩ : ByteArray), .int .i64 0, .string (⟨#[]⟩ : ByteArray), .int .i64 0, .int .i64 0, .int .i64 0, .int .i64 0, .int .i64 0]) (t := 87) ?hr ?_; (case hd => rfl); (case hg => rfl); (case hr => exact gq); intro gb540 hg w15 hbox hb; have n0_ := am (Kd.R_below (Kd.R_elderB (by (with_reducible repeat (first | apply Kd.R_alloc | apply Kd.R_drewN | apply Kd.R_drew)); exact HO_5.out) gb540 (Nat.le_of_eq hg.symm)) hb); have n1_ := am (below_step u13_0 hb); have n2_ := am (hbox); have n3_ := bsw w hg (below_size u13_0); have n4_ := bsw w hg (below_size u13_0); clear HO_5 HB; have HO_5 := n0_; have HB := n1_; have BK540 := n2_; have GW540 := n3_; have GE540 := n4_; clear n0_ n1_ n2_ n3_ n4_ hb hbox hg; obtain ⟨hcz16_0, hcz16_1, hcz16_2, hcz16_3, hcz16_4, hcz16_5, hcz16_6, hcz16_7, hfz16_0, hfz16_1, hfz16_2, hfz16_3, hfz16_4, hfz16_5, hfz16_6, hfz16_7⟩ := cf8 BK540.out) | ((with_reducible refine gate_callee (f := 87) rfl ?_); refine goesL_ (some 22) rfl rfl Try.func87 (by kernel_rfl) rfl #[.agg #[.int .i64 ((rd_T87 l0 x15_1).f3.f0), .int .i64 ((rd_T87 l0 x15_1).f3.f1)], .int .i64 a1] rfl u13_6 ?_; (with_reducible refine (impl_turned.calls k1 ((rd_T87 l0 x15_1).f3.f0) ((rd_T87 l0 x15_1).f3.f1) a1 t541 t542 _ A11.out).mono ?_); rintro e w17 ⟨rfl, hb⟩; refine ⟨_, rfl, ?_⟩; have n0_ := am (Kd.R_below u13_9 hb); have n1_ := am (blk_below (g := gb540) (o := zo4 (rd_T87 l0 x15_1)) u13_2 hb); have n2_ := am (below_step u13_12 hb); clear HO_5 BK540 HB; have HO_5 := n0_; have BK540 := n1_; have HB := n2_; clear n0_ n1_ n2_; (try clear hb); (try clear hb2); (try clear hk); (try clear hi); obtain ⟨hcz18_0, hcz18_1, hcz18_2, hcz18_3, hcz18_4, hcz18_5, hcz18_6, hcz18_7, hfz18_0, hfz18_1, hfz18_2, hfz18_3, hfz18_4, hfz18_5, hfz18_6, hfz18_7⟩ := cf8 BK540.out) | ((with_reducible refine gate_callee (f := 91) rfl ?_); refine goesL_ (some 30) rfl rfl Try.func91 (by kernel_rfl) rfl #[.int .i64 ((rd_T87 l0 x15_1).f4), .int .i64 a1] rfl u13_6 ?_; (with_reducible refine (impl_TurnHeading.calls ((rd_T87 l0 x15_1).f4) a1 t543 _ A13.out).mono ?_); rintro e w' ⟨rfl, ⟨nd, rfl⟩⟩; refine ⟨_, rfl, ?_⟩) | ((with_reducible refine gate_builtin (b := .append) (xs := #[.tmp 32, .tmp 34]) rfl ?_); at_builtin; refine Kd.R_append k87 (w0 := w) w.heap.size rfl (.tmp 32) (.tmp 34) 77 87 (.agg #[(.string ⟨#[]⟩), (.int .i64 0), (.string ⟨#[]⟩), (.int .i64 0), (.int .i64 0), (.int .i64 0), (.int .i64 0), (.int .i64 0)]) 80 rfl Try.underlying77 info87 rfl (by decide) (by omega) u5 x5_1 (⟨(rd_T87 l0 x15_1).f0, (rd_T87 l0 x15_1).f1, (rd_T87 l0 x15_1).f2, (⟨t541, t542⟩ : S66), t543, (rd_T87 l0 x15_1).f5, (rd_T87 l0 x15_1).f6⟩ : S87) [.string ((rd_T87 l0 x15_1).f0), .int .i64 ((rd_T87 l0 x15_1).f1), .string ((rd_T87 l0 x15_1).f2), .int .i64 t541, .int .i64 t542, .int .i64 t543, .int .i64 ((rd_T87 l0 x15_1).f5), .int .i64 ((rd_T87 l0 x15_1).f6)] (fun k_ => k_ ≠ gb540) (fun _ => False) rfl (by first | (go_simp; done) | (go_simp; rfl)) ?aP (fun _ hk => hk.elim) ?aF ?aO ?aB ?aS ?aL ?_; (case aP => exact k87_mkM _ _ _ (⟨(rd_T87 l0 x15_1).f0, (rd_T87 l0 x15_1).f1, (rd_T87 l0 x15_1).f2, (⟨t541, t542⟩ : S66), t543, (rd_T87 l0 x15_1).f5, (rd_T87 l0 x15_1).f6⟩ : S87)); (case aB => exact u13_12); (case aF => exact (fun k_ hk => Kd.freshB (g := gb540) (o := zo0 ((rd_T87 l0 x15_1).f0) ((rd_T87 l0 x15_1).f1) ((rd_T87 l0 x15_1).f2) t541 t542 t543 ((rd_T87 l0 x15_1).f5) ((rd_T87 l0 x15_1).f6)) u13_8 k_ hk)); (case aO => exact (by (with_reducible repeat (first | apply Kd.R_alloc | apply Kd.R_drewN | apply Kd.R_drew)); exact Kd.R_mono (Kd.R_far (p := ⟨gb540, 5, none⟩) (Kd.R_far (p := ⟨gb540, 4, none⟩) (Kd.R_far (p := ⟨gb540, 3, none⟩) (Kd.R_mono HO_5.out (fun k_ hk => (⟨hk, hk.2⟩ : _ ∧ k_ ≠ gb540))) (fun _ hk => hk.2) (.int .i64 t541)) (fun _ hk => hk.2) (.int .i64 t542)) (fun _ hk => hk.2) (.int .i64 t543)) (fun _ hk => hk.1.2))); (case aS => exact (below_size u13_12)); (case aL => have := LMc14.out; omega); intro v545 w19 ho hb hg hat; rw [← Ny544.out] at ho; have n0_ := am (blk_grown (g := gb540) (o := zo0 ((rd_T87 l0 x15_1).f0) ((rd_T87 l0 x15_1).f1) ((rd_T87 l0 x15_1).f2) t541 t542 t543 ((rd_T87 l0 x15_1).f5) ((rd_T87 l0 x15_1).f6)) u13_8 hg (Kd.R_away HO_5.out (fun _ hk => hk.2))); have n1_ := am (hb); have n2_ := am (ho); clear BK540 HB HO_5; have BK540 := n0_; have HB := n1_; have HO546 := n2_; clear n0_ n1_ n2_ ho hb hg hat))
         go_roundg k1
         case measure => have := HK1.out; omega
         case rel => exact ⟨(y544), (wrap64 (x15_1 + 1)), u13_17, H', ⟨by have := HK1.out; omega⟩, ⟨by (with_reducible repeat (first | apply Kd.R_alloc | apply Kd.R_drewN | apply Kd.R_drew)); exact Kd.R_mono HO546.out (fun _ hk => trivial)⟩, ⟨s13_3⟩⟩
        ·rw [if_neg c14] at H
         exact absurd H (by simp)
       ·rw [if_neg c12] at H
        have c12b0 : (((rd_T87 l0 x15_1).f1) == 2) = false := beq_eq_false_iff_ne.mpr c12
        have c12b1 : (((rd_T87 l0 x15_1).f1) != 2) = true := bne_iff_ne.mpr c12
        by_cases c20 : x5_1.length < 1759218604441
        ·rw [if_pos c20] at H
         have LMc20 := am c20
         clear c20
         obtain ⟨y547, hy547⟩ : ∃ y_ : List (S87), y_ = (x5_1 ++ [(⟨(rd_T87 l0 x15_1).f0, (rd_T87 l0 x15_1).f1, (rd_T87 l0 x15_1).f2, (⟨t541, t542⟩ : S66), (rd_T87 l0 x15_1).f4, (rd_T87 l0 x15_1).f5, (rd_T87 l0 x15_1).f6⟩ : S87)]) := ⟨_, rfl⟩
         replace H : (impl_TurnRig.l0 k1 a1 y547 l0 (l0.length : Int) (wrap64 (x15_1 + 1))) = some r := by first | (rw [hy547]; with_reducible exact H) | (have H2_ := (Option.bind_some _ _).symm.trans H; rw [hy547]; with_reducible exact H2_) | (have H2_ := (Option.bind_some _ _).symm.trans H; with_reducible exact H2_) | with_reducible exact H | (rw [hy547]; exact H) | exact H
         have Ny547 := am hy547
         clear hy547
         have H' := am H
         clear H
         have p539 : 0 ≤ (x15_1 : Int) := od (by assumption)
         have q539 : x15_1 < (l0.length : Int) := od (by assumption)
         obtain ⟨ad539, e539, hx539_0, hx539_1, hx539_2, hx539_3, hx539_4, hx539_5, hx539_6, hx539_7⟩ := at_T87 (Kd.C_below HR0.out HB.out) x15_1 p539 q539
         cases e539
         replace p539 := eq_true p539
         replace q539 := eq_true q539
         go_wp2_with (first | ((with_reducible refine gate_dst (N := 7) rfl ?_); refine box_event ?hg (N := 7) ?hd (cs := #[.string (⟨#[]⟩ : ByteArray), .int .i64 0, .string (⟨#[]⟩ : ByteArray), .int .i64 0, .int .i64 0, .int .i64 0, .int .i64 0, .int .i64 0]) (t := 87) ?hr ?_; (case hd => rfl); (case hg => rfl); (case hr => exact gq); intro gb540 hg w21 hbox hb; have n0_ := am (Kd.R_below (Kd.R_elderB (by (with_reducible repeat (first | apply Kd.R_alloc | apply Kd.R_drewN | apply Kd.R_drew)); exact HO_5.out) gb540 (Nat.le_of_eq hg.symm)) hb); have n1_ := am (below_step u13_0 hb); have n2_ := am (hbox); have n3_ := bsw w hg (below_size u13_0); have n4_ := bsw w hg (below_size u13_0); clear HO_5 HB; have HO_5 := n0_; have HB := n1_; have BK540 := n2_; have GW540 := n3_; have GE540 := n4_; clear n0_ n1_ n2_ n3_ n4_ hb hbox hg; obtain ⟨hcz22_0, hcz22_1, hcz22_2, hcz22_3, hcz22_4, hcz22_5, hcz22_6, hcz22_7, hfz22_0, hfz22_1, hfz22_2, hfz22_3, hfz22_4, hfz22_5, hfz22_6, hfz22_7⟩ := cf8 BK540.out) | ((with_reducible refine gate_callee (f := 87) rfl ?_); refine goesL_ (some 22) rfl rfl Try.func87 (by kernel_rfl) rfl #[.agg #[.int .i64 ((rd_T87 l0 x15_1).f3.f0), .int .i64 ((rd_T87 l0 x15_1).f3.f1)], .int .i64 a1] rfl u13_6 ?_; (with_reducible refine (impl_turned.calls k1 ((rd_T87 l0 x15_1).f3.f0) ((rd_T87 l0 x15_1).f3.f1) a1 t541 t542 _ A11.out).mono ?_); rintro e w23 ⟨rfl, hb⟩; refine ⟨_, rfl, ?_⟩; have n0_ := am (Kd.R_below u13_9 hb); have n1_ := am (blk_below (g := gb540) (o := zo4 (rd_T87 l0 x15_1)) u13_2 hb); have n2_ := am (below_step u13_12 hb); clear HO_5 BK540 HB; have HO_5 := n0_; have BK540 := n1_; have HB := n2_; clear n0_ n1_ n2_; (try clear hb); (try clear hb2); (try clear hk); (try clear hi); obtain ⟨hcz24_0, hcz24_1, hcz24_2, hcz24_3, hcz24_4, hcz24_5, hcz24_6, hcz24_7, hfz24_0, hfz24_1, hfz24_2, hfz24_3, hfz24_4, hfz24_5, hfz24_6, hfz24_7⟩ := cf8 BK540.out) | ((with_reducible refine gate_builtin (b := .append) (xs := #[.tmp 32, .tmp 34]) rfl ?_); at_builtin; refine Kd.R_append k87 (w0 := w) w.heap.size rfl (.tmp 32) (.tmp 34) 77 87 (.agg #[(.string ⟨#[]⟩), (.int .i64 0), (.string ⟨#[]⟩), (.int .i64 0), (.int .i64 0), (.int .i64 0), (.int .i64 0), (.int .i64 0)]) 80 rfl Try.underlying77 info87 rfl (by decide) (by omega) u5 x5_1 (⟨(rd_T87 l0 x15_1).f0, (rd_T87 l0 x15_1).f1, (rd_T87 l0 x15_1).f2, (⟨t541, t542⟩ : S66), (rd_T87 l0 x15_1).f4, (rd_T87 l0 x15_1).f5, (rd_T87 l0 x15_1).f6⟩ : S87) [.string ((rd_T87 l0 x15_1).f0), .int .i64 ((rd_T87 l0 x15_1).f1), .string ((rd_T87 l0 x15_1).f2), .int .i64 t541, .int .i64 t542, .int .i64 ((rd_T87 l0 x15_1).f4), .int .i64 ((rd_T87 l0 x15_1).f5), .int .i64 ((rd_T87 l0 x15_1).f6)] (fun k_ => k_ ≠ gb540) (fun _ => False) rfl (by first | (go_simp; done) | (go_simp; rfl)) ?aP (fun _ hk => hk.elim) ?aF ?aO ?aB ?aS ?aL ?_; (case aP => exact k87_mkM _ _ _ (⟨(rd_T87 l0 x15_1).f0, (rd_T87 l0 x15_1).f1, (rd_T87 l0 x15_1).f2, (⟨t541, t542⟩ : S66), (rd_T87 l0 x15_1).f4, (rd_T87 l0 x15_1).f5, (rd_T87 l0 x15_1).f6⟩ : S87)); (case aB => exact u13_12); (case aF => exact (fun k_ hk => Kd.freshB (g := gb540) (o := zo0 ((rd_T87 l0 x15_1).f0) ((rd_T87 l0 x15_1).f1) ((rd_T87 l0 x15_1).f2) t541 t542 ((rd_T87 l0 x15_1).f4) ((rd_T87 l0 x15_1).f5) ((rd_T87 l0 x15_1).f6)) u13_13 k_ hk)); (case aO => exact (by (with_reducible repeat (first | apply Kd.R_alloc | apply Kd.R_drewN | apply Kd.R_drew)); exact Kd.R_mono (Kd.R_far (p := ⟨gb540, 4, none⟩) (Kd.R_far (p := ⟨gb540, 3, none⟩) (Kd.R_mono HO_5.out (fun k_ hk => (⟨hk, hk.2⟩ : _ ∧ k_ ≠ gb540))) (fun _ hk => hk.2) (.int .i64 t541)) (fun _ hk => hk.2) (.int .i64 t542)) (fun _ hk => hk.1.2))); (case aS => exact (below_size u13_12)); (case aL => have := LMc20.out; omega); intro v548 w25 ho hb hg hat; rw [← Ny547.out] at ho; have n0_ := am (blk_grown (g := gb540) (o := zo0 ((rd_T87 l0 x15_1).f0) ((rd_T87 l0 x15_1).f1) ((rd_T87 l0 x15_1).f2) t541 t542 ((rd_T87 l0 x15_1).f4) ((rd_T87 l0 x15_1).f5) ((rd_T87 l0 x15_1).f6)) u13_13 hg (Kd.R_away HO_5.out (fun _ hk => hk.2))); have n1_ := am (hb); have n2_ := am (ho); clear BK540 HB HO_5; have BK540 := n0_; have HB := n1_; have HO549 := n2_; clear n0_ n1_ n2_ ho hb hg hat))
         go_roundg k1
         case measure => have := HK1.out; omega
         case rel => exact ⟨(y547), (wrap64 (x15_1 + 1)), u13_17, H', ⟨by have := HK1.out; omega⟩, ⟨by (with_reducible repeat (first | apply Kd.R_alloc | apply Kd.R_drewN | apply Kd.R_drew)); exact Kd.R_mono HO549.out (fun _ hk => trivial)⟩, ⟨s13_3⟩⟩
        ·rw [if_neg c20] at H
         exact absurd H (by simp)
      ·rw [if_neg c10] at H
       exact absurd H (by simp)
     ·rw [if_neg c9] at H
      exact absurd H (by simp)
    ·rw [if_neg c8] at H
     have c8b0 : decide (x15_1 < (l0.length : Int)) = false := decide_eq_false c8
     clear c8
     obtain rfl := Option.some.inj H
     go_wp2
     go_ret
     exact ⟨_, by first | rfl | (simp [*] <;> rfl), by (with_reducible repeat (first | apply Kd.R_alloc | apply Kd.R_drewN | apply Kd.R_drew)); exact HO_5.out, s13_4⟩
 ·replace c4 := Bool.eq_false_iff.mpr c4
  subst c4
  have H1 : (some y535) = some r := by rw [if_neg (show ¬ (false = true) by decide)] at H; exact H
  clear H
  have H := H1
  clear H1
  obtain rfl := Option.some.inj H
  go_enter Try.func49, Try.ntmps49
  go_wp2_with (first | ((with_reducible refine gate_dst (N := 8) rfl ?_); refine Kd.R_lit k87 _ 87 ?hg (N := 8) ?hd (xs := ([] : List (S87))) (inner := []) (ok := fun _ => True) (okp := fun _ => True) ?hr ?hp (fun _ hk => hk) trivial (Below.refl _ _) (Nat.le_refl _) (by simp) ?_; (case hd => rfl); (case hg => rfl); (case hr => exact gq); (case hp => exact (Reps.none _ _)); intro v536 w26 ho27 hb hg_ hnew_; clear hg_ hnew_; (first | rw [← Ny535.out] at ho27 | (simp only [Int.reduceToNat] at ho27; rw [← Ny535.out] at ho27)); have n0_ := am (Kd.R_lower ho27 (below_size u13_0)); have n1_ := am (below_step u13_0 hb); clear HB; have HO537 := n0_; have HB := n1_; clear n0_ n1_ hb ho27) | ((with_reducible refine gate_callee (f := 50) rfl ?_); refine goesL_ (some 10) rfl rfl Try.func50 (by kernel_rfl) rfl #[.slice A0 l0.length c0] rfl u13_6 ?_; (with_reducible refine (impl_IsRig.calls k _ _ l0 false _ ?side1 ?side2 A3.out).mono ?_); (case side1 => exact y13_0); (case side2 => exact HC0.out); rintro e w28 ⟨rfl, hb⟩; refine ⟨_, rfl, ?_⟩; have n0_ := am (Kd.R_below (by (with_reducible repeat (first | apply Kd.R_alloc | apply Kd.R_drewN | apply Kd.R_drew)); exact HO537.out) hb); have n1_ := am (below_step u13_0 hb); clear HO537 HB; have HO537 := n0_; have HB := n1_; clear n0_ n1_; (try clear hb); (try clear hb2); (try clear hk); (try clear hi)))
  go_ret
  exact ⟨_, by first | rfl | (simp [*] <;> rfl), by (with_reducible repeat (first | apply Kd.R_alloc | apply Kd.R_drewN | apply Kd.R_drew)); exact HO537.out, s13_4⟩

def laws_rigs.l0 : Nat → List (S87) → List (S87) → Int → Option (Bool)
 | 0, _, _, _ => none
 | k + 1, x0, x1, x5 => if x5 < (x0.length : Int) then (if 0 ≤ x5 then (if x5 < (x1.length : Int) then (if (!((((rd_T87 x0 x5).f0).toList) == (((rd_T87 x1 x5).f0).toList)) || (!(((rd_T87 x0 x5).f1) == ((rd_T87 x1 x5).f1)) || (!((((rd_T87 x0 x5).f2).toList) == (((rd_T87 x1 x5).f2).toList)) || ((!(((rd_T87 x0 x5).f3.f0) == ((rd_T87 x1 x5).f3.f0)) || (!(((rd_T87 x0 x5).f3.f1) == ((rd_T87 x1 x5).f3.f1)))) || (!(((rd_T87 x0 x5).f4) == ((rd_T87 x1 x5).f4)) || (!(((rd_T87 x0 x5).f5) == ((rd_T87 x1 x5).f5)) || (!(((rd_T87 x0 x5).f6) == ((rd_T87 x1 x5).f6))))))))) = true then (some false) else (laws_rigs.l0 k x0 x1 (wrap64 (x5 + 1)))) else (none)) else (none)) else (some true)
def laws_rigs.f (k : Nat) (l0 : List (S87)) (l1 : List (S87)) : Option (Bool) := if (l0.length : Int) = (l1.length : Int) then (laws_rigs.l0 k l0 l1 0) else (some false)
theorem laws_rigs.mono_l : ∀ k, (∀ y0 y1 y2, LeO (laws_rigs.l0 k y0 y1 y2) (laws_rigs.l0 (k + 1) y0 y1 y2))
 | 0 => fun _ _ _ r h => by simp [laws_rigs.l0] at h
 | k + 1 => by
  have ih0 := laws_rigs.mono_l k
  ·intro y0 y1 y2
   unfold laws_rigs.l0
   repeat' first
   | (with_reducible exact ih0 _ _ _)
   | (with_reducible exact LeO.refl _)
   | (with_reducible exact LeO.none _)
   | (with_reducible refine LeO.ite ?_ ?_)
   | (with_reducible refine LeO.bind ?_ (fun _ => ?_))
theorem laws_rigs.mono : ∀ a0 a1 k, LeO (laws_rigs.f k a0 a1) (laws_rigs.f (k + 1) a0 a1) := by
 intro a0 a1 k
 have ih0 := laws_rigs.mono_l k
 unfold laws_rigs.f
 repeat' first
   | (with_reducible exact ih0 _ _ _)
   | (with_reducible exact LeO.refl _)
   | (with_reducible exact LeO.none _)
   | (with_reducible refine LeO.ite ?_ ?_)
   | (with_reducible refine LeO.bind ?_ (fun _ => ?_))
set_option maxHeartbeats 8000000 in
set_option maxRecDepth 100000 in
theorem laws_rigs.calls (k : Nat) (A0 : Option Addr) (c0 : Nat) (l0 : List (S87)) (A1 : Option Addr) (c1 : Nat) (l1 : List (S87)) (r : Bool) (w : World) (hr0 : Kd.C k87 w A0 l0.length l0) (hc0 : l0.length ≤ c0) (hr1 : Kd.C k87 w A1 l1.length l1) (hc1 : l1.length ≤ c1) (h : laws_rigs.f k l0 l1 = some r) :
  Calls Try.prog 51 #[.slice A0 l0.length c0, .slice A1 l1.length c1] w fun e w' => e = .returned (.bool r) ∧ Drawn0 w w' := by
 have hu87 := Try.underlying87
 have HR0 := am hr0
 have HC0 := am hc0
 clear hr0 hc0
 have HR1 := am hr1
 have HC1 := am hc1
 clear hr1 hc1
 have H : (if (l0.length : Int) = (l1.length : Int) then (laws_rigs.l0 k l0 l1 0) else (some false)) = some r := h
 clear h
 by_cases c3 : (l0.length : Int) = (l1.length : Int)
 ·rw [if_pos c3] at H
  have c3b0 : ((l0.length : Int) == (l1.length : Int)) = true := beq_iff_eq.mpr c3
  have c3b1 : ((l0.length : Int) != (l1.length : Int)) = false := bne_eq_false_iff_eq.mpr c3
  have c3b2 : (l0.length == l1.length) = true := by first | simpa using c3 | (simp at c3 ⊢; omega)
  clear c3
  have H' := am H
  clear H
  go_enter Try.func51, Try.ntmps51
  go_wp2
  repeat (go_quiet (fail); try go_wp2)
  go_loopg [5] k (fun kq v5 w' => ∃ (x5_1 : Int), v5 = .int .i64 x5_1 ∧ Aside0 (laws_rigs.l0 kq l0 l1 x5_1 = some r) ∧ Aside0 (kq ≤ k) ∧ Drawn0 w w')
  case atStart => exact ⟨(0), u13_17, H', ⟨Nat.le_refl _⟩, s13_5⟩
  case round =>
   clear H'
   try clear c1
   try clear p2
   try clear c3
   try clear c3b0
   try clear c3b1
   try clear c3b2
   obtain ⟨x5_1, rfl, HA, HK1, ⟨m1, rfl⟩⟩ := hrel
   cases gk with
   | zero => exact absurd HA.out (by simp [laws_rigs.l0])
   | succ k1 =>
    have H := HA.out
    clear HA
    simp only [laws_rigs.l0] at H
    by_cases c4 : x5_1 < (l0.length : Int)
    ·rw [if_pos c4] at H
     have c4b0 : decide (x5_1 < (l0.length : Int)) = true := decide_eq_true c4
     clear c4
     by_cases c5 : 0 ≤ x5_1
     ·rw [if_pos c5] at H
      have c5b0 : decide (0 ≤ x5_1) = true := decide_eq_true c5
      clear c5
      by_cases c6 : x5_1 < (l1.length : Int)
      ·rw [if_pos c6] at H
       have c6b0 : decide (x5_1 < (l1.length : Int)) = true := decide_eq_true c6
       clear c6
       by_cases c7 : (!((((rd_T87 l0 x5_1).f0).toList) == (((rd_T87 l1 x5_1).f0).toList)) || (!(((rd_T87 l0 x5_1).f1) == ((rd_T87 l1 x5_1).f1)) || (!((((rd_T87 l0 x5_1).f2).toList) == (((rd_T87 l1 x5_1).f2).toList)) || ((!(((rd_T87 l0 x5_1).f3.f0) == ((rd_T87 l1 x5_1).f3.f0)) || (!(((rd_T87 l0 x5_1).f3.f1) == ((rd_T87 l1 x5_1).f3.f1)))) || (!(((rd_T87 l0 x5_1).f4) == ((rd_T87 l1 x5_1).f4)) || (!(((rd_T87 l0 x5_1).f5) == ((rd_T87 l1 x5_1).f5)) || (!(((rd_T87 l0 x5_1).f6) == ((rd_T87 l1 x5_1).f6))))))))) = true
       ·rw [if_pos c7] at H
        have c7b0 : (!((((rd_T87 l0 x5_1).f0).toList) == (((rd_T87 l1 x5_1).f0).toList)) || (!(((rd_T87 l0 x5_1).f1) == ((rd_T87 l1 x5_1).f1)) || (!((((rd_T87 l0 x5_1).f2).toList) == (((rd_T87 l1 x5_1).f2).toList)) || ((!(((rd_T87 l0 x5_1).f3.f0) == ((rd_T87 l1 x5_1).f3.f0)) || (!(((rd_T87 l0 x5_1).f3.f1) == ((rd_T87 l1 x5_1).f3.f1)))) || (!(((rd_T87 l0 x5_1).f4) == ((rd_T87 l1 x5_1).f4)) || (!(((rd_T87 l0 x5_1).f5) == ((rd_T87 l1 x5_1).f5)) || (!(((rd_T87 l0 x5_1).f6) == ((rd_T87 l1 x5_1).f6))))))))) = true := c7
        clear c7
        obtain rfl := Option.some.inj H
        have p550 : 0 ≤ (x5_1 : Int) := od (by assumption)
        have q550 : x5_1 < (l0.length : Int) := od (by assumption)
        obtain ⟨ad550, e550, hx550_0, hx550_1, hx550_2, hx550_3, hx550_4, hx550_5, hx550_6, hx550_7⟩ := at_T87 HR0.out x5_1 p550 q550
        cases e550
        replace p550 := eq_true p550
        replace q550 := eq_true q550
        have p551 : 0 ≤ (x5_1 : Int) := od (by assumption)
        have q551 : x5_1 < (l1.length : Int) := od (by assumption)
        obtain ⟨ad551, e551, hx551_0, hx551_1, hx551_2, hx551_3, hx551_4, hx551_5, hx551_6, hx551_7⟩ := at_T87 HR1.out x5_1 p551 q551
        cases e551
        replace p551 := eq_true p551
        replace q551 := eq_true q551
        go_wp2
        repeat (go_quiet (fail); try go_wp2)
        go_ret
        exact ⟨by first | rfl | (simp; done) | (simp [*]; done), s13_5⟩
       ·rw [if_neg c7] at H
        have c7b0 : (!((((rd_T87 l0 x5_1).f0).toList) == (((rd_T87 l1 x5_1).f0).toList)) || (!(((rd_T87 l0 x5_1).f1) == ((rd_T87 l1 x5_1).f1)) || (!((((rd_T87 l0 x5_1).f2).toList) == (((rd_T87 l1 x5_1).f2).toList)) || ((!(((rd_T87 l0 x5_1).f3.f0) == ((rd_T87 l1 x5_1).f3.f0)) || (!(((rd_T87 l0 x5_1).f3.f1) == ((rd_T87 l1 x5_1).f3.f1)))) || (!(((rd_T87 l0 x5_1).f4) == ((rd_T87 l1 x5_1).f4)) || (!(((rd_T87 l0 x5_1).f5) == ((rd_T87 l1 x5_1).f5)) || (!(((rd_T87 l0 x5_1).f6) == ((rd_T87 l1 x5_1).f6))))))))) = false := by simpa using c7
        clear c7
        have H' := am H
        clear H
        have p550 : 0 ≤ (x5_1 : Int) := od (by assumption)
        have q550 : x5_1 < (l0.length : Int) := od (by assumption)
        obtain ⟨ad550, e550, hx550_0, hx550_1, hx550_2, hx550_3, hx550_4, hx550_5, hx550_6, hx550_7⟩ := at_T87 HR0.out x5_1 p550 q550
        cases e550
        replace p550 := eq_true p550
        replace q550 := eq_true q550
        have p551 : 0 ≤ (x5_1 : Int) := od (by assumption)
        have q551 : x5_1 < (l1.length : Int) := od (by assumption)
        obtain ⟨ad551, e551, hx551_0, hx551_1, hx551_2, hx551_3, hx551_4, hx551_5, hx551_6, hx551_7⟩ := at_T87 HR1.out x5_1 p551 q551
        cases e551
        replace p551 := eq_true p551
        replace q551 := eq_true q551
        go_wp2
        repeat (go_quiet (fail); try go_wp2)
        go_roundg k1
        case measure => have := HK1.out; omega
        case rel => exact ⟨(wrap64 (x5_1 + 1)), u13_17, H', ⟨by have := HK1.out; omega⟩, s13_5⟩
      ·rw [if_neg c6] at H
       exact absurd H (by simp)
     ·rw [if_neg c5] at H
      exact absurd H (by simp)
    ·rw [if_neg c4] at H
     have c4b0 : decide (x5_1 < (l0.length : Int)) = false := decide_eq_false c4
     clear c4
     obtain rfl := Option.some.inj H
     go_wp2
     repeat (go_quiet (fail); try go_wp2)
     go_ret
     exact ⟨by first | rfl | (simp; done) | (simp [*]; done), s13_5⟩
 ·rw [if_neg c3] at H
  have c3b0 : ((l0.length : Int) == (l1.length : Int)) = false := beq_eq_false_iff_ne.mpr c3
  have c3b1 : ((l0.length : Int) != (l1.length : Int)) = true := bne_iff_ne.mpr c3
  have c3b2 : (l0.length == l1.length) = false := by first | simpa using c3 | (simp at c3 ⊢; omega)
  obtain rfl := Option.some.inj H
  go_enter Try.func51, Try.ntmps51
  go_wp2
  repeat (go_quiet (fail); try go_wp2)
  go_ret
  exact ⟨by first | rfl | (simp; done) | (simp [*]; done), s13_5⟩

def impl_Device.f (l0 : List (S87)) : Option ((List (S87))) := (some (([] : List (S87)) : List (S87))).bind fun y552 => (if y552.length + l0.length < 1759218604441 then (some (y552 ++ l0)) else (none))
set_option maxHeartbeats 8000000 in
set_option maxRecDepth 100000 in
theorem impl_Device.calls (A0 : Option Addr) (c0 : Nat) (l0 : List (S87)) (r : List (S87)) (w : World) (hr0 : Kd.C k87 w A0 l0.length l0) (hc0 : l0.length ≤ c0) (h : impl_Device.f l0 = some r) :
  Calls Try.prog 95 #[.slice A0 l0.length c0] w fun e w' => ∃ v0_ : Value, e = .returned (v0_) ∧ Kd.R k87 87 w' w.heap.size (fun _ => True) v0_ r ∧ Below w.heap.size w w' := by
 have qT : ∀ (w : World) (a : Option Addr) (n c n' c' : Nat), (binOp .eql 77 (.slice a n c) (.slice none n' c')).run Try.prog w = .ok (.bool a.isNone) w := fun w a n c n' c' => Lib.run_eql_slice_nil w _ _ a n c n' c' Try.underlying77
 cases A0 with
 | none =>
  have hl : l0 = [] := by
   cases l0 with
   | nil => rfl
   | cons x t => obtain ⟨ad, e, _⟩ := at_T87 hr0 0 (by omega) (by simp only [List.length_cons]; omega); cases e
  subst hl
  have hr : r = [] := by
   have h' : some ([] : List S87) = some r := h
   exact (Option.some.inj h').symm
  subst hr
  go_enter Try.func95, Try.ntmps95
  go_wp2
  go_ret
  exact ⟨_, rfl, Kd.R_nil _ _ _ _ _, Below.refl _ _⟩
 | some ad =>
  have HR0 := am hr0
  have HC0 := am hc0
  clear hr0 hc0
  have HB := am (Below.refl w.heap.size w)
  have H : ((some (([] : List (S87)) : List (S87))).bind fun y145 => (if y145.length + l0.length < 1759218604441 then (some (y145 ++ l0)) else (none))) = some r := h
  clear h
  obtain ⟨y145, hy145⟩ : ∃ y_ : List (S87), y_ = (([] : List (S87))) := ⟨_, rfl⟩
  replace H : (if y145.length + l0.length < 1759218604441 then (some (y145 ++ l0)) else (none)) = some r := by first | (rw [hy145]; with_reducible exact H) | (have H2_ := (Option.bind_some _ _).symm.trans H; rw [hy145]; with_reducible exact H2_) | (have H2_ := (Option.bind_some _ _).symm.trans H; with_reducible exact H2_) | with_reducible exact H | (rw [hy145]; exact H) | exact H
  have Ny145 := am hy145
  clear hy145
  by_cases c2 : y145.length + l0.length < 1759218604441
  ·rw [if_pos c2] at H
   have LMc2 := am c2
   clear c2
   obtain ⟨y148, hy148⟩ : ∃ y_ : List (S87), y_ = (y145 ++ l0) := ⟨_, rfl⟩
   replace H : (some y148) = some r := by first | (rw [hy148]; with_reducible exact H) | (have H2_ := (Option.bind_some _ _).symm.trans H; rw [hy148]; with_reducible exact H2_) | (have H2_ := (Option.bind_some _ _).symm.trans H; with_reducible exact H2_) | with_reducible exact H | (rw [hy148]; exact H) | exact H
   have Ny148 := am hy148
   clear hy148
   obtain rfl := Option.some.inj H
   go_enter Try.func95, Try.ntmps95
   go_wp2_with (first | ((with_reducible refine gate_dst (N := 5) rfl ?_); refine Kd.R_lit k87 _ 87 ?hg (N := 5) ?hd (xs := ([] : List (S87))) (inner := []) (ok := fun _ => True) (okp := fun _ => True) ?hr ?hp (fun _ hk => hk) trivial (Below.refl _ _) (Nat.le_refl _) (by simp) ?_; (case hd => rfl); (case hg => rfl); (case hr => exact gq); (case hp => exact (Reps.none _ _)); intro v146 w3 ho4 hb hg_ hnew_; clear hg_ hnew_; (first | rw [← Ny145.out] at ho4 | (simp only [Int.reduceToNat] at ho4; rw [← Ny145.out] at ho4)); have n0_ := am (Kd.R_lower ho4 (below_size u13_0)); have n1_ := am (below_step u13_0 hb); clear HB; have HO147 := n0_; have HB := n1_; clear n0_ n1_ hb ho4) | ((with_reducible refine gate_builtin (b := .append) (xs := #[.tmp 5, .tmp 6]) rfl ?_); at_builtin; refine Kd.R_append_rows k87 (w0 := w) w.heap.size rfl (.tmp 5) (.tmp 6) 77 87 (.agg #[(.string ⟨#[]⟩), (.int .i64 0), (.string ⟨#[]⟩), (.int .i64 0), (.int .i64 0), (.int .i64 0), (.int .i64 0), (.int .i64 0)]) 80 rfl Try.underlying77 info87 rfl (by decide) (by omega) v146 y145 l0 _ _ _ (fun _ => True) (fun _ => False) rfl rfl ?aO ?aR (fun _ _ h => h) (fun _ h => h.elim) ?aF ?aB ?aS ?aL ?_; (case aR => repeat (first | exact (Kd.C_below HR0.out HB.out) | (with_reducible refine Kd.C_alloc ?_ _) | (with_reducible refine Kd.C_drewN ?_ _) | (with_reducible refine Kd.C_drew ?_))); (case aB => exact u13_0); (case aF => exact (fun _ _ => trivial)); (case aO => exact (by (with_reducible repeat (first | apply Kd.R_alloc | apply Kd.R_drewN | apply Kd.R_drew)); exact HO147.out)); (case aS => exact (below_size u13_0)); (case aL => have := LMc2.out; omega); intro v149 w5 ho hb hg hat; rw [← Ny148.out] at ho; have n0_ := am (hb); have n1_ := am (ho); clear HB HO147; have HB := n0_; have HO150 := n1_; clear n0_ n1_ ho hb hg hat))
   go_ret
   exact ⟨_, by first | rfl | (simp [*] <;> rfl), by (with_reducible repeat (first | apply Kd.R_alloc | apply Kd.R_drewN | apply Kd.R_drew)); exact HO150.out, s13_4⟩
  ·rw [if_neg c2] at H
   exact absurd H (by simp)

def impl_checked.f (a0_0 : Int) (a0_1 : Int) : Option (Int × Int × Bool) := (impl_IsPlace.f a0_0 a0_1).bind fun t560 => (if t560 = true then (some (a0_0, a0_1, true)) else (some (0, 0, false)))
set_option maxHeartbeats 8000000 in
set_option maxRecDepth 100000 in
theorem impl_checked.calls (a0_0 : Int) (a0_1 : Int) (r1 : Int) (r2 : Int) (r3 : Bool) (w : World) (h : impl_checked.f a0_0 a0_1 = some (r1, r2, r3)) :
  Calls Try.prog 133 #[.agg #[.int .i64 a0_0, .int .i64 a0_1]] w fun e w' => e = .returned (.tuple #[.agg #[.int .i64 r1, .int .i64 r2], .bool r3]) ∧ Below w.heap.size w w' := by
 have hu66 := Try.underlying66
 have HB := am (Below.refl w.heap.size w)
 have H : ((impl_IsPlace.f a0_0 a0_1).bind fun t560 => (if t560 = true then (some (a0_0, a0_1, true)) else (some (0, 0, false)))) = some (r1, r2, r3) := h
 clear h
 replace H := Option.bind_eq_some_iff.mp H
 obtain ⟨t560, A20, H⟩ := H
 replace H : (if t560 = true then (some (a0_0, a0_1, true)) else (some (0, 0, false))) = some (r1, r2, r3) := H
 have A2 := am A20
 clear A20
 by_cases c3 : t560 = true
 ·subst c3
  have H1 : (some (a0_0, a0_1, true)) = some (r1, r2, r3) := by rw [if_pos rfl] at H; exact H
  clear H
  have H := H1
  clear H1
  simp only [Option.some.injEq, Prod.mk.injEq] at H
  obtain ⟨rfl, rfl, rfl⟩ := H
  go_enter Try.func133, Try.ntmps133
  go_wp2_with (first | ((with_reducible refine gate_dst (N := 1) rfl ?_); refine box_event ?hg (N := 1) ?hd (cs := #[.int .i64 a0_0, .int .i64 a0_1]) (t := 66) ?hr ?_; (case hd => rfl); (case hg => rfl); (case hr => exact gq); intro gb558 hg w4 hbox hb; have n0_ := am (below_step u13_0 hb); have n1_ := am (hbox); have n2_ := bsw w hg (below_size u13_0); have n3_ := bsw w hg (below_size u13_0); clear HB; have HB := n0_; have BK558 := n1_; have GW558 := n2_; have GE558 := n3_; clear n0_ n1_ n2_ n3_ hb hbox hg) | ((with_reducible refine gate_dst (N := 2) rfl ?_); refine box_event ?hg (N := 2) ?hd (cs := #[.int .i64 0, .int .i64 0]) (t := 66) ?hr ?_; (case hd => rfl); (case hg => rfl); (case hr => exact gq); intro gb559 hg w5 hbox hb; have n0_ := am (blk_below (g := gb558) (o := zo6 a0_0 a0_1) u13_10 hb); have n1_ := am (below_step u13_11 hb); have n2_ := am (hbox); have n3_ := bsw w hg (below_size u13_11); have n4_ := bsw w hg (below_size u13_11); have n5_ := am ((by rw [hg]; exact Nat.ne_of_lt (blk_lt (g := gb558) (o := zo6 a0_0 a0_1) u13_10) : gb558 ≠ gb559)); have n6_ := am ((by rw [hg]; exact Nat.ne_of_gt (blk_lt (g := gb558) (o := zo6 a0_0 a0_1) u13_10) : gb559 ≠ gb558)); clear BK558 HB; have BK558 := n0_; have HB := n1_; have BK559 := n2_; have GW559 := n3_; have GE559 := n4_; have NB558_559 := n5_; have NB559_558 := n6_; clear n0_ n1_ n2_ n3_ n4_ n5_ n6_ hb hbox hg; have hnb6 := NB558_559.out; have hnc6 := NB559_558.out; obtain ⟨hcz7_0, hcz7_1, hfz7_0, hfz7_1⟩ := cf2 BK558.out) | ((with_reducible refine gate_callee (f := 94) rfl ?_); refine goesL_ (some 5) rfl rfl Try.func94 (by kernel_rfl) rfl #[.agg #[.int .i64 a0_0, .int .i64 a0_1]] rfl u13_6 ?_; (with_reducible refine (impl_IsPlace.calls a0_0 a0_1 true _ A2.out).mono ?_); rintro e w8 ⟨rfl, hb⟩; refine ⟨_, rfl, ?_⟩; have n0_ := am (blk_below (g := gb558) (o := zo6 a0_0 a0_1) u13_10 hb); have n1_ := am (blk_below (g := gb559) (o := zo6 0 0) (by (with_reducible repeat (first | refine blk_drewN ?_ _ | refine blk_drew ?_ | refine blk_alloc ?_ _)); exact BK559.out) hb); have n2_ := am (below_step (by repeat (first | (with_reducible first | exact HB.out | apply below_alloc | apply pw_below_drewN | apply below_drew1 | refine below_set ?_ GE558.out | refine below_set ?_ GE559.out) | exact HB.out)) hb); clear BK558 BK559 HB; have BK558 := n0_; have BK559 := n1_; have HB := n2_; clear n0_ n1_ n2_; (try clear hb); (try clear hb2); (try clear hk); (try clear hi); obtain ⟨hcz9_0, hcz9_1, hfz9_0, hfz9_1⟩ := cf2 BK558.out; obtain ⟨hcz10_0, hcz10_1, hfz10_0, hfz10_1⟩ := cf2 BK559.out))
  refine bodyPost_ret (results_ct rfl _ _ gb559 66 #[.int .i64 a0_0, .int .i64 a0_1] (0, 0) _ rfl (by (with_reducible repeat (first | refine blk_drewN ?_ _ | refine blk_drew ?_ | refine blk_alloc ?_ _)); refine blk_put (cs := zr8 a0_0 0) ?_ 1 _ rfl; refine blk_put (cs := zr8 0 0) ?_ 0 _ rfl; (with_reducible repeat (first | refine blk_drewN ?_ _ | refine blk_drew ?_ | refine blk_alloc ?_ _)); exact BK559.out) Try.underlying66 rfl (by kernel_rfl)) rfl ?_
  exact ⟨by first | rfl | (simp [*] <;> rfl), s13_2⟩
 ·replace c3 := Bool.eq_false_iff.mpr c3
  subst c3
  have H1 : (some (0, 0, false)) = some (r1, r2, r3) := by rw [if_neg (show ¬ (false = true) by decide)] at H; exact H
  clear H
  have H := H1
  clear H1
  simp only [Option.some.injEq, Prod.mk.injEq] at H
  obtain ⟨rfl, rfl, rfl⟩ := H
  go_enter Try.func133, Try.ntmps133
  go_wp2_with (first | ((with_reducible refine gate_dst (N := 1) rfl ?_); refine box_event ?hg (N := 1) ?hd (cs := #[.int .i64 a0_0, .int .i64 a0_1]) (t := 66) ?hr ?_; (case hd => rfl); (case hg => rfl); (case hr => exact gq); intro gb558 hg w11 hbox hb; have n0_ := am (below_step u13_0 hb); have n1_ := am (hbox); have n2_ := bsw w hg (below_size u13_0); have n3_ := bsw w hg (below_size u13_0); clear HB; have HB := n0_; have BK558 := n1_; have GW558 := n2_; have GE558 := n3_; clear n0_ n1_ n2_ n3_ hb hbox hg) | ((with_reducible refine gate_dst (N := 2) rfl ?_); refine box_event ?hg (N := 2) ?hd (cs := #[.int .i64 0, .int .i64 0]) (t := 66) ?hr ?_; (case hd => rfl); (case hg => rfl); (case hr => exact gq); intro gb559 hg w12 hbox hb; have n0_ := am (blk_below (g := gb558) (o := zo6 a0_0 a0_1) u13_10 hb); have n1_ := am (below_step u13_11 hb); have n2_ := am (hbox); have n3_ := bsw w hg (below_size u13_11); have n4_ := bsw w hg (below_size u13_11); have n5_ := am ((by rw [hg]; exact Nat.ne_of_lt (blk_lt (g := gb558) (o := zo6 a0_0 a0_1) u13_10) : gb558 ≠ gb559)); have n6_ := am ((by rw [hg]; exact Nat.ne_of_gt (blk_lt (g := gb558) (o := zo6 a0_0 a0_1) u13_10) : gb559 ≠ gb558)); clear BK558 HB; have BK558 := n0_; have HB := n1_; have BK559 := n2_; have GW559 := n3_; have GE559 := n4_; have NB558_559 := n5_; have NB559_558 := n6_; clear n0_ n1_ n2_ n3_ n4_ n5_ n6_ hb hbox hg; have hnb13 := NB558_559.out; have hnc13 := NB559_558.out; obtain ⟨hcz14_0, hcz14_1, hfz14_0, hfz14_1⟩ := cf2 BK558.out) | ((with_reducible refine gate_callee (f := 94) rfl ?_); refine goesL_ (some 5) rfl rfl Try.func94 (by kernel_rfl) rfl #[.agg #[.int .i64 a0_0, .int .i64 a0_1]] rfl u13_6 ?_; (with_reducible refine (impl_IsPlace.calls a0_0 a0_1 false _ A2.out).mono ?_); rintro e w15 ⟨rfl, hb⟩; refine ⟨_, rfl, ?_⟩; have n0_ := am (blk_below (g := gb558) (o := zo6 a0_0 a0_1) u13_10 hb); have n1_ := am (blk_below (g := gb559) (o := zo6 0 0) (by (with_reducible repeat (first | refine blk_drewN ?_ _ | refine blk_drew ?_ | refine blk_alloc ?_ _)); exact BK559.out) hb); have n2_ := am (below_step (by repeat (first | (with_reducible first | exact HB.out | apply below_alloc | apply pw_below_drewN | apply below_drew1 | refine below_set ?_ GE558.out | refine below_set ?_ GE559.out) | exact HB.out)) hb); clear BK558 BK559 HB; have BK558 := n0_; have BK559 := n1_; have HB := n2_; clear n0_ n1_ n2_; (try clear hb); (try clear hb2); (try clear hk); (try clear hi); obtain ⟨hcz16_0, hcz16_1, hfz16_0, hfz16_1⟩ := cf2 BK559.out))
  refine bodyPost_ret (results_ct rfl _ _ gb559 66 #[.int .i64 0, .int .i64 0] (0, 0) _ rfl (by (with_reducible repeat (first | refine blk_drewN ?_ _ | refine blk_drew ?_ | refine blk_alloc ?_ _)); refine blk_put (cs := zr8 0 0) ?_ 1 _ rfl; refine blk_put (cs := zr8 0 0) ?_ 0 _ rfl; (with_reducible repeat (first | refine blk_drewN ?_ _ | refine blk_drew ?_ | refine blk_alloc ?_ _)); exact BK559.out) Try.underlying66 rfl (by kernel_rfl)) rfl ?_
  exact ⟨by first | rfl | (simp [*] <;> rfl), s13_2⟩

def impl_AddPlaces.f (a0_0 : Int) (a0_1 : Int) (a1_0 : Int) (a1_1 : Int) : Option (Int × Int × Bool) := (impl_IsPlace.f a0_0 a0_1).bind fun t564 => (if t564 = true then ((impl_IsPlace.f a1_0 a1_1).bind fun t565 => (if t565 = true then ((impl_checked.f (wrap64 (a0_0 + a1_0)) (wrap64 (a0_1 + a1_1))).bind fun bt566 => (some (bt566.1, bt566.2.1, bt566.2.2))) else (some (0, 0, false)))) else (some (0, 0, false)))
set_option maxHeartbeats 8000000 in
set_option maxRecDepth 100000 in
theorem impl_AddPlaces.calls (a0_0 : Int) (a0_1 : Int) (a1_0 : Int) (a1_1 : Int) (r1 : Int) (r2 : Int) (r3 : Bool) (w : World) (h : impl_AddPlaces.f a0_0 a0_1 a1_0 a1_1 = some (r1, r2, r3)) :
  Calls Try.prog 96 #[.agg #[.int .i64 a0_0, .int .i64 a0_1], .agg #[.int .i64 a1_0, .int .i64 a1_1]] w fun e w' => e = .returned (.tuple #[.agg #[.int .i64 r1, .int .i64 r2], .bool r3]) ∧ Below w.heap.size w w' := by
 have hu66 := Try.underlying66
 have HB := am (Below.refl w.heap.size w)
 have H : ((impl_IsPlace.f a0_0 a0_1).bind fun t564 => (if t564 = true then ((impl_IsPlace.f a1_0 a1_1).bind fun t565 => (if t565 = true then ((impl_checked.f (wrap64 (a0_0 + a1_0)) (wrap64 (a0_1 + a1_1))).bind fun bt566 => (some (bt566.1, bt566.2.1, bt566.2.2))) else (some (0, 0, false)))) else (some (0, 0, false)))) = some (r1, r2, r3) := h
 clear h
 replace H := Option.bind_eq_some_iff.mp H
 obtain ⟨t564, A30, H⟩ := H
 replace H : (if t564 = true then ((impl_IsPlace.f a1_0 a1_1).bind fun t565 => (if t565 = true then ((impl_checked.f (wrap64 (a0_0 + a1_0)) (wrap64 (a0_1 + a1_1))).bind fun bt566 => (some (bt566.1, bt566.2.1, bt566.2.2))) else (some (0, 0, false)))) else (some (0, 0, false))) = some (r1, r2, r3) := H
 have A3 := am A30
 clear A30
 by_cases c4 : t564 = true
 ·subst c4
  have H1 : ((impl_IsPlace.f a1_0 a1_1).bind fun t565 => (if t565 = true then ((impl_checked.f (wrap64 (a0_0 + a1_0)) (wrap64 (a0_1 + a1_1))).bind fun bt566 => (some (bt566.1, bt566.2.1, bt566.2.2))) else (some (0, 0, false)))) = some (r1, r2, r3) := by rw [if_pos rfl] at H; exact H
  clear H
  have H := H1
  clear H1
  replace H := Option.bind_eq_some_iff.mp H
  obtain ⟨t565, A50, H⟩ := H
  replace H : (if t565 = true then ((impl_checked.f (wrap64 (a0_0 + a1_0)) (wrap64 (a0_1 + a1_1))).bind fun bt566 => (some (bt566.1, bt566.2.1, bt566.2.2))) else (some (0, 0, false))) = some (r1, r2, r3) := H
  have A5 := am A50
  clear A50
  by_cases c6 : t565 = true
  ·subst c6
   have H1 : ((impl_checked.f (wrap64 (a0_0 + a1_0)) (wrap64 (a0_1 + a1_1))).bind fun bt566 => (some (bt566.1, bt566.2.1, bt566.2.2))) = some (r1, r2, r3) := by rw [if_pos rfl] at H; exact H
   clear H
   have H := H1
   clear H1
   replace H := Option.bind_eq_some_iff.mp H
   obtain ⟨⟨t566, t567, t568⟩, A70, H⟩ := H
   replace H : (some (t566, t567, t568)) = some (r1, r2, r3) := H
   have A7 := am A70
   clear A70
   simp only [Option.some.injEq, Prod.mk.injEq] at H
   obtain ⟨rfl, rfl, rfl⟩ := H
   go_enter Try.func96, Try.ntmps96
   go_wp2_with (first | ((with_reducible refine gate_dst (N := 2) rfl ?_); refine box_event ?hg (N := 2) ?hd (cs := #[.int .i64 a0_0, .int .i64 a0_1]) (t := 66) ?hr ?_; (case hd => rfl); (case hg => rfl); (case hr => exact gq); intro gb561 hg w8 hbox hb; have n0_ := am (below_step u13_0 hb); have n1_ := am (hbox); have n2_ := bsw w hg (below_size u13_0); have n3_ := bsw w hg (below_size u13_0); clear HB; have HB := n0_; have BK561 := n1_; have GW561 := n2_; have GE561 := n3_; clear n0_ n1_ n2_ n3_ hb hbox hg) | ((with_reducible refine gate_dst (N := 3) rfl ?_); refine box_event ?hg (N := 3) ?hd (cs := #[.int .i64 a1_0, .int .i64 a1_1]) (t := 66) ?hr ?_; (case hd => rfl); (case hg => rfl); (case hr => exact gq); intro gb562 hg w9 hbox hb; have n0_ := am (blk_below (g := gb561) (o := zo6 a0_0 a0_1) u13_1 hb); have n1_ := am (below_step u13_5 hb); have n2_ := am (hbox); have n3_ := bsw w hg (below_size u13_5); have n4_ := bsw w hg (below_size u13_5); have n5_ := am ((by rw [hg]; exact Nat.ne_of_lt (blk_lt (g := gb561) (o := zo6 a0_0 a0_1) u13_1) : gb561 ≠ gb562)); have n6_ := am ((by rw [hg]; exact Nat.ne_of_gt (blk_lt (g := gb561) (o := zo6 a0_0 a0_1) u13_1) : gb562 ≠ gb561)); clear BK561 HB; have BK561 := n0_; have HB := n1_; have BK562 := n2_; have GW562 := n3_; have GE562 := n4_; have NB561_562 := n5_; have NB562_561 := n6_; clear n0_ n1_ n2_ n3_ n4_ n5_ n6_ hb hbox hg) | ((with_reducible refine gate_dst (N := 4) rfl ?_); refine box_event ?hg (N := 4) ?hd (cs := #[.int .i64 0, .int .i64 0]) (t := 66) ?hr ?_; (case hd => rfl); (case hg => rfl); (case hr => exact gq); intro gb563 hg w10 hbox hb; have n0_ := am (blk_below (g := gb561) (o := zo6 a0_0 a0_1) u13_1 hb); have n1_ := am (blk_below (g := gb562) (o := zo6 a1_0 a1_1) u13_3 hb); have n2_ := am (below_step u13_4 hb); have n3_ := am (hbox); have n4_ := bsw w hg (below_size u13_4); have n5_ := bsw w hg (below_size u13_4); have n6_ := am ((by rw [hg]; exact Nat.ne_of_lt (blk_lt (g := gb561) (o := zo6 a0_0 a0_1) u13_1) : gb561 ≠ gb563)); have n7_ := am ((by rw [hg]; exact Nat.ne_of_gt (blk_lt (g := gb561) (o := zo6 a0_0 a0_1) u13_1) : gb563 ≠ gb561)); have n8_ := am ((by rw [hg]; exact Nat.ne_of_lt (blk_lt (g := gb562) (o := zo6 a1_0 a1_1) u13_3) : gb562 ≠ gb563)); have n9_ := am ((by rw [hg]; exact Nat.ne_of_gt (blk_lt (g := gb562) (o := zo6 a1_0 a1_1) u13_3) : gb563 ≠ gb562)); clear BK561 BK562 HB; have BK561 := n0_; have BK562 := n1_; have HB := n2_; have BK563 := n3_; have GW563 := n4_; have GE563 := n5_; have NB561_563 := n6_; have NB563_561 := n7_; have NB562_563 := n8_; have NB563_562 := n9_; clear n0_ n1_ n2_ n3_ n4_ n5_ n6_ n7_ n8_ n9_ hb hbox hg; have hnb11 := NB561_562.out; have hnc11 := NB562_561.out; have hnb12 := NB561_563.out; have hnc12 := NB563_561.out; obtain ⟨hcz13_0, hcz13_1, hfz13_0, hfz13_1⟩ := cf2 BK561.out) | ((with_reducible refine gate_callee (f := 94) rfl ?_); refine goesL_ (some 7) rfl rfl Try.func94 (by kernel_rfl) rfl #[.agg #[.int .i64 a0_0, .int .i64 a0_1]] rfl u13_6 ?_; (with_reducible refine (impl_IsPlace.calls a0_0 a0_1 true _ A3.out).mono ?_); rintro e w14 ⟨rfl, hb⟩; refine ⟨_, rfl, ?_⟩; have n0_ := am (blk_below (g := gb561) (o := zo6 a0_0 a0_1) u13_1 hb); have n1_ := am (blk_below (g := gb562) (o := zo6 a1_0 a1_1) u13_3 hb); have n2_ := am (blk_below (g := gb563) (o := zo6 0 0) u13_14 hb); have n3_ := am (below_step u13_7 hb); clear BK561 BK562 BK563 HB; have BK561 := n0_; have BK562 := n1_; have BK563 := n2_; have HB := n3_; clear n0_ n1_ n2_ n3_; (try clear hb); (try clear hb2); (try clear hk); (try clear hi); have hnb15 := NB562_563.out; have hnc15 := NB563_562.out; obtain ⟨hcz16_0, hcz16_1, hfz16_0, hfz16_1⟩ := cf2 BK562.out) | (go_at_call 94; (with_reducible refine (impl_IsPlace.calls a1_0 a1_1 true _ A5.out).mono ?_); rintro e w17 ⟨rfl, hb⟩; have n0_ := am (blk_below (g := gb561) (o := zo6 a0_0 a0_1) u13_1 hb); have n1_ := am (blk_below (g := gb562) (o := zo6 a1_0 a1_1) u13_3 hb); have n2_ := am (blk_below (g := gb563) (o := zo6 0 0) u13_14 hb); have n3_ := am (below_step u13_7 hb); clear BK561 BK562 BK563 HB; have BK561 := n0_; have BK562 := n1_; have BK563 := n2_; have HB := n3_; clear n0_ n1_ n2_ n3_; (try clear hb); (try clear hb2); (try clear hk); (try clear hi); obtain ⟨hcz18_0, hcz18_1, hfz18_0, hfz18_1⟩ := cf2 BK561.out; obtain ⟨hcz19_0, hcz19_1, hfz19_0, hfz19_1⟩ := cf2 BK562.out) | ((with_reducible refine gate_callee (f := 133) rfl ?_); refine goesL_ (some 26) rfl rfl Try.func133 (by kernel_rfl) rfl #[.agg #[.int .i64 (wrap64 (a0_0 + a1_0)), .int .i64 (wrap64 (a0_1 + a1_1))]] rfl u13_6 ?_; (with_reducible refine (impl_checked.calls (wrap64 (a0_0 + a1_0)) (wrap64 (a0_1 + a1_1)) t566 t567 t568 _ A7.out).mono ?_); rintro e w20 ⟨rfl, hb⟩; refine ⟨_, rfl, ?_⟩; have n0_ := am (blk_below (g := gb561) (o := zo6 a0_0 a0_1) u13_1 hb); have n1_ := am (blk_below (g := gb562) (o := zo6 a1_0 a1_1) u13_3 hb); have n2_ := am (blk_below (g := gb563) (o := zo6 0 0) u13_14 hb); have n3_ := am (below_step u13_7 hb); clear BK561 BK562 BK563 HB; have BK561 := n0_; have BK562 := n1_; have BK563 := n2_; have HB := n3_; clear n0_ n1_ n2_ n3_; (try clear hb); (try clear hb2); (try clear hk); (try clear hi); obtain ⟨hcz21_0, hcz21_1, hfz21_0, hfz21_1⟩ := cf2 BK563.out))
   refine bodyPost_ret (results_ct rfl _ _ gb563 66 #[.int .i64 t566, .int .i64 t567] (0, 0) _ rfl (by (with_reducible repeat (first | refine blk_drewN ?_ _ | refine blk_drew ?_ | refine blk_alloc ?_ _)); refine blk_put (cs := zr8 t566 0) ?_ 1 _ rfl; refine blk_put (cs := zr8 0 0) ?_ 0 _ rfl; (with_reducible repeat (first | refine blk_drewN ?_ _ | refine blk_drew ?_ | refine blk_alloc ?_ _)); exact BK563.out) Try.underlying66 rfl (by kernel_rfl)) rfl ?_
   exact ⟨by first | rfl | (simp [*] <;> rfl), s13_0⟩
  ·replace c6 := Bool.eq_false_iff.mpr c6
   subst c6
   have H1 : (some (0, 0, false)) = some (r1, r2, r3) := by rw [if_neg (show ¬ (false = true) by decide)] at H; exact H
   clear H
   have H := H1
   clear H1
   simp only [Option.some.injEq, Prod.mk.injEq] at H
   obtain ⟨rfl, rfl, rfl⟩ := H
   go_enter Try.func96, Try.ntmps96
   go_wp2_with (first | ((with_reducible refine gate_dst (N := 2) rfl ?_); refine box_event ?hg (N := 2) ?hd (cs := #[.int .i64 a0_0, .int .i64 a0_1]) (t := 66) ?hr ?_; (case hd => rfl); (case hg => rfl); (case hr => exact gq); intro gb561 hg w22 hbox hb; have n0_ := am (below_step u13_0 hb); have n1_ := am (hbox); have n2_ := bsw w hg (below_size u13_0); have n3_ := bsw w hg (below_size u13_0); clear HB; have HB := n0_; have BK561 := n1_; have GW561 := n2_; have GE561 := n3_; clear n0_ n1_ n2_ n3_ hb hbox hg) | ((with_reducible refine gate_dst (N := 3) rfl ?_); refine box_event ?hg (N := 3) ?hd (cs := #[.int .i64 a1_0, .int .i64 a1_1]) (t := 66) ?hr ?_; (case hd => rfl); (case hg => rfl); (case hr => exact gq); intro gb562 hg w23 hbox hb; have n0_ := am (blk_below (g := gb561) (o := zo6 a0_0 a0_1) u13_1 hb); have n1_ := am (below_step u13_5 hb); have n2_ := am (hbox); have n3_ := bsw w hg (below_size u13_5); have n4_ := bsw w hg (below_size u13_5); have n5_ := am ((by rw [hg]; exact Nat.ne_of_lt (blk_lt (g := gb561) (o := zo6 a0_0 a0_1) u13_1) : gb561 ≠ gb562)); have n6_ := am ((by rw [hg]; exact Nat.ne_of_gt (blk_lt (g := gb561) (o := zo6 a0_0 a0_1) u13_1) : gb562 ≠ gb561)); clear BK561 HB; have BK561 := n0_; have HB := n1_; have BK562 := n2_; have GW562 := n3_; have GE562 := n4_; have NB561_562 := n5_; have NB562_561 := n6_; clear n0_ n1_ n2_ n3_ n4_ n5_ n6_ hb hbox hg) | ((with_reducible refine gate_dst (N := 4) rfl ?_); refine box_event ?hg (N := 4) ?hd (cs := #[.int .i64 0, .int .i64 0]) (t := 66) ?hr ?_; (case hd => rfl); (case hg => rfl); (case hr => exact gq); intro gb563 hg w24 hbox hb; have n0_ := am (blk_below (g := gb561) (o := zo6 a0_0 a0_1) u13_1 hb); have n1_ := am (blk_below (g := gb562) (o := zo6 a1_0 a1_1) u13_3 hb); have n2_ := am (below_step u13_4 hb); have n3_ := am (hbox); have n4_ := bsw w hg (below_size u13_4); have n5_ := bsw w hg (below_size u13_4); have n6_ := am ((by rw [hg]; exact Nat.ne_of_lt (blk_lt (g := gb561) (o := zo6 a0_0 a0_1) u13_1) : gb561 ≠ gb563)); have n7_ := am ((by rw [hg]; exact Nat.ne_of_gt (blk_lt (g := gb561) (o := zo6 a0_0 a0_1) u13_1) : gb563 ≠ gb561)); have n8_ := am ((by rw [hg]; exact Nat.ne_of_lt (blk_lt (g := gb562) (o := zo6 a1_0 a1_1) u13_3) : gb562 ≠ gb563)); have n9_ := am ((by rw [hg]; exact Nat.ne_of_gt (blk_lt (g := gb562) (o := zo6 a1_0 a1_1) u13_3) : gb563 ≠ gb562)); clear BK561 BK562 HB; have BK561 := n0_; have BK562 := n1_; have HB := n2_; have BK563 := n3_; have GW563 := n4_; have GE563 := n5_; have NB561_563 := n6_; have NB563_561 := n7_; have NB562_563 := n8_; have NB563_562 := n9_; clear n0_ n1_ n2_ n3_ n4_ n5_ n6_ n7_ n8_ n9_ hb hbox hg; have hnb25 := NB561_562.out; have hnc25 := NB562_561.out; have hnb26 := NB561_563.out; have hnc26 := NB563_561.out; obtain ⟨hcz27_0, hcz27_1, hfz27_0, hfz27_1⟩ := cf2 BK561.out) | ((with_reducible refine gate_callee (f := 94) rfl ?_); refine goesL_ (some 7) rfl rfl Try.func94 (by kernel_rfl) rfl #[.agg #[.int .i64 a0_0, .int .i64 a0_1]] rfl u13_6 ?_; (with_reducible refine (impl_IsPlace.calls a0_0 a0_1 true _ A3.out).mono ?_); rintro e w28 ⟨rfl, hb⟩; refine ⟨_, rfl, ?_⟩; have n0_ := am (blk_below (g := gb561) (o := zo6 a0_0 a0_1) u13_1 hb); have n1_ := am (blk_below (g := gb562) (o := zo6 a1_0 a1_1) u13_3 hb); have n2_ := am (blk_below (g := gb563) (o := zo6 0 0) u13_14 hb); have n3_ := am (below_step u13_7 hb); clear BK561 BK562 BK563 HB; have BK561 := n0_; have BK562 := n1_; have BK563 := n2_; have HB := n3_; clear n0_ n1_ n2_ n3_; (try clear hb); (try clear hb2); (try clear hk); (try clear hi); have hnb29 := NB562_563.out; have hnc29 := NB563_562.out; obtain ⟨hcz30_0, hcz30_1, hfz30_0, hfz30_1⟩ := cf2 BK562.out) | (go_at_call 94; (with_reducible refine (impl_IsPlace.calls a1_0 a1_1 false _ A5.out).mono ?_); rintro e w31 ⟨rfl, hb⟩; have n0_ := am (blk_below (g := gb561) (o := zo6 a0_0 a0_1) u13_1 hb); have n1_ := am (blk_below (g := gb562) (o := zo6 a1_0 a1_1) u13_3 hb); have n2_ := am (blk_below (g := gb563) (o := zo6 0 0) u13_14 hb); have n3_ := am (below_step u13_7 hb); clear BK561 BK562 BK563 HB; have BK561 := n0_; have BK562 := n1_; have BK563 := n2_; have HB := n3_; clear n0_ n1_ n2_ n3_; (try clear hb); (try clear hb2); (try clear hk); (try clear hi); obtain ⟨hcz32_0, hcz32_1, hfz32_0, hfz32_1⟩ := cf2 BK563.out))
   refine bodyPost_ret (results_ct rfl _ _ gb563 66 #[.int .i64 0, .int .i64 0] (0, 0) _ rfl u13_15 Try.underlying66 rfl (by kernel_rfl)) rfl ?_
   exact ⟨by first | rfl | (simp [*] <;> rfl), s13_0⟩
 ·replace c4 := Bool.eq_false_iff.mpr c4
  subst c4
  have H1 : (some (0, 0, false)) = some (r1, r2, r3) := by rw [if_neg (show ¬ (false = true) by decide)] at H; exact H
  clear H
  have H := H1
  clear H1
  simp only [Option.some.injEq, Prod.mk.injEq] at H
  obtain ⟨rfl, rfl, rfl⟩ := H
  go_enter Try.func96, Try.ntmps96
  go_wp2_with (first | ((with_reducible refine gate_dst (N := 2) rfl ?_); refine box_event ?hg (N := 2) ?hd (cs := #[.int .i64 a0_0, .int .i64 a0_1]) (t := 66) ?hr ?_; (case hd => rfl); (case hg => rfl); (case hr => exact gq); intro gb561 hg w33 hbox hb; have n0_ := am (below_step u13_0 hb); have n1_ := am (hbox); have n2_ := bsw w hg (below_size u13_0); have n3_ := bsw w hg (below_size u13_0); clear HB; have HB := n0_; have BK561 := n1_; have GW561 := n2_; have GE561 := n3_; clear n0_ n1_ n2_ n3_ hb hbox hg) | ((with_reducible refine gate_dst (N := 3) rfl ?_); refine box_event ?hg (N := 3) ?hd (cs := #[.int .i64 a1_0, .int .i64 a1_1]) (t := 66) ?hr ?_; (case hd => rfl); (case hg => rfl); (case hr => exact gq); intro gb562 hg w34 hbox hb; have n0_ := am (blk_below (g := gb561) (o := zo6 a0_0 a0_1) u13_1 hb); have n1_ := am (below_step u13_5 hb); have n2_ := am (hbox); have n3_ := bsw w hg (below_size u13_5); have n4_ := bsw w hg (below_size u13_5); have n5_ := am ((by rw [hg]; exact Nat.ne_of_lt (blk_lt (g := gb561) (o := zo6 a0_0 a0_1) u13_1) : gb561 ≠ gb562)); have n6_ := am ((by rw [hg]; exact Nat.ne_of_gt (blk_lt (g := gb561) (o := zo6 a0_0 a0_1) u13_1) : gb562 ≠ gb561)); clear BK561 HB; have BK561 := n0_; have HB := n1_; have BK562 := n2_; have GW562 := n3_; have GE562 := n4_; have NB561_562 := n5_; have NB562_561 := n6_; clear n0_ n1_ n2_ n3_ n4_ n5_ n6_ hb hbox hg) | ((with_reducible refine gate_dst (N := 4) rfl ?_); refine box_event ?hg (N := 4) ?hd (cs := #[.int .i64 0, .int .i64 0]) (t := 66) ?hr ?_; (case hd => rfl); (case hg => rfl); (case hr => exact gq); intro gb563 hg w35 hbox hb; have n0_ := am (blk_below (g := gb561) (o := zo6 a0_0 a0_1) u13_1 hb); have n1_ := am (blk_below (g := gb562) (o := zo6 a1_0 a1_1) u13_3 hb); have n2_ := am (below_step u13_4 hb); have n3_ := am (hbox); have n4_ := bsw w hg (below_size u13_4); have n5_ := bsw w hg (below_size u13_4); have n6_ := am ((by rw [hg]; exact Nat.ne_of_lt (blk_lt (g := gb561) (o := zo6 a0_0 a0_1) u13_1) : gb561 ≠ gb563)); have n7_ := am ((by rw [hg]; exact Nat.ne_of_gt (blk_lt (g := gb561) (o := zo6 a0_0 a0_1) u13_1) : gb563 ≠ gb561)); have n8_ := am ((by rw [hg]; exact Nat.ne_of_lt (blk_lt (g := gb562) (o := zo6 a1_0 a1_1) u13_3) : gb562 ≠ gb563)); have n9_ := am ((by rw [hg]; exact Nat.ne_of_gt (blk_lt (g := gb562) (o := zo6 a1_0 a1_1) u13_3) : gb563 ≠ gb562)); clear BK561 BK562 HB; have BK561 := n0_; have BK562 := n1_; have HB := n2_; have BK563 := n3_; have GW563 := n4_; have GE563 := n5_; have NB561_563 := n6_; have NB563_561 := n7_; have NB562_563 := n8_; have NB563_562 := n9_; clear n0_ n1_ n2_ n3_ n4_ n5_ n6_ n7_ n8_ n9_ hb hbox hg; have hnb36 := NB561_562.out; have hnc36 := NB562_561.out; have hnb37 := NB561_563.out; have hnc37 := NB563_561.out; obtain ⟨hcz38_0, hcz38_1, hfz38_0, hfz38_1⟩ := cf2 BK561.out) | ((with_reducible refine gate_callee (f := 94) rfl ?_); refine goesL_ (some 7) rfl rfl Try.func94 (by kernel_rfl) rfl #[.agg #[.int .i64 a0_0, .int .i64 a0_1]] rfl u13_6 ?_; (with_reducible refine (impl_IsPlace.calls a0_0 a0_1 false _ A3.out).mono ?_); rintro e w39 ⟨rfl, hb⟩; refine ⟨_, rfl, ?_⟩; have n0_ := am (blk_below (g := gb561) (o := zo6 a0_0 a0_1) u13_1 hb); have n1_ := am (blk_below (g := gb562) (o := zo6 a1_0 a1_1) u13_3 hb); have n2_ := am (blk_below (g := gb563) (o := zo6 0 0) u13_14 hb); have n3_ := am (below_step u13_7 hb); clear BK561 BK562 BK563 HB; have BK561 := n0_; have BK562 := n1_; have BK563 := n2_; have HB := n3_; clear n0_ n1_ n2_ n3_; (try clear hb); (try clear hb2); (try clear hk); (try clear hi); have hnb40 := NB563_562.out; have hnc40 := NB562_563.out; obtain ⟨hcz41_0, hcz41_1, hfz41_0, hfz41_1⟩ := cf2 BK563.out))
  refine bodyPost_ret (results_ct rfl _ _ gb563 66 #[.int .i64 0, .int .i64 0] (0, 0) _ rfl u13_15 Try.underlying66 rfl (by kernel_rfl)) rfl ?_
  exact ⟨by first | rfl | (simp [*] <;> rfl), s13_0⟩

end Go.Proofs.Ytkljnmojnkiafaa.MFnMovedRig
