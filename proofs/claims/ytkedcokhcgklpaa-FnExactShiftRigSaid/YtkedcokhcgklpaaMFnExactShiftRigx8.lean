-- Written by a program for this claim.
import Derived.Test.YtkedcokhcgklpaaMFnExactShiftRigx0
import Derived.Test.YtkedcokhcgklpaaMFnExactShiftRigx5
import Derived.Test.YtkedcokhcgklpaaMFnExactShiftRigx6
import Derived.Test.YtkedcokhcgklpaaMFnExactShiftRigx7
namespace Go.Proofs.Ytkedcokhcgklpaa.MFnExactShiftRig
open Go.RowKit Go.Proofs.YtkedcokhcgklpaaW.PrintWords Go.Proofs.YtkedcokhcgklpaaW.PrintLast Go.Proofs.YtkedcokhcgklpaaW.PrintMore
attribute [local go_sem] max2_int min2_int max_two min_two max_three min_three max_four min_four   -- for this text's walks alone
set_option linter.unusedVariables false
set_option linter.unusedSimpArgs false

theorem y8_0 {p : Prop} (h : p := by repeat (first | exact (Kd.C_below HR0.out HB.out) | (with_reducible refine Kd.C_alloc ?_ _) | (with_reducible refine Kd.C_drewN ?_ _) | (with_reducible refine Kd.C_drew ?_))) : p := h
theorem u8_0 {p : Prop} (h : p := by repeat (first | (with_reducible first | exact HB.out | apply below_alloc | apply pw_below_drewN | apply below_drew1 | refine below_set ?_ GE196.out | refine below_set ?_ GE201.out) | exact HB.out)) : p := h
theorem u8_1 {p : Prop} (h : p := by repeat (first | (with_reducible first | exact HB.out | apply below_alloc | apply pw_below_drewN | apply below_drew1) | exact HB.out)) : p := h
theorem u8_2 {p : Prop} (h : p := by repeat (first | (with_reducible first | exact HB.out | apply below_alloc | apply pw_below_drewN | apply below_drew1 | refine below_set ?_ GE221.out) | exact HB.out)) : p := h
theorem u8_3 {p : Prop} (h : p := by (with_reducible repeat (first | refine blk_drewN ?_ _ | refine blk_drew ?_ | refine blk_alloc ?_ _)); exact BK201.out) : p := h
theorem u8_4 {p : Prop} (h : p := by (with_reducible repeat (first | refine blk_drewN ?_ _ | refine blk_drew ?_ | refine blk_alloc ?_ _)); exact BK196.out) : p := h
theorem u8_5 {p : Prop} (h : p := by (try simp only [List.map_toArray, List.map_cons, List.map_nil]); first | done | rfl) : p := h
theorem u8_6 {p : Prop} (h : p := by (with_reducible repeat (first | apply Kd.R_alloc | apply Kd.R_drewN | apply Kd.R_drew)); exact HO_8.out) : p := h
theorem u8_7 {p : Prop} (h : p := by (with_reducible repeat (first | refine blk_drewN ?_ _ | refine blk_drew ?_ | refine blk_alloc ?_ _)); exact BK221.out) : p := h
theorem u8_8 {p : Prop} (h : p := by repeat (first | (with_reducible first | exact HB.out | apply below_alloc | apply pw_below_drewN | apply below_drew1 | refine below_set ?_ GE196.out) | exact HB.out)) : p := h
theorem u8_9 {p : Prop} (h : p := by (with_reducible repeat (first | refine blk_drewN ?_ _ | refine blk_drew ?_ | refine blk_alloc ?_ _)); exact BK187.out) : p := h
theorem u8_10 {p : Prop} (h : p := by (with_reducible repeat (first | refine blk_drewN ?_ _ | refine blk_drew ?_ | refine blk_alloc ?_ _)); refine blk_put (cs := #[.string ((rd_T30 l0 x14_1).f0), .int .i64 ((rd_T30 l0 x14_1).f1), .string ((rd_T30 l0 x14_1).f2), .int .i64 x202003_9, .int .i64 x202004_9, .int .i64 ((rd_T30 l0 x14_1).f4), .int .i64 ((rd_T30 l0 x14_1).f5), .int .i64 ((rd_T30 l0 x14_1).f6)]) ?_ 5 _ rfl; (with_reducible repeat (first | refine blk_drewN ?_ _ | refine blk_drew ?_ | refine blk_alloc ?_ _)); exact BK201.out) : p := h
theorem u8_11 {p : Prop} (h : p := by repeat (first | (with_reducible first | exact HB.out | apply below_alloc | apply pw_below_drewN | apply below_drew1 | refine below_set ?_ GE187.out | refine below_set ?_ GE188.out) | exact HB.out)) : p := h
theorem u8_12 {p : Prop} (h : p := by repeat (first | (with_reducible first | exact HB.out | apply below_alloc | apply pw_below_drewN | apply below_drew1 | refine below_set ?_ GE190.out) | exact HB.out)) : p := h
theorem u8_13 {p : Prop} (h : p := by repeat (first | (with_reducible first | exact HB.out | apply below_alloc | apply pw_below_drewN | apply below_drew1 | refine below_set ?_ GE187.out) | exact HB.out)) : p := h
theorem u8_14 {p : Prop} (h : p := by (with_reducible repeat (first | apply Kd.R_alloc | apply Kd.R_drewN | apply Kd.R_drew)); exact (Kd.R_mono (Kd.R_far (p := ⟨gb201, 5, none⟩) (Kd.R_mono HO_8.out (fun k_ hk => (⟨hk, hk⟩ : _ ∧ k_ ≠ gb201))) (fun _ hk => hk.2) (.int .i64 t206)) (fun _ h_ => h_.1))) : p := h
theorem u8_15 {p : Prop} (h : p := by (with_reducible repeat (first | refine blk_drewN ?_ _ | refine blk_drew ?_ | refine blk_alloc ?_ _)); refine blk_far ?_ NB196_201.out _; (with_reducible repeat (first | refine blk_drewN ?_ _ | refine blk_drew ?_ | refine blk_alloc ?_ _)); exact BK196.out) : p := h
theorem u8_16 {p : Prop} (h : p := by (with_reducible repeat (first | refine blk_drewN ?_ _ | refine blk_drew ?_ | refine blk_alloc ?_ _)); exact BK190.out) : p := h
theorem u8_17 {p : Prop} (h : p := by (with_reducible repeat (first | refine blk_drewN ?_ _ | refine blk_drew ?_ | refine blk_alloc ?_ _)); exact BK188.out) : p := h
def spec_l2Add.f (a0_0 : Int) (a0_1 : Int) (a1_0 : Int) (a1_1 : Int) : Option (Int × Int) := some (wrap64 (a0_0 + a1_0), wrap64 (a0_1 + a1_1))
set_option maxHeartbeats 8000000 in
set_option maxRecDepth 100000 in
theorem spec_l2Add.calls (a0_0 : Int) (a0_1 : Int) (a1_0 : Int) (a1_1 : Int) (r1 : Int) (r2 : Int) (w : World) (h : spec_l2Add.f a0_0 a0_1 a1_0 a1_1 = some (r1, r2)) :
  Calls Try.prog 89 #[.agg #[.int .i64 a0_0, .int .i64 a0_1], .agg #[.int .i64 a1_0, .int .i64 a1_1]] w fun e w' => e = .returned (.agg #[.int .i64 r1, .int .i64 r2]) ∧ Below w.heap.size w w' := by
 have hu28 := Try.underlying28
 have HB := Aside0.mk (Below.refl w.heap.size w)
 have H : (some (wrap64 (a0_0 + a1_0), wrap64 (a0_1 + a1_1))) = some (r1, r2) := h
 clear h
 simp only [Option.some.injEq, Prod.mk.injEq] at H
 obtain ⟨rfl, rfl⟩ := H
 go_enter Try.func89, Try.ntmps89
 go_wp2_with (first | ((with_reducible refine gate_dst (N := 2) rfl ?_); refine box_event ?hg (N := 2) ?hd (cs := #[.int .i64 a0_0, .int .i64 a0_1]) (t := 28) ?hr ?_; (case hd => rfl); (case hg => rfl); (case hr => first | (go_simp; done) | (go_simp; rfl)); intro gb187 hg w3 hbox hb; have n0_ := Aside0.mk (below_step u8_1 hb); have n1_ := Aside0.mk (hbox); have n2_ := Aside0.mk ((by rw [hg]; exact (below_size u8_1) : w.heap.size ≤ gb187)); have n3_ := Aside0.mk ((by rw [hg]; exact (below_size u8_1) : w.heap.size ≤ gb187)); clear HB; have HB := n0_; have BK187 := n1_; have GW187 := n2_; have GE187 := n3_; clear n0_ n1_ n2_ n3_; clear hb hbox hg) | ((with_reducible refine gate_dst (N := 3) rfl ?_); refine box_event ?hg (N := 3) ?hd (cs := #[.int .i64 a1_0, .int .i64 a1_1]) (t := 28) ?hr ?_; (case hd => rfl); (case hg => rfl); (case hr => first | (go_simp; done) | (go_simp; rfl)); intro gb188 hg w4 hbox hb; have n0_ := Aside0.mk (blk_below (g := gb187) (o := .cells #[.int .i64 a0_0, .int .i64 a0_1] 28 (0, 0)) u8_9 hb); have n1_ := Aside0.mk (below_step u8_13 hb); have n2_ := Aside0.mk (hbox); have n3_ := Aside0.mk ((by rw [hg]; exact (below_size u8_13) : w.heap.size ≤ gb188)); have n4_ := Aside0.mk ((by rw [hg]; exact (below_size u8_13) : w.heap.size ≤ gb188)); have n5_ := Aside0.mk ((by rw [hg]; exact Nat.ne_of_lt (blk_lt (g := gb187) (o := .cells #[.int .i64 a0_0, .int .i64 a0_1] 28 (0, 0)) u8_9) : gb187 ≠ gb188)); have n6_ := Aside0.mk ((by rw [hg]; exact Nat.ne_of_gt (blk_lt (g := gb187) (o := .cells #[.int .i64 a0_0, .int .i64 a0_1] 28 (0, 0)) u8_9) : gb188 ≠ gb187)); clear BK187; clear HB; have BK187 := n0_; have HB := n1_; have BK188 := n2_; have GW188 := n3_; have GE188 := n4_; have NB187_188 := n5_; have NB188_187 := n6_; clear n0_ n1_ n2_ n3_ n4_ n5_ n6_; clear hb hbox hg) | ((with_reducible refine gate_dst (N := 4) rfl ?_); refine box_event ?hg (N := 4) ?hd (cs := #[.int .i64 0, .int .i64 0]) (t := 28) ?hr ?_; (case hd => rfl); (case hg => rfl); (case hr => first | (go_simp; done) | (go_simp; rfl)); intro gb189 hg w5 hbox hb; have n0_ := Aside0.mk (blk_below (g := gb187) (o := .cells #[.int .i64 a0_0, .int .i64 a0_1] 28 (0, 0)) u8_9 hb); have n1_ := Aside0.mk (blk_below (g := gb188) (o := .cells #[.int .i64 a1_0, .int .i64 a1_1] 28 (0, 0)) u8_17 hb); have n2_ := Aside0.mk (below_step u8_11 hb); have n3_ := Aside0.mk (hbox); have n4_ := Aside0.mk ((by rw [hg]; exact (below_size u8_11) : w.heap.size ≤ gb189)); have n5_ := Aside0.mk ((by rw [hg]; exact (below_size u8_11) : w.heap.size ≤ gb189)); have n6_ := Aside0.mk ((by rw [hg]; exact Nat.ne_of_lt (blk_lt (g := gb187) (o := .cells #[.int .i64 a0_0, .int .i64 a0_1] 28 (0, 0)) u8_9) : gb187 ≠ gb189)); have n7_ := Aside0.mk ((by rw [hg]; exact Nat.ne_of_gt (blk_lt (g := gb187) (o := .cells #[.int .i64 a0_0, .int .i64 a0_1] 28 (0, 0)) u8_9) : gb189 ≠ gb187)); have n8_ := Aside0.mk ((by rw [hg]; exact Nat.ne_of_lt (blk_lt (g := gb188) (o := .cells #[.int .i64 a1_0, .int .i64 a1_1] 28 (0, 0)) u8_17) : gb188 ≠ gb189)); have n9_ := Aside0.mk ((by rw [hg]; exact Nat.ne_of_gt (blk_lt (g := gb188) (o := .cells #[.int .i64 a1_0, .int .i64 a1_1] 28 (0, 0)) u8_17) : gb189 ≠ gb188)); clear BK187; clear BK188; clear HB; have BK187 := n0_; have BK188 := n1_; have HB := n2_; have BK189 := n3_; have GW189 := n4_; have GE189 := n5_; have NB187_189 := n6_; have NB189_187 := n7_; have NB188_189 := n8_; have NB189_188 := n9_; clear n0_ n1_ n2_ n3_ n4_ n5_ n6_ n7_ n8_ n9_; clear hb hbox hg; have hnb6 := NB187_188.out; have hnc6 := NB188_187.out; have hnb7 := NB187_189.out; have hnc7 := NB189_187.out; have hcz8_0 : w5.cell? ⟨gb187, 0, none⟩ = some (.int .i64 a0_0) := (blk_cell BK187.out 0).trans rfl; have hcz8_1 : w5.cell? ⟨gb187, 1, none⟩ = some (.int .i64 a0_1) := (blk_cell BK187.out 1).trans rfl; have hfz8_0 := blk_frozen BK187.out 0; have hfz8_1 := blk_frozen BK187.out 1; have hnb9 := NB188_189.out; have hnc9 := NB189_188.out; have hcz10_0 : w5.cell? ⟨gb188, 0, none⟩ = some (.int .i64 a1_0) := (blk_cell BK188.out 0).trans rfl; have hcz10_1 : w5.cell? ⟨gb188, 1, none⟩ = some (.int .i64 a1_1) := (blk_cell BK188.out 1).trans rfl; have hfz10_0 := blk_frozen BK188.out 0; have hfz10_1 := blk_frozen BK188.out 1; have hcz11_0 : w5.cell? ⟨gb189, 0, none⟩ = some (.int .i64 0) := (blk_cell BK189.out 0).trans rfl; have hcz11_1 : w5.cell? ⟨gb189, 1, none⟩ = some (.int .i64 0) := (blk_cell BK189.out 1).trans rfl; have hfz11_0 := blk_frozen BK189.out 0; have hfz11_1 := blk_frozen BK189.out 1))
 refine bodyPost_ret (results_cell_row rfl _ _ gb189 28 #[.int .i64 (wrap64 (a0_0 + a1_0)), .int .i64 (wrap64 (a0_1 + a1_1))] (0, 0) _ rfl (by (with_reducible repeat (first | refine blk_drewN ?_ _ | refine blk_drew ?_ | refine blk_alloc ?_ _)); refine blk_put (cs := #[.int .i64 (wrap64 (a0_0 + a1_0)), .int .i64 0]) ?_ 1 _ rfl; refine blk_put (cs := #[.int .i64 0, .int .i64 0]) ?_ 0 _ rfl; (with_reducible repeat (first | refine blk_drewN ?_ _ | refine blk_drew ?_ | refine blk_alloc ?_ _)); exact BK189.out) Try.underlying28 rfl (by kernel_rfl)) rfl ?_
 exact ⟨by first | rfl | (simp [*] <;> rfl), by repeat (first | (with_reducible first | exact HB.out | apply below_alloc | apply pw_below_drewN | apply below_drew1 | refine below_set ?_ GE187.out | refine below_set ?_ GE188.out | refine below_set ?_ GE189.out) | exact HB.out)⟩

def spec_l2Mod.f (a0 : Int) : Option (Int) := if (Int.tmod a0 4) < 0 then (some (wrap64 ((Int.tmod a0 4) + 4))) else (some (Int.tmod a0 4))
set_option maxHeartbeats 8000000 in
set_option maxRecDepth 100000 in
theorem spec_l2Mod.calls (a0 : Int) (r : Int) (w : World) (h : spec_l2Mod.f a0 = some r) :
  Calls Try.prog 105 #[.int .i64 a0] w fun e w' => e = .returned (.int .i64 r) ∧ Drawn0 w w' := by
 have H : (if (Int.tmod a0 4) < 0 then (some (wrap64 ((Int.tmod a0 4) + 4))) else (some (Int.tmod a0 4))) = some r := h
 clear h
 by_cases c2 : (Int.tmod a0 4) < 0
 ·rw [if_pos c2] at H
  have c2b0 : decide ((Int.tmod a0 4) < 0) = true := decide_eq_true c2
  clear c2
  obtain rfl := Option.some.inj H
  go_enter Try.func105, Try.ntmps105
  go_wp2
  go_ret
  exact ⟨by first | rfl | (simp; done) | (simp [*]; done), by repeat (first | exact Drawn0.refl _ | apply Drawn0.step)⟩
 ·rw [if_neg c2] at H
  have c2b0 : decide ((Int.tmod a0 4) < 0) = false := decide_eq_false c2
  clear c2
  obtain rfl := Option.some.inj H
  go_enter Try.func105, Try.ntmps105
  go_wp2
  go_ret
  exact ⟨by first | rfl | (simp; done) | (simp [*]; done), by repeat (first | exact Drawn0.refl _ | apply Drawn0.step)⟩

def spec_l2Turn.l0 : Nat → Int → Int → Int → Option (Int × Int)
 | 0, _, _, _ => none
 | k + 1, x5, x191000, x191001 => if x5 > 0 then (spec_l2Turn.l0 k (wrap64 (x5 - 1)) (wrap64 (-x191001)) x191000) else (some (x191000, x191001))
def spec_l2Turn.f (k : Nat) (a0_0 : Int) (a0_1 : Int) (a1 : Int) : Option (Int × Int) := (spec_l2Mod.f a1).bind fun t192 => (spec_l2Turn.l0 k t192 a0_0 a0_1)
theorem spec_l2Turn.mono_l : ∀ k, (∀ y0 y1 y2, LeO (spec_l2Turn.l0 k y0 y1 y2) (spec_l2Turn.l0 (k + 1) y0 y1 y2))
 | 0 => fun _ _ _ r h => by simp [spec_l2Turn.l0] at h
 | k + 1 => by
  have ih0 := spec_l2Turn.mono_l k
  ·intro y0 y1 y2
   unfold spec_l2Turn.l0
   repeat' first
   | (with_reducible exact ih0 _ _ _)
   | (with_reducible exact LeO.refl _)
   | (with_reducible exact LeO.none _)
   | (with_reducible refine LeO.ite ?_ ?_)
   | (with_reducible refine LeO.bind ?_ (fun _ => ?_))
theorem spec_l2Turn.mono : ∀ a0 a1 a2 k, LeO (spec_l2Turn.f k a0 a1 a2) (spec_l2Turn.f (k + 1) a0 a1 a2) := by
 intro a0 a1 a2 k
 have ih0 := spec_l2Turn.mono_l k
 unfold spec_l2Turn.f
 repeat' first
   | (with_reducible exact ih0 _ _ _)
   | (with_reducible exact LeO.refl _)
   | (with_reducible exact LeO.none _)
   | (with_reducible refine LeO.ite ?_ ?_)
   | (with_reducible refine LeO.bind ?_ (fun _ => ?_))
set_option maxHeartbeats 8000000 in
set_option maxRecDepth 100000 in
theorem spec_l2Turn.calls (k : Nat) (a0_0 : Int) (a0_1 : Int) (a1 : Int) (r1 : Int) (r2 : Int) (w : World) (h : spec_l2Turn.f k a0_0 a0_1 a1 = some (r1, r2)) :
  Calls Try.prog 90 #[.agg #[.int .i64 a0_0, .int .i64 a0_1], .int .i64 a1] w fun e w' => e = .returned (.agg #[.int .i64 r1, .int .i64 r2]) ∧ Below w.heap.size w w' := by
 have hu28 := Try.underlying28
 have HB := Aside0.mk (Below.refl w.heap.size w)
 have H : ((spec_l2Mod.f a1).bind fun t192 => (spec_l2Turn.l0 k t192 a0_0 a0_1)) = some (r1, r2) := h
 clear h
 replace H := Option.bind_eq_some_iff.mp H
 obtain ⟨t192, A30, H⟩ := H
 replace H : (spec_l2Turn.l0 k t192 a0_0 a0_1) = some (r1, r2) := H
 have A3 := Aside0.mk A30
 clear A30
 have H' := Aside0.mk H
 clear H
 go_enter Try.func90, Try.ntmps90
 go_wp2_with (first | ((with_reducible refine gate_dst (N := 2) rfl ?_); refine box_event ?hg (N := 2) ?hd (cs := #[.int .i64 a0_0, .int .i64 a0_1]) (t := 28) ?hr ?_; (case hd => rfl); (case hg => rfl); (case hr => first | (go_simp; done) | (go_simp; rfl)); intro gb190 hg w4 hbox hb; have n0_ := Aside0.mk (below_step u8_1 hb); have n1_ := Aside0.mk (hbox); have n2_ := Aside0.mk ((by rw [hg]; exact (below_size u8_1) : w.heap.size ≤ gb190)); have n3_ := Aside0.mk ((by rw [hg]; exact (below_size u8_1) : w.heap.size ≤ gb190)); clear HB; have HB := n0_; have BK190 := n1_; have GW190 := n2_; have GE190 := n3_; clear n0_ n1_ n2_ n3_; clear hb hbox hg) | ((with_reducible refine gate_dst (N := 4) rfl ?_); refine box_event ?hg (N := 4) ?hd (cs := #[.int .i64 0, .int .i64 0]) (t := 28) ?hr ?_; (case hd => rfl); (case hg => rfl); (case hr => first | (go_simp; done) | (go_simp; rfl)); intro gb191 hg w5 hbox hb; have n0_ := Aside0.mk (blk_below (g := gb190) (o := .cells #[.int .i64 a0_0, .int .i64 a0_1] 28 (0, 0)) u8_16 hb); have n1_ := Aside0.mk (below_step u8_12 hb); have n2_ := Aside0.mk (hbox); have n3_ := Aside0.mk ((by rw [hg]; exact (below_size u8_12) : w.heap.size ≤ gb191)); have n4_ := Aside0.mk ((by rw [hg]; exact (below_size u8_12) : w.heap.size ≤ gb191)); have n5_ := Aside0.mk ((by rw [hg]; exact Nat.ne_of_lt (blk_lt (g := gb190) (o := .cells #[.int .i64 a0_0, .int .i64 a0_1] 28 (0, 0)) u8_16) : gb190 ≠ gb191)); have n6_ := Aside0.mk ((by rw [hg]; exact Nat.ne_of_gt (blk_lt (g := gb190) (o := .cells #[.int .i64 a0_0, .int .i64 a0_1] 28 (0, 0)) u8_16) : gb191 ≠ gb190)); clear BK190; clear HB; have BK190 := n0_; have HB := n1_; have BK191 := n2_; have GW191 := n3_; have GE191 := n4_; have NB190_191 := n5_; have NB191_190 := n6_; clear n0_ n1_ n2_ n3_ n4_ n5_ n6_; clear hb hbox hg) | ((with_reducible refine gate_callee (f := 105) rfl ?_); refine goesL_ (some 7) rfl rfl Try.func105 (by kernel_rfl) rfl #[.int .i64 a1] rfl u8_5 ?_; (with_reducible refine (spec_l2Mod.calls a1 t192 _ A3.out).mono ?_); rintro e w' ⟨rfl, ⟨nd, rfl⟩⟩; refine ⟨_, rfl, ?_⟩))
 go_loopg [5] k (fun kq v5 w' => ∃ (x5_1 : Int) (x191000_1 : Int) (x191001_1 : Int), v5 = .int .i64 x5_1 ∧ Aside0 (spec_l2Turn.l0 kq x5_1 x191000_1 x191001_1 = some (r1, r2)) ∧ Aside0 (kq ≤ k) ∧ Aside0 (w'.heap[gb190]? = some (.cells #[.int .i64 x191000_1, .int .i64 x191001_1] 28 (0, 0))) ∧ Aside0 (w'.heap[gb191]? = some (.cells #[.int .i64 0, .int .i64 0] 28 (0, 0))) ∧ Aside0 (Below w.heap.size w w'))
 case atStart => exact ⟨(t192), (a0_0), (a0_1), (by first | rfl | (simp; done) | (simp [*]; done)), H', ⟨Nat.le_refl _⟩, ⟨by (with_reducible repeat (first | refine blk_drewN ?_ _ | refine blk_drew ?_ | refine blk_alloc ?_ _)); exact BK190.out⟩, ⟨by (with_reducible repeat (first | refine blk_drewN ?_ _ | refine blk_drew ?_ | refine blk_alloc ?_ _)); exact BK191.out⟩, ⟨by repeat (first | (with_reducible first | exact HB.out | apply below_alloc | apply pw_below_drewN | apply below_drew1 | refine below_set ?_ GE190.out | refine below_set ?_ GE191.out) | exact HB.out)⟩⟩
 case round =>
  clear H'
  try clear c1
  try clear p2
  obtain ⟨x5_1, x191000_1, x191001_1, rfl, HA, HK1, BK190, BK191, HB⟩ := hrel
  cases gk with
  | zero => exact absurd HA.out (by simp [spec_l2Turn.l0])
  | succ k1 =>
   have H := HA.out
   clear HA
   simp only [spec_l2Turn.l0] at H
   by_cases c6 : x5_1 > 0
   ·rw [if_pos c6] at H
    have c6b0 : decide (0 < x5_1) = true := decide_eq_true c6
    clear c6
    have H' := Aside0.mk H
    clear H
    have hnb7 := NB190_191.out
    have hnc7 := NB191_190.out
    have hcz8_0 : wr.cell? ⟨gb190, 0, none⟩ = some (.int .i64 x191000_1) := (blk_cell BK190.out 0).trans rfl
    have hcz8_1 : wr.cell? ⟨gb190, 1, none⟩ = some (.int .i64 x191001_1) := (blk_cell BK190.out 1).trans rfl
    have hfz8_0 := blk_frozen BK190.out 0
    have hfz8_1 := blk_frozen BK190.out 1
    go_wp2
    go_roundg k1
    case measure => have := HK1.out; omega
    case rel => exact ⟨(wrap64 (x5_1 - 1)), (wrap64 (-x191001_1)), (x191000_1), (by first | rfl | (simp; done) | (simp [*]; done)), H', ⟨by have := HK1.out; omega⟩, ⟨by (with_reducible repeat (first | refine blk_drewN ?_ _ | refine blk_drew ?_ | refine blk_alloc ?_ _)); refine blk_put (cs := #[.int .i64 (wrap64 (-x191001_1)), .int .i64 x191001_1]) ?_ 1 _ rfl; refine blk_put (cs := #[.int .i64 x191000_1, .int .i64 x191001_1]) ?_ 0 _ rfl; (with_reducible repeat (first | refine blk_drewN ?_ _ | refine blk_drew ?_ | refine blk_alloc ?_ _)); exact BK190.out⟩, ⟨by (with_reducible repeat (first | refine blk_drewN ?_ _ | refine blk_drew ?_ | refine blk_alloc ?_ _)); refine blk_far ?_ NB191_190.out _; (with_reducible repeat (first | refine blk_drewN ?_ _ | refine blk_drew ?_ | refine blk_alloc ?_ _)); refine blk_far ?_ NB191_190.out _; (with_reducible repeat (first | refine blk_drewN ?_ _ | refine blk_drew ?_ | refine blk_alloc ?_ _)); exact BK191.out⟩, ⟨by repeat (first | (with_reducible first | exact HB.out | apply below_alloc | apply pw_below_drewN | apply below_drew1 | refine below_set ?_ GE190.out | refine below_set ?_ GE191.out) | exact HB.out)⟩⟩
   ·rw [if_neg c6] at H
    have c6b0 : decide (0 < x5_1) = false := decide_eq_false c6
    clear c6
    simp only [Option.some.injEq, Prod.mk.injEq] at H
    obtain ⟨rfl, rfl⟩ := H
    have hnb9 := NB190_191.out
    have hnc9 := NB191_190.out
    have hcz10_0 : wr.cell? ⟨gb190, 0, none⟩ = some (.int .i64 x191000_1) := (blk_cell BK190.out 0).trans rfl
    have hcz10_1 : wr.cell? ⟨gb190, 1, none⟩ = some (.int .i64 x191001_1) := (blk_cell BK190.out 1).trans rfl
    have hfz10_0 := blk_frozen BK190.out 0
    have hfz10_1 := blk_frozen BK190.out 1
    have hcz11_0 : wr.cell? ⟨gb191, 0, none⟩ = some (.int .i64 0) := (blk_cell BK191.out 0).trans rfl
    have hcz11_1 : wr.cell? ⟨gb191, 1, none⟩ = some (.int .i64 0) := (blk_cell BK191.out 1).trans rfl
    have hfz11_0 := blk_frozen BK191.out 0
    have hfz11_1 := blk_frozen BK191.out 1
    go_wp2
    refine bodyPost_ret (results_cell_row rfl _ _ gb191 28 #[.int .i64 x191000_1, .int .i64 x191001_1] (0, 0) _ rfl (by (with_reducible repeat (first | refine blk_drewN ?_ _ | refine blk_drew ?_ | refine blk_alloc ?_ _)); refine blk_put (cs := #[.int .i64 x191000_1, .int .i64 0]) ?_ 1 _ rfl; refine blk_put (cs := #[.int .i64 0, .int .i64 0]) ?_ 0 _ rfl; (with_reducible repeat (first | refine blk_drewN ?_ _ | refine blk_drew ?_ | refine blk_alloc ?_ _)); exact BK191.out) Try.underlying28 rfl (by kernel_rfl)) rfl ?_
    exact ⟨by first | rfl | (simp [*] <;> rfl), by repeat (first | (with_reducible first | exact HB.out | apply below_alloc | apply pw_below_drewN | apply below_drew1 | refine below_set ?_ GE190.out | refine below_set ?_ GE191.out) | exact HB.out)⟩

def spec_TurnHeading.f (a0 : Int) (a1 : Int) : Option (Int) := (spec_IsHeading.f a0).bind fun t193 => (if t193 = true then ((spec_l2Mod.f a1).bind fun t194 => ((spec_l2Mod.f (wrap64 (a0 + t194))).bind fun t195 => (some t195))) else (some 0))
set_option maxHeartbeats 8000000 in
set_option maxRecDepth 100000 in
theorem spec_TurnHeading.calls (a0 : Int) (a1 : Int) (r : Int) (w : World) (h : spec_TurnHeading.f a0 a1 = some r) :
  Calls Try.prog 91 #[.int .i64 a0, .int .i64 a1] w fun e w' => e = .returned (.int .i64 r) ∧ Drawn0 w w' := by
 have H : ((spec_IsHeading.f a0).bind fun t193 => (if t193 = true then ((spec_l2Mod.f a1).bind fun t194 => ((spec_l2Mod.f (wrap64 (a0 + t194))).bind fun t195 => (some t195))) else (some 0))) = some r := h
 clear h
 replace H := Option.bind_eq_some_iff.mp H
 obtain ⟨t193, A30, H⟩ := H
 replace H : (if t193 = true then ((spec_l2Mod.f a1).bind fun t194 => ((spec_l2Mod.f (wrap64 (a0 + t194))).bind fun t195 => (some t195))) else (some 0)) = some r := H
 have A3 := Aside0.mk A30
 clear A30
 by_cases c4 : t193 = true
 ·subst c4
  have H1 : ((spec_l2Mod.f a1).bind fun t194 => ((spec_l2Mod.f (wrap64 (a0 + t194))).bind fun t195 => (some t195))) = some r := by rw [if_pos rfl] at H; exact H
  clear H
  have H := H1
  clear H1
  replace H := Option.bind_eq_some_iff.mp H
  obtain ⟨t194, A50, H⟩ := H
  replace H : ((spec_l2Mod.f (wrap64 (a0 + t194))).bind fun t195 => (some t195)) = some r := H
  have A5 := Aside0.mk A50
  clear A50
  replace H := Option.bind_eq_some_iff.mp H
  obtain ⟨t195, A60, H⟩ := H
  replace H : (some t195) = some r := H
  have A6 := Aside0.mk A60
  clear A60
  obtain rfl := Option.some.inj H
  go_enter Try.func91, Try.ntmps91
  go_wp2_with (first | ((with_reducible refine gate_callee (f := 101) rfl ?_); refine goesL_ (some 6) rfl rfl Try.func101 (by kernel_rfl) rfl #[.int .i64 a0] rfl u8_5 ?_; (with_reducible refine (spec_IsHeading.calls a0 true _ A3.out).mono ?_); rintro e w' ⟨rfl, ⟨nd, rfl⟩⟩; refine ⟨_, rfl, ?_⟩) | ((with_reducible refine gate_callee (f := 105) rfl ?_); refine goesL_ (some 10) rfl rfl Try.func105 (by kernel_rfl) rfl #[.int .i64 a1] rfl u8_5 ?_; (with_reducible refine (spec_l2Mod.calls a1 t194 _ A5.out).mono ?_); rintro e w' ⟨rfl, ⟨nd, rfl⟩⟩; refine ⟨_, rfl, ?_⟩) | ((with_reducible refine gate_callee (f := 105) rfl ?_); refine goesL_ (some 12) rfl rfl Try.func105 (by kernel_rfl) rfl #[.int .i64 (wrap64 (a0 + t194))] rfl u8_5 ?_; (with_reducible refine (spec_l2Mod.calls (wrap64 (a0 + t194)) t195 _ A6.out).mono ?_); rintro e w' ⟨rfl, ⟨nd, rfl⟩⟩; refine ⟨_, rfl, ?_⟩))
  go_ret
  exact ⟨by first | rfl | (simp; done) | (simp [*]; done), by repeat (first | exact Drawn0.refl _ | apply Drawn0.step)⟩
 ·replace c4 := Bool.eq_false_iff.mpr c4
  subst c4
  have H1 : (some 0) = some r := by rw [if_neg (show ¬ (false = true) by decide)] at H; exact H
  clear H
  have H := H1
  clear H1
  obtain rfl := Option.some.inj H
  go_enter Try.func91, Try.ntmps91
  go_wp2_with (first | ((with_reducible refine gate_callee (f := 101) rfl ?_); refine goesL_ (some 6) rfl rfl Try.func101 (by kernel_rfl) rfl #[.int .i64 a0] rfl u8_5 ?_; (with_reducible refine (spec_IsHeading.calls a0 false _ A3.out).mono ?_); rintro e w' ⟨rfl, ⟨nd, rfl⟩⟩; refine ⟨_, rfl, ?_⟩))
  go_ret
  exact ⟨by first | rfl | (simp; done) | (simp [*]; done), by repeat (first | exact Drawn0.refl _ | apply Drawn0.step)⟩

mutual
def spec_l6Moved.l0 : Nat → Int → List (S30) → List (S30) → Int → Int → Int → Int → Option ((List (S30)) × Bool)
 | 0, _, _, _, _, _, _, _ => none
 | k + 1, x1, x8, x12, x13, x14, x197000, x197001 => if x14 < x13 then (if 0 ≤ x14 then (if x14 < (x12.length : Int) then (if ((rd_T30 x12 x14).f1) = 1 then (spec_l6Moved.j1 k x1 x8 x12 x13 x14 x197000 x197001 ((rd_T30 x12 x14).f0) ((rd_T30 x12 x14).f1) ((rd_T30 x12 x14).f2) ((rd_T30 x12 x14).f3.f0) ((rd_T30 x12 x14).f3.f1) ((rd_T30 x12 x14).f4) ((rd_T30 x12 x14).f5) ((rd_T30 x12 x14).f6)) else ((spec_l2Turn.f k ((rd_T30 x12 x14).f3.f0) ((rd_T30 x12 x14).f3.f1) x1).bind fun bt202 => ((spec_l2Add.f bt202.1 bt202.2 x197000 x197001).bind fun bt204 => (spec_l6Moved.j1 k x1 x8 x12 x13 x14 x197000 x197001 ((rd_T30 x12 x14).f0) ((rd_T30 x12 x14).f1) ((rd_T30 x12 x14).f2) bt204.1 bt204.2 ((rd_T30 x12 x14).f4) ((rd_T30 x12 x14).f5) ((rd_T30 x12 x14).f6))))) else (none)) else (none)) else (some (x8, true))
def spec_l6Moved.j1 : Nat → Int → List (S30) → List (S30) → Int → Int → Int → Int → ByteArray → Int → ByteArray → Int → Int → Int → Int → Int → Option ((List (S30)) × Bool)
 | 0, _, _, _, _, _, _, _, _, _, _, _, _, _, _, _ => none
 | k + 1, x1, x8, x12, x13, x14, x197000, x197001, x202000, x202001, x202002, x202003, x202004, x202005, x202006, x202007 => if x202001 = 2 then ((spec_TurnHeading.f x202005 x1).bind fun t206 => ((spec_IsDevice.f k x202000 x202001 x202002 x202003 x202004 t206 x202006 x202007).bind fun t207 => (if t207 = true then (if x8.length < 1759218604441 then (spec_l6Moved.l0 k x1 (x8 ++ [(⟨x202000, x202001, x202002, (⟨x202003, x202004⟩ : S28), t206, x202006, x202007⟩ : S30)]) x12 x13 (wrap64 (x14 + 1)) x197000 x197001) else (none)) else (some ((([] : List (S30))), false))))) else ((spec_IsDevice.f k x202000 x202001 x202002 x202003 x202004 x202005 x202006 x202007).bind fun t214 => (if t214 = true then (if x8.length < 1759218604441 then (spec_l6Moved.l0 k x1 (x8 ++ [(⟨x202000, x202001, x202002, (⟨x202003, x202004⟩ : S28), x202005, x202006, x202007⟩ : S30)]) x12 x13 (wrap64 (x14 + 1)) x197000 x197001) else (none)) else (some ((([] : List (S30))), false))))
end
def spec_l6Moved.f (k : Nat) (l0 : List (S30)) (a1 : Int) (a2_0 : Int) (a2_1 : Int) : Option ((List (S30)) × Bool) := spec_l6Moved.l0 k a1 (([] : List (S30))) l0 (l0.length : Int) 0 a2_0 a2_1
theorem spec_l6Moved.mono_l : ∀ k, (∀ y0 y1 y2 y3 y4 y5 y6, LeO (spec_l6Moved.l0 k y0 y1 y2 y3 y4 y5 y6) (spec_l6Moved.l0 (k + 1) y0 y1 y2 y3 y4 y5 y6)) ∧ (∀ y0 y1 y2 y3 y4 y5 y6 y7 y8 y9 y10 y11 y12 y13 y14, LeO (spec_l6Moved.j1 k y0 y1 y2 y3 y4 y5 y6 y7 y8 y9 y10 y11 y12 y13 y14) (spec_l6Moved.j1 (k + 1) y0 y1 y2 y3 y4 y5 y6 y7 y8 y9 y10 y11 y12 y13 y14))
 | 0 => ⟨fun _ _ _ _ _ _ _ r h => by simp [spec_l6Moved.l0] at h, fun _ _ _ _ _ _ _ _ _ _ _ _ _ _ _ r h => by simp [spec_l6Moved.j1] at h⟩
 | k + 1 => by
  obtain ⟨ih0, ih1⟩ := spec_l6Moved.mono_l k
  refine ⟨?_, ?_⟩
  ·intro y0 y1 y2 y3 y4 y5 y6
   unfold spec_l6Moved.l0
   repeat' first
   | (with_reducible exact ih0 _ _ _ _ _ _ _)
   | (with_reducible exact ih1 _ _ _ _ _ _ _ _ _ _ _ _ _ _ _)
   | (with_reducible exact spec_IsDevice.mono _ _ _ _ _ _ _ _ _)
   | (with_reducible exact spec_l2Turn.mono _ _ _ _)
   | (with_reducible exact LeO.refl _)
   | (with_reducible exact LeO.none _)
   | (with_reducible refine LeO.ite ?_ ?_)
   | (with_reducible refine LeO.bind ?_ (fun _ => ?_))
  ·intro y0 y1 y2 y3 y4 y5 y6 y7 y8 y9 y10 y11 y12 y13 y14
   unfold spec_l6Moved.j1
   repeat' first
   | (with_reducible exact ih0 _ _ _ _ _ _ _)
   | (with_reducible exact ih1 _ _ _ _ _ _ _ _ _ _ _ _ _ _ _)
   | (with_reducible exact spec_IsDevice.mono _ _ _ _ _ _ _ _ _)
   | (with_reducible exact spec_l2Turn.mono _ _ _ _)
   | (with_reducible exact LeO.refl _)
   | (with_reducible exact LeO.none _)
   | (with_reducible refine LeO.ite ?_ ?_)
   | (with_reducible refine LeO.bind ?_ (fun _ => ?_))
theorem spec_l6Moved.mono : ∀ a0 a1 a2 a3 k, LeO (spec_l6Moved.f k a0 a1 a2 a3) (spec_l6Moved.f (k + 1) a0 a1 a2 a3) := by
 intro a0 a1 a2 a3 k
 obtain ⟨ih0, ih1⟩ := spec_l6Moved.mono_l k
 unfold spec_l6Moved.f
 repeat' first
   | (with_reducible exact ih0 _ _ _ _ _ _ _)
   | (with_reducible exact ih1 _ _ _ _ _ _ _ _ _ _ _ _ _ _ _)
   | (with_reducible exact spec_IsDevice.mono _ _ _ _ _ _ _ _ _)
   | (with_reducible exact spec_l2Turn.mono _ _ _ _)
   | (with_reducible exact LeO.refl _)
   | (with_reducible exact LeO.none _)
   | (with_reducible refine LeO.ite ?_ ?_)
   | (with_reducible refine LeO.bind ?_ (fun _ => ?_))
def spec_l6Moved.T6 : Bool × List (List Nat × List Nat) := (true, [([], []), ([0], [0]), ([], []), ([1, 2], [1, 2]), ([], []), ([3, 4, 3], [3, 4]), ([0, 1, 2, 3, 4, 5], []), ([6, 5, 5, 0, 1, 2, 3, 4, 5], [5, 6])])
def spec_l6Moved.B6 : List Nat := [0, 1, 0, 7, 0, 31, 63, 127]
theorem spec_l6Moved.tab6 : rtab .any (opsOf Try.f72 6) = spec_l6Moved.T6 := by kernel_rfl
theorem spec_l6Moved.bits6 : waitsOk spec_l6Moved.T6.2 spec_l6Moved.B6 = true := by kernel_rfl
set_option maxHeartbeats 8000000 in
set_option maxRecDepth 100000 in
theorem spec_l6Moved.calls (k : Nat) (A0 : Option Addr) (c0 : Nat) (l0 : List (S30)) (a1 : Int) (a2_0 : Int) (a2_1 : Int) (r1 : List (S30)) (r2 : Bool) (w : World) (hr0 : Kd.C k30 w A0 l0.length l0) (hc0 : l0.length ≤ c0) (h : spec_l6Moved.f k l0 a1 a2_0 a2_1 = some (r1, r2)) :
  Calls Try.prog 72 #[.slice A0 l0.length c0, .int .i64 a1, .agg #[.int .i64 a2_0, .int .i64 a2_1]] w fun e w' => ∃ v0_ : Value, e = .returned (.tuple #[v0_, .bool r2]) ∧ Kd.R k30 30 w' w.heap.size (fun _ => True) v0_ r1 ∧ Below w.heap.size w w' := by
 have hu28 := Try.underlying28
 have hu30 := Try.underlying30
 have HR0 := Aside0.mk hr0
 have HC0 := Aside0.mk hc0
 clear hr0 hc0
 have HB := Aside0.mk (Below.refl w.heap.size w)
 have H : (spec_l6Moved.l0 k a1 (([] : List (S30))) l0 (l0.length : Int) 0 a2_0 a2_1) = some (r1, r2) := h
 clear h
 obtain ⟨y197, hy197⟩ : ∃ y_ : List (S30), y_ = (([] : List (S30))) := ⟨_, rfl⟩
 replace H : (spec_l6Moved.l0 k a1 y197 l0 (l0.length : Int) 0 a2_0 a2_1) = some (r1, r2) := by first | (rw [hy197]; with_reducible exact H) | (have H2_ := (Option.bind_some _ _).symm.trans H; rw [hy197]; with_reducible exact H2_) | (have H2_ := (Option.bind_some _ _).symm.trans H; with_reducible exact H2_) | with_reducible exact H | (rw [hy197]; exact H) | exact H
 have Ny197 := Aside0.mk hy197
 clear hy197
 have H' := Aside0.mk H
 clear H
 go_enter Try.func72, Try.ntmps72
 go_wp2_with (first | ((with_reducible refine gate_dst (N := 5) rfl ?_); refine box_event ?hg (N := 5) ?hd (cs := #[.int .i64 a2_0, .int .i64 a2_1]) (t := 28) ?hr ?_; (case hd => rfl); (case hg => rfl); (case hr => first | (go_simp; done) | (go_simp; rfl)); intro gb196 hg w4 hbox hb; have n0_ := Aside0.mk (below_step u8_1 hb); have n1_ := Aside0.mk (hbox); have n2_ := Aside0.mk ((by rw [hg]; exact (below_size u8_1) : w.heap.size ≤ gb196)); have n3_ := Aside0.mk ((by rw [hg]; exact (below_size u8_1) : w.heap.size ≤ gb196)); clear HB; have HB := n0_; have BK196 := n1_; have GW196 := n2_; have GE196 := n3_; clear n0_ n1_ n2_ n3_; clear hb hbox hg) | ((with_reducible refine gate_dst (N := 11) rfl ?_); refine Kd.R_lit k30 _ 30 ?hg (N := 11) ?hd (xs := ([] : List (S30))) (inner := []) (ok := fun _ => True) (okp := fun _ => True) ?hr ?hp (fun _ hk => hk) trivial (Below.refl _ _) (Nat.le_refl _) (by simp) ?_; (case hd => rfl); (case hg => rfl); (case hr => first | (go_simp; done) | (go_simp; rfl)); (case hp => exact (Reps.none _ _)); intro v198 w5 ho6 hb hg_ hnew_; clear hg_ hnew_; (first | rw [← Ny197.out] at ho6 | (simp only [Int.reduceToNat] at ho6; rw [← Ny197.out] at ho6)); have n0_ := Aside0.mk (Kd.R_lower ho6 (below_size u8_8)); have n1_ := Aside0.mk (blk_below (g := gb196) (o := .cells #[.int .i64 a2_0, .int .i64 a2_1] 28 (0, 0)) u8_4 hb); have n2_ := Aside0.mk (below_step u8_8 hb); clear BK196; clear HB; have HO199 := n0_; have BK196 := n1_; have HB := n2_; clear n0_ n1_ n2_; clear hb ho6))
 go_loopg [8, 14] k (fun kq v8 v14 w' => ∃ (x8_1 : List (S30)) (x14_1 : Int), v14 = .int .i64 x14_1 ∧ Aside0 (spec_l6Moved.l0 kq a1 x8_1 l0 (l0.length : Int) x14_1 a2_0 a2_1 = some (r1, r2)) ∧ Aside0 (kq ≤ k) ∧ Aside0 (Kd.R k30 30 w' w.heap.size (fun _ => True) v8 x8_1) ∧ Aside0 (w'.heap[gb196]? = some (.cells #[.int .i64 a2_0, .int .i64 a2_1] 28 (0, 0))) ∧ Aside0 (Below w.heap.size w w'))
 case atStart => exact ⟨(y197), (0), (by first | rfl | (simp; done) | (simp [*]; done)), H', ⟨Nat.le_refl _⟩, ⟨by (with_reducible repeat (first | apply Kd.R_alloc | apply Kd.R_drewN | apply Kd.R_drew)); exact HO199.out⟩, ⟨by (with_reducible repeat (first | refine blk_drewN ?_ _ | refine blk_drew ?_ | refine blk_alloc ?_ _)); exact BK196.out⟩, ⟨by repeat (first | (with_reducible first | exact HB.out | apply below_alloc | apply pw_below_drewN | apply below_drew1 | refine below_set ?_ GE196.out) | exact HB.out)⟩⟩
 case round =>
  clear H'
  try clear p2
  obtain ⟨x8_1, x14_1, rfl, HA, HK1, HO_8, BK196, HB⟩ := hrel
  cases gk with
  | zero => exact absurd HA.out (by simp [spec_l6Moved.l0])
  | succ k1 =>
   have H := HA.out
   clear HA
   simp only [spec_l6Moved.l0] at H
   by_cases c7 : x14_1 < (l0.length : Int)
   ·rw [if_pos c7] at H
    have c7b0 : decide (x14_1 < (l0.length : Int)) = true := decide_eq_true c7
    clear c7
    by_cases c8 : 0 ≤ x14_1
    ·rw [if_pos c8] at H
     have c8b0 : decide (0 ≤ x14_1) = true := decide_eq_true c8
     clear c8
     by_cases c9 : x14_1 < (l0.length : Int)
     ·rw [if_pos c9] at H
      have c9b0 : decide (x14_1 < (l0.length : Int)) = true := decide_eq_true c9
      clear c9
      have HC10 := Aside0.mk H
      clear H
      have p200 : 0 ≤ (x14_1 : Int) := of_decide_eq_true (by assumption)
      have q200 : x14_1 < (l0.length : Int) := of_decide_eq_true (by assumption)
      obtain ⟨ad200, e200, hx200_0, hx200_1, hx200_2, hx200_3, hx200_4, hx200_5, hx200_6, hx200_7⟩ := at_T30 HR0.out x14_1 p200 q200
      cases e200
      replace hx200_0 := bc HB.out hx200_0
      replace hx200_1 := bc HB.out hx200_1
      replace hx200_2 := bc HB.out hx200_2
      replace hx200_3 := bc HB.out hx200_3
      replace hx200_4 := bc HB.out hx200_4
      replace hx200_5 := bc HB.out hx200_5
      replace hx200_6 := bc HB.out hx200_6
      replace hx200_7 := bc HB.out hx200_7
      replace p200 := eq_true p200
      replace q200 := eq_true q200
      go_upto_if 20 with (first | ((with_reducible refine gate_dst (N := 10) rfl ?_); refine box_event ?hg (N := 10) ?hd (cs := #[.string (⟨#[]⟩ : ByteArray), .int .i64 0, .string (⟨#[]⟩ : ByteArray), .int .i64 0, .int .i64 0, .int .i64 0, .int .i64 0, .int .i64 0]) (t := 30) ?hr ?_; (case hd => rfl); (case hg => rfl); (case hr => first | (go_simp; done) | (go_simp; rfl)); intro gb201 hg w11 hbox hb; have n0_ := Aside0.mk (Kd.R_below (Kd.R_elderB u8_6 gb201 (Nat.le_of_eq hg.symm)) hb); have n1_ := Aside0.mk (blk_below (g := gb196) (o := .cells #[.int .i64 a2_0, .int .i64 a2_1] 28 (0, 0)) u8_4 hb); have n2_ := Aside0.mk (below_step u8_8 hb); have n3_ := Aside0.mk (hbox); have n4_ := Aside0.mk ((by rw [hg]; exact (below_size u8_8) : w.heap.size ≤ gb201)); have n5_ := Aside0.mk ((by rw [hg]; exact (below_size u8_8) : w.heap.size ≤ gb201)); have n6_ := Aside0.mk ((by rw [hg]; exact Nat.ne_of_lt (blk_lt (g := gb196) (o := .cells #[.int .i64 a2_0, .int .i64 a2_1] 28 (0, 0)) u8_4) : gb196 ≠ gb201)); have n7_ := Aside0.mk ((by rw [hg]; exact Nat.ne_of_gt (blk_lt (g := gb196) (o := .cells #[.int .i64 a2_0, .int .i64 a2_1] 28 (0, 0)) u8_4) : gb201 ≠ gb196)); clear HO_8; clear BK196; clear HB; have HO_8 := n0_; have BK196 := n1_; have HB := n2_; have BK201 := n3_; have GW201 := n4_; have GE201 := n5_; have NB196_201 := n6_; have NB201_196 := n7_; clear n0_ n1_ n2_ n3_ n4_ n5_ n6_ n7_; clear hb hbox hg; have hnb12 := NB201_196.out; have hnc12 := NB196_201.out; have hcz13_0 : w11.cell? ⟨gb201, 0, none⟩ = some (.string (⟨#[]⟩ : ByteArray)) := (blk_cell BK201.out 0).trans rfl; have hcz13_1 : w11.cell? ⟨gb201, 1, none⟩ = some (.int .i64 0) := (blk_cell BK201.out 1).trans rfl; have hcz13_2 : w11.cell? ⟨gb201, 2, none⟩ = some (.string (⟨#[]⟩ : ByteArray)) := (blk_cell BK201.out 2).trans rfl; have hcz13_3 : w11.cell? ⟨gb201, 3, none⟩ = some (.int .i64 0) := (blk_cell BK201.out 3).trans rfl; have hcz13_4 : w11.cell? ⟨gb201, 4, none⟩ = some (.int .i64 0) := (blk_cell BK201.out 4).trans rfl; have hcz13_5 : w11.cell? ⟨gb201, 5, none⟩ = some (.int .i64 0) := (blk_cell BK201.out 5).trans rfl; have hcz13_6 : w11.cell? ⟨gb201, 6, none⟩ = some (.int .i64 0) := (blk_cell BK201.out 6).trans rfl; have hcz13_7 : w11.cell? ⟨gb201, 7, none⟩ = some (.int .i64 0) := (blk_cell BK201.out 7).trans rfl; have hfz13_0 := blk_frozen BK201.out 0; have hfz13_1 := blk_frozen BK201.out 1; have hfz13_2 := blk_frozen BK201.out 2; have hfz13_3 := blk_frozen BK201.out 3; have hfz13_4 := blk_frozen BK201.out 4; have hfz13_5 := blk_frozen BK201.out 5; have hfz13_6 := blk_frozen BK201.out 6; have hfz13_7 := blk_frozen BK201.out 7))
      (try simp only [Act.put, List.setIfInBounds_toArray, List.set_cons_zero, List.set_cons_succ])
      go_cut [] (fun wc => ∃ (kq : Nat) (x202003_9 : Int) (x202004_9 : Int), Aside0 (spec_l6Moved.j1 kq a1 x8_1 l0 (l0.length : Int) x14_1 a2_0 a2_1 ((rd_T30 l0 x14_1).f0) ((rd_T30 l0 x14_1).f1) ((rd_T30 l0 x14_1).f2) x202003_9 x202004_9 ((rd_T30 l0 x14_1).f4) ((rd_T30 l0 x14_1).f5) ((rd_T30 l0 x14_1).f6) = some (r1, r2)) ∧ Aside0 (kq ≤ k1) ∧ Aside0 (Kd.R k30 30 wc w.heap.size (fun k_ => k_ ≠ gb201) u8 x8_1) ∧ Aside0 (wc.heap[gb196]? = some (.cells #[.int .i64 a2_0, .int .i64 a2_1] 28 (0, 0))) ∧ Aside0 (wc.heap[gb201]? = some (.cells #[.string ((rd_T30 l0 x14_1).f0), .int .i64 ((rd_T30 l0 x14_1).f1), .string ((rd_T30 l0 x14_1).f2), .int .i64 x202003_9, .int .i64 x202004_9, .int .i64 ((rd_T30 l0 x14_1).f4), .int .i64 ((rd_T30 l0 x14_1).f5), .int .i64 ((rd_T30 l0 x14_1).f6)] 30 (0, 0))) ∧ Aside0 (Below w.heap.size w wc))
      case first =>
       have H := HC10.out
       clear HC10
       by_cases c14 : ((rd_T30 l0 x14_1).f1) = 1
       ·rw [if_pos c14] at H
        have c14b0 : (((rd_T30 l0 x14_1).f1) == 1) = true := beq_iff_eq.mpr c14
        have c14b1 : (((rd_T30 l0 x14_1).f1) != 1) = false := bne_eq_false_iff_eq.mpr c14
        clear c14
        (first | rw [c14b0] | (simp only [i64_w, i32_w]; rw [c14b0]) | skip)
        have H' := Aside0.mk H
        clear H
        go_wp2
        go_meet
        case rel => exact ⟨_, ((rd_T30 l0 x14_1).f3.f0), ((rd_T30 l0 x14_1).f3.f1), H', ⟨by have := HK1.out; first | omega | exact Nat.le_refl _⟩, ⟨by (with_reducible repeat (first | apply Kd.R_alloc | apply Kd.R_drewN | apply Kd.R_drew)); exact Kd.R_mono (Kd.R_far (p := ⟨gb201, 7, none⟩) (Kd.R_far (p := ⟨gb201, 6, none⟩) (Kd.R_far (p := ⟨gb201, 5, none⟩) (Kd.R_far (p := ⟨gb201, 4, none⟩) (Kd.R_far (p := ⟨gb201, 3, none⟩) (Kd.R_far (p := ⟨gb201, 2, none⟩) (Kd.R_far (p := ⟨gb201, 1, none⟩) (Kd.R_far (p := ⟨gb201, 0, none⟩) (Kd.R_mono HO_8.out (fun k_ hk => (⟨hk, hk.2⟩ : _ ∧ k_ ≠ gb201))) (fun _ hk => hk.2) (.string ((rd_T30 l0 x14_1).f0))) (fun _ hk => hk.2) (.int .i64 ((rd_T30 l0 x14_1).f1))) (fun _ hk => hk.2) (.string ((rd_T30 l0 x14_1).f2))) (fun _ hk => hk.2) (.int .i64 ((rd_T30 l0 x14_1).f3.f0))) (fun _ hk => hk.2) (.int .i64 ((rd_T30 l0 x14_1).f3.f1))) (fun _ hk => hk.2) (.int .i64 ((rd_T30 l0 x14_1).f4))) (fun _ hk => hk.2) (.int .i64 ((rd_T30 l0 x14_1).f5))) (fun _ hk => hk.2) (.int .i64 ((rd_T30 l0 x14_1).f6))) (fun _ hk => hk.1.2)⟩, ⟨by (with_reducible repeat (first | refine blk_drewN ?_ _ | refine blk_drew ?_ | refine blk_alloc ?_ _)); refine blk_far ?_ NB196_201.out _; (with_reducible repeat (first | refine blk_drewN ?_ _ | refine blk_drew ?_ | refine blk_alloc ?_ _)); refine blk_far ?_ NB196_201.out _; (with_reducible repeat (first | refine blk_drewN ?_ _ | refine blk_drew ?_ | refine blk_alloc ?_ _)); refine blk_far ?_ NB196_201.out _; (with_reducible repeat (first | refine blk_drewN ?_ _ | refine blk_drew ?_ | refine blk_alloc ?_ _)); refine blk_far ?_ NB196_201.out _; (with_reducible repeat (first | refine blk_drewN ?_ _ | refine blk_drew ?_ | refine blk_alloc ?_ _)); refine blk_far ?_ NB196_201.out _; (with_reducible repeat (first | refine blk_drewN ?_ _ | refine blk_drew ?_ | refine blk_alloc ?_ _)); refine blk_far ?_ NB196_201.out _; (with_reducible repeat (first | refine blk_drewN ?_ _ | refine blk_drew ?_ | refine blk_alloc ?_ _)); refine blk_far ?_ NB196_201.out _; (with_reducible repeat (first | refine blk_drewN ?_ _ | refine blk_drew ?_ | refine blk_alloc ?_ _)); refine blk_far ?_ NB196_201.out _; (with_reducible repeat (first | refine blk_drewN ?_ _ | refine blk_drew ?_ | refine blk_alloc ?_ _)); exact BK196.out⟩, ⟨by (with_reducible repeat (first | refine blk_drewN ?_ _ | refine blk_drew ?_ | refine blk_alloc ?_ _)); refine blk_put (cs := #[.string ((rd_T30 l0 x14_1).f0), .int .i64 ((rd_T30 l0 x14_1).f1), .string ((rd_T30 l0 x14_1).f2), .int .i64 ((rd_T30 l0 x14_1).f3.f0), .int .i64 ((rd_T30 l0 x14_1).f3.f1), .int .i64 ((rd_T30 l0 x14_1).f4), .int .i64 ((rd_T30 l0 x14_1).f5), .int .i64 0]) ?_ 7 _ rfl; refine blk_put (cs := #[.string ((rd_T30 l0 x14_1).f0), .int .i64 ((rd_T30 l0 x14_1).f1), .string ((rd_T30 l0 x14_1).f2), .int .i64 ((rd_T30 l0 x14_1).f3.f0), .int .i64 ((rd_T30 l0 x14_1).f3.f1), .int .i64 ((rd_T30 l0 x14_1).f4), .int .i64 0, .int .i64 0]) ?_ 6 _ rfl; refine blk_put (cs := #[.string ((rd_T30 l0 x14_1).f0), .int .i64 ((rd_T30 l0 x14_1).f1), .string ((rd_T30 l0 x14_1).f2), .int .i64 ((rd_T30 l0 x14_1).f3.f0), .int .i64 ((rd_T30 l0 x14_1).f3.f1), .int .i64 0, .int .i64 0, .int .i64 0]) ?_ 5 _ rfl; refine blk_put (cs := #[.string ((rd_T30 l0 x14_1).f0), .int .i64 ((rd_T30 l0 x14_1).f1), .string ((rd_T30 l0 x14_1).f2), .int .i64 ((rd_T30 l0 x14_1).f3.f0), .int .i64 0, .int .i64 0, .int .i64 0, .int .i64 0]) ?_ 4 _ rfl; refine blk_put (cs := #[.string ((rd_T30 l0 x14_1).f0), .int .i64 ((rd_T30 l0 x14_1).f1), .string ((rd_T30 l0 x14_1).f2), .int .i64 0, .int .i64 0, .int .i64 0, .int .i64 0, .int .i64 0]) ?_ 3 _ rfl; refine blk_put (cs := #[.string ((rd_T30 l0 x14_1).f0), .int .i64 ((rd_T30 l0 x14_1).f1), .string (⟨#[]⟩ : ByteArray), .int .i64 0, .int .i64 0, .int .i64 0, .int .i64 0, .int .i64 0]) ?_ 2 _ rfl; (with_reducible repeat (first | refine blk_drewN ?_ _ | refine blk_drew ?_ | refine blk_alloc ?_ _)); refine blk_put (cs := #[.string ((rd_T30 l0 x14_1).f0), .int .i64 0, .string (⟨#[]⟩ : ByteArray), .int .i64 0, .int .i64 0, .int .i64 0, .int .i64 0, .int .i64 0]) ?_ 1 _ rfl; (with_reducible repeat (first | refine blk_drewN ?_ _ | refine blk_drew ?_ | refine blk_alloc ?_ _)); refine blk_put (cs := #[.string (⟨#[]⟩ : ByteArray), .int .i64 0, .string (⟨#[]⟩ : ByteArray), .int .i64 0, .int .i64 0, .int .i64 0, .int .i64 0, .int .i64 0]) ?_ 0 _ rfl; (with_reducible repeat (first | refine blk_drewN ?_ _ | refine blk_drew ?_ | refine blk_alloc ?_ _)); exact BK201.out⟩, ⟨by repeat (first | (with_reducible first | exact HB.out | apply below_alloc | apply pw_below_drewN | apply below_drew1 | refine below_set ?_ GE196.out | refine below_set ?_ GE201.out) | exact HB.out)⟩⟩
       ·rw [if_neg c14] at H
        have c14b0 : (((rd_T30 l0 x14_1).f1) == 1) = false := beq_eq_false_iff_ne.mpr c14
        have c14b1 : (((rd_T30 l0 x14_1).f1) != 1) = true := bne_iff_ne.mpr c14
        (first | rw [c14b0] | (simp only [i64_w, i32_w]; rw [c14b0]) | skip)
        replace H := Option.bind_eq_some_iff.mp H
        obtain ⟨⟨t202, t203⟩, A150, H⟩ := H
        replace H : ((spec_l2Add.f t202 t203 a2_0 a2_1).bind fun bt204 => (spec_l6Moved.j1 k1 a1 x8_1 l0 (l0.length : Int) x14_1 a2_0 a2_1 ((rd_T30 l0 x14_1).f0) ((rd_T30 l0 x14_1).f1) ((rd_T30 l0 x14_1).f2) bt204.1 bt204.2 ((rd_T30 l0 x14_1).f4) ((rd_T30 l0 x14_1).f5) ((rd_T30 l0 x14_1).f6))) = some (r1, r2) := H
        have A15 := Aside0.mk A150
        clear A150
        replace H := Option.bind_eq_some_iff.mp H
        obtain ⟨⟨t204, t205⟩, A160, H⟩ := H
        replace H : (spec_l6Moved.j1 k1 a1 x8_1 l0 (l0.length : Int) x14_1 a2_0 a2_1 ((rd_T30 l0 x14_1).f0) ((rd_T30 l0 x14_1).f1) ((rd_T30 l0 x14_1).f2) t204 t205 ((rd_T30 l0 x14_1).f4) ((rd_T30 l0 x14_1).f5) ((rd_T30 l0 x14_1).f6)) = some (r1, r2) := H
        have A16 := Aside0.mk A160
        clear A160
        have H' := Aside0.mk H
        clear H
        try go_wp2
        have n0_ : Aside0 (Kd.R k30 30 ((((((((w11.setCell ⟨gb201, 0, none⟩ (.string ((rd_T30 l0 x14_1).f0))).setCell ⟨gb201, 1, none⟩ (.int .i64 ((rd_T30 l0 x14_1).f1))).setCell ⟨gb201, 2, none⟩ (.string ((rd_T30 l0 x14_1).f2))).setCell ⟨gb201, 3, none⟩ (.int .i64 ((rd_T30 l0 x14_1).f3.f0))).setCell ⟨gb201, 4, none⟩ (.int .i64 ((rd_T30 l0 x14_1).f3.f1))).setCell ⟨gb201, 5, none⟩ (.int .i64 ((rd_T30 l0 x14_1).f4))).setCell ⟨gb201, 6, none⟩ (.int .i64 ((rd_T30 l0 x14_1).f5))).setCell ⟨gb201, 7, none⟩ (.int .i64 ((rd_T30 l0 x14_1).f6))) w.heap.size (fun k_ => k_ ≠ gb201) u8 x8_1) := ⟨by (with_reducible repeat (first | apply Kd.R_alloc | apply Kd.R_drewN | apply Kd.R_drew)); exact Kd.R_mono (Kd.R_far (p := ⟨gb201, 7, none⟩) (Kd.R_far (p := ⟨gb201, 6, none⟩) (Kd.R_far (p := ⟨gb201, 5, none⟩) (Kd.R_far (p := ⟨gb201, 4, none⟩) (Kd.R_far (p := ⟨gb201, 3, none⟩) (Kd.R_far (p := ⟨gb201, 2, none⟩) (Kd.R_far (p := ⟨gb201, 1, none⟩) (Kd.R_far (p := ⟨gb201, 0, none⟩) (Kd.R_mono HO_8.out (fun k_ hk => (⟨hk, hk.2⟩ : _ ∧ k_ ≠ gb201))) (fun _ hk => hk.2) (.string ((rd_T30 l0 x14_1).f0))) (fun _ hk => hk.2) (.int .i64 ((rd_T30 l0 x14_1).f1))) (fun _ hk => hk.2) (.string ((rd_T30 l0 x14_1).f2))) (fun _ hk => hk.2) (.int .i64 ((rd_T30 l0 x14_1).f3.f0))) (fun _ hk => hk.2) (.int .i64 ((rd_T30 l0 x14_1).f3.f1))) (fun _ hk => hk.2) (.int .i64 ((rd_T30 l0 x14_1).f4))) (fun _ hk => hk.2) (.int .i64 ((rd_T30 l0 x14_1).f5))) (fun _ hk => hk.2) (.int .i64 ((rd_T30 l0 x14_1).f6))) (fun _ hk => hk.1.2)⟩
        have n1_ : Aside0 (((((((((w11.setCell ⟨gb201, 0, none⟩ (.string ((rd_T30 l0 x14_1).f0))).setCell ⟨gb201, 1, none⟩ (.int .i64 ((rd_T30 l0 x14_1).f1))).setCell ⟨gb201, 2, none⟩ (.string ((rd_T30 l0 x14_1).f2))).setCell ⟨gb201, 3, none⟩ (.int .i64 ((rd_T30 l0 x14_1).f3.f0))).setCell ⟨gb201, 4, none⟩ (.int .i64 ((rd_T30 l0 x14_1).f3.f1))).setCell ⟨gb201, 5, none⟩ (.int .i64 ((rd_T30 l0 x14_1).f4))).setCell ⟨gb201, 6, none⟩ (.int .i64 ((rd_T30 l0 x14_1).f5))).setCell ⟨gb201, 7, none⟩ (.int .i64 ((rd_T30 l0 x14_1).f6))).heap[gb196]? = some (.cells #[.int .i64 a2_0, .int .i64 a2_1] 28 (0, 0))) := ⟨by (with_reducible repeat (first | refine blk_drewN ?_ _ | refine blk_drew ?_ | refine blk_alloc ?_ _)); refine blk_far ?_ NB196_201.out _; (with_reducible repeat (first | refine blk_drewN ?_ _ | refine blk_drew ?_ | refine blk_alloc ?_ _)); refine blk_far ?_ NB196_201.out _; (with_reducible repeat (first | refine blk_drewN ?_ _ | refine blk_drew ?_ | refine blk_alloc ?_ _)); refine blk_far ?_ NB196_201.out _; (with_reducible repeat (first | refine blk_drewN ?_ _ | refine blk_drew ?_ | refine blk_alloc ?_ _)); refine blk_far ?_ NB196_201.out _; (with_reducible repeat (first | refine blk_drewN ?_ _ | refine blk_drew ?_ | refine blk_alloc ?_ _)); refine blk_far ?_ NB196_201.out _; (with_reducible repeat (first | refine blk_drewN ?_ _ | refine blk_drew ?_ | refine blk_alloc ?_ _)); refine blk_far ?_ NB196_201.out _; (with_reducible repeat (first | refine blk_drewN ?_ _ | refine blk_drew ?_ | refine blk_alloc ?_ _)); refine blk_far ?_ NB196_201.out _; (with_reducible repeat (first | refine blk_drewN ?_ _ | refine blk_drew ?_ | refine blk_alloc ?_ _)); refine blk_far ?_ NB196_201.out _; (with_reducible repeat (first | refine blk_drewN ?_ _ | refine blk_drew ?_ | refine blk_alloc ?_ _)); exact BK196.out⟩
        have n2_ : Aside0 (((((((((w11.setCell ⟨gb201, 0, none⟩ (.string ((rd_T30 l0 x14_1).f0))).setCell ⟨gb201, 1, none⟩ (.int .i64 ((rd_T30 l0 x14_1).f1))).setCell ⟨gb201, 2, none⟩ (.string ((rd_T30 l0 x14_1).f2))).setCell ⟨gb201, 3, none⟩ (.int .i64 ((rd_T30 l0 x14_1).f3.f0))).setCell ⟨gb201, 4, none⟩ (.int .i64 ((rd_T30 l0 x14_1).f3.f1))).setCell ⟨gb201, 5, none⟩ (.int .i64 ((rd_T30 l0 x14_1).f4))).setCell ⟨gb201, 6, none⟩ (.int .i64 ((rd_T30 l0 x14_1).f5))).setCell ⟨gb201, 7, none⟩ (.int .i64 ((rd_T30 l0 x14_1).f6))).heap[gb201]? = some (.cells #[.string ((rd_T30 l0 x14_1).f0), .int .i64 ((rd_T30 l0 x14_1).f1), .string ((rd_T30 l0 x14_1).f2), .int .i64 ((rd_T30 l0 x14_1).f3.f0), .int .i64 ((rd_T30 l0 x14_1).f3.f1), .int .i64 ((rd_T30 l0 x14_1).f4), .int .i64 ((rd_T30 l0 x14_1).f5), .int .i64 ((rd_T30 l0 x14_1).f6)] 30 (0, 0))) := ⟨by (with_reducible repeat (first | refine blk_drewN ?_ _ | refine blk_drew ?_ | refine blk_alloc ?_ _)); refine blk_put (cs := #[.string ((rd_T30 l0 x14_1).f0), .int .i64 ((rd_T30 l0 x14_1).f1), .string ((rd_T30 l0 x14_1).f2), .int .i64 ((rd_T30 l0 x14_1).f3.f0), .int .i64 ((rd_T30 l0 x14_1).f3.f1), .int .i64 ((rd_T30 l0 x14_1).f4), .int .i64 ((rd_T30 l0 x14_1).f5), .int .i64 0]) ?_ 7 _ rfl; refine blk_put (cs := #[.string ((rd_T30 l0 x14_1).f0), .int .i64 ((rd_T30 l0 x14_1).f1), .string ((rd_T30 l0 x14_1).f2), .int .i64 ((rd_T30 l0 x14_1).f3.f0), .int .i64 ((rd_T30 l0 x14_1).f3.f1), .int .i64 ((rd_T30 l0 x14_1).f4), .int .i64 0, .int .i64 0]) ?_ 6 _ rfl; refine blk_put (cs := #[.string ((rd_T30 l0 x14_1).f0), .int .i64 ((rd_T30 l0 x14_1).f1), .string ((rd_T30 l0 x14_1).f2), .int .i64 ((rd_T30 l0 x14_1).f3.f0), .int .i64 ((rd_T30 l0 x14_1).f3.f1), .int .i64 0, .int .i64 0, .int .i64 0]) ?_ 5 _ rfl; refine blk_put (cs := #[.string ((rd_T30 l0 x14_1).f0), .int .i64 ((rd_T30 l0 x14_1).f1), .string ((rd_T30 l0 x14_1).f2), .int .i64 ((rd_T30 l0 x14_1).f3.f0), .int .i64 0, .int .i64 0, .int .i64 0, .int .i64 0]) ?_ 4 _ rfl; refine blk_put (cs := #[.string ((rd_T30 l0 x14_1).f0), .int .i64 ((rd_T30 l0 x14_1).f1), .string ((rd_T30 l0 x14_1).f2), .int .i64 0, .int .i64 0, .int .i64 0, .int .i64 0, .int .i64 0]) ?_ 3 _ rfl; refine blk_put (cs := #[.string ((rd_T30 l0 x14_1).f0), .int .i64 ((rd_T30 l0 x14_1).f1), .string (⟨#[]⟩ : ByteArray), .int .i64 0, .int .i64 0, .int .i64 0, .int .i64 0, .int .i64 0]) ?_ 2 _ rfl; (with_reducible repeat (first | refine blk_drewN ?_ _ | refine blk_drew ?_ | refine blk_alloc ?_ _)); refine blk_put (cs := #[.string ((rd_T30 l0 x14_1).f0), .int .i64 0, .string (⟨#[]⟩ : ByteArray), .int .i64 0, .int .i64 0, .int .i64 0, .int .i64 0, .int .i64 0]) ?_ 1 _ rfl; (with_reducible repeat (first | refine blk_drewN ?_ _ | refine blk_drew ?_ | refine blk_alloc ?_ _)); refine blk_put (cs := #[.string (⟨#[]⟩ : ByteArray), .int .i64 0, .string (⟨#[]⟩ : ByteArray), .int .i64 0, .int .i64 0, .int .i64 0, .int .i64 0, .int .i64 0]) ?_ 0 _ rfl; (with_reducible repeat (first | refine blk_drewN ?_ _ | refine blk_drew ?_ | refine blk_alloc ?_ _)); exact BK201.out⟩
        have n3_ : Aside0 (Below w.heap.size w ((((((((w11.setCell ⟨gb201, 0, none⟩ (.string ((rd_T30 l0 x14_1).f0))).setCell ⟨gb201, 1, none⟩ (.int .i64 ((rd_T30 l0 x14_1).f1))).setCell ⟨gb201, 2, none⟩ (.string ((rd_T30 l0 x14_1).f2))).setCell ⟨gb201, 3, none⟩ (.int .i64 ((rd_T30 l0 x14_1).f3.f0))).setCell ⟨gb201, 4, none⟩ (.int .i64 ((rd_T30 l0 x14_1).f3.f1))).setCell ⟨gb201, 5, none⟩ (.int .i64 ((rd_T30 l0 x14_1).f4))).setCell ⟨gb201, 6, none⟩ (.int .i64 ((rd_T30 l0 x14_1).f5))).setCell ⟨gb201, 7, none⟩ (.int .i64 ((rd_T30 l0 x14_1).f6)))) := ⟨by repeat (first | (with_reducible first | exact HB.out | apply below_alloc | apply pw_below_drewN | apply below_drew1 | refine below_set ?_ GE196.out | refine below_set ?_ GE201.out) | exact HB.out)⟩
        (try clear HO_8)
        (try clear BK196)
        (try clear BK201)
        (try clear HB)
        (try simp only [show ∀ (w_ : World) (n_ : Nat) (a_ : Addr) (v_ : Value), (w_.drewN n_).setCell a_ v_ = (w_.setCell a_ v_).drewN n_ from fun _ _ _ _ => rfl, show ∀ (w_ : World) (a_ : Addr) (v_ : Value), w_.drew.setCell a_ v_ = (w_.setCell a_ v_).drew from fun _ _ _ => rfl])
        generalize ((((((((w11.setCell ⟨gb201, 0, none⟩ (.string ((rd_T30 l0 x14_1).f0))).setCell ⟨gb201, 1, none⟩ (.int .i64 ((rd_T30 l0 x14_1).f1))).setCell ⟨gb201, 2, none⟩ (.string ((rd_T30 l0 x14_1).f2))).setCell ⟨gb201, 3, none⟩ (.int .i64 ((rd_T30 l0 x14_1).f3.f0))).setCell ⟨gb201, 4, none⟩ (.int .i64 ((rd_T30 l0 x14_1).f3.f1))).setCell ⟨gb201, 5, none⟩ (.int .i64 ((rd_T30 l0 x14_1).f4))).setCell ⟨gb201, 6, none⟩ (.int .i64 ((rd_T30 l0 x14_1).f5))).setCell ⟨gb201, 7, none⟩ (.int .i64 ((rd_T30 l0 x14_1).f6))) = w17 at n0_ n1_ n2_ n3_ ⊢
        have HO_8 := n0_
        have BK196 := n1_
        have BK201 := n2_
        have HB := n3_
        clear n0_ n1_ n2_ n3_
        have n0_ := Aside0.mk (Kd.R_drew HO_8.out)
        have n1_ := Aside0.mk (blk_drew BK196.out)
        have n2_ := Aside0.mk (blk_drew BK201.out)
        have n3_ := Aside0.mk (below_drew1 HB.out)
        clear HO_8
        clear BK196
        clear BK201
        clear HB
        have HO_8 := n0_
        have BK196 := n1_
        have BK201 := n2_
        have HB := n3_
        clear n0_ n1_ n2_ n3_
        refine start_ (n := 8) (S := fun w' => w'.cell? ⟨gb201, 0, none⟩ = some (.string ((rd_T30 l0 x14_1).f0)) ∧ w'.cell? ⟨gb201, 1, none⟩ = some (.int .i64 ((rd_T30 l0 x14_1).f1)) ∧ w'.cell? ⟨gb201, 2, none⟩ = some (.string ((rd_T30 l0 x14_1).f2)) ∧ w'.cell? ⟨gb201, 3, none⟩ = some (.int .i64 ((rd_T30 l0 x14_1).f3.f0)) ∧ w'.cell? ⟨gb201, 4, none⟩ = some (.int .i64 ((rd_T30 l0 x14_1).f3.f1)) ∧ w'.cell? ⟨gb201, 5, none⟩ = some (.int .i64 ((rd_T30 l0 x14_1).f4)) ∧ w'.cell? ⟨gb201, 6, none⟩ = some (.int .i64 ((rd_T30 l0 x14_1).f5)) ∧ w'.cell? ⟨gb201, 7, none⟩ = some (.int .i64 ((rd_T30 l0 x14_1).f6)) ∧ w'.cell? ⟨gb196, 0, none⟩ = some (.int .i64 a2_0) ∧ w'.cell? ⟨gb196, 1, none⟩ = some (.int .i64 a2_1)) (ds := [7]) #[false, false, false, false, false, false, false, false] (by kernel_rfl) rfl rfl ⟨(blk_cell BK201.out 0).trans rfl, (blk_cell BK201.out 1).trans rfl, (blk_cell BK201.out 2).trans rfl, (blk_cell BK201.out 3).trans rfl, (blk_cell BK201.out 4).trans rfl, (blk_cell BK201.out 5).trans rfl, (blk_cell BK201.out 6).trans rfl, (blk_cell BK201.out 7).trans rfl, (blk_cell BK196.out 0).trans rfl, (blk_cell BK196.out 1).trans rfl⟩ (fun hHeld => ?_); refine with_tabW spec_l6Moved.tab6 spec_l6Moved.bits6 (fun HT_ HW_ => ?_)
        generalize w17.drew = w18 at HO_8 BK196 BK201 HB hHeld ⊢
        refine pz 0 21 #[true, false, false, false, false, false, false, false] (any_of HT_.out (by kernel_rfl)) ?_
        refine pz 2 23 #[true, false, true, false, false, false, false, false] (any_of HT_.out (by kernel_rfl)) ?_
        refine take_ (i := 1) (N := some 22) (v := ?_) (a' := ?_) #[true, true, true, false, false, false, false, false] rfl rfl (take_ofW HT_.out HW_.out (by kernel_rfl)) (fun _ _ _ h => h) (Or.inl ⟨by rfl, ?_⟩) hHeld ?_ ?_
        rotate_left
        ·rintro w' ⟨s0, s1, s2, s3, s4, s5, s6, s7, s8, s9⟩
         exact gs
        rotate_left
        ·exact ap
        refine take_ (i := 4) (N := some 25) (v := ?_) (a' := ?_) #[true, true, true, false, true, false, false, false] rfl rfl (take_ofW HT_.out HW_.out (by kernel_rfl)) (fun _ _ _ h => h) (Or.inl ⟨by rfl, ?_⟩) hHeld ?_ ?_
        rotate_left
        ·rintro w' ⟨s0, s1, s2, s3, s4, s5, s6, s7, s8, s9⟩
         exact gs
        rotate_left
        ·exact ap
        refine one_ (i := 3) (N := some 24) #[true, true, true, true, true, false, false, false] rfl rfl (one_of HT_.out (by kernel_rfl)) (by decide) (fun K hK => ?_)
        refine goes_ Try.func90 (by kernel_rfl) rfl #[.agg #[.int .i64 ((rd_T30 l0 x14_1).f3.f0), .int .i64 ((rd_T30 l0 x14_1).f3.f1)], .int .i64 a1] (by rfl) rfl rfl u8_5 ?_
        with_reducible refine (spec_l2Turn.calls k1 ((rd_T30 l0 x14_1).f3.f0) ((rd_T30 l0 x14_1).f3.f1) a1 t202 t203 _ A15.out).mono ?_
        rintro e w19 ⟨rfl, hb⟩
        refine ⟨_, rfl, ?_⟩
        have n0_ := Aside0.mk (Kd.R_below u8_6 hb)
        have n1_ := Aside0.mk (blk_below (g := gb196) (o := .cells #[.int .i64 a2_0, .int .i64 a2_1] 28 (0, 0)) u8_4 hb)
        have n2_ := Aside0.mk (blk_below (g := gb201) (o := .cells #[.string ((rd_T30 l0 x14_1).f0), .int .i64 ((rd_T30 l0 x14_1).f1), .string ((rd_T30 l0 x14_1).f2), .int .i64 ((rd_T30 l0 x14_1).f3.f0), .int .i64 ((rd_T30 l0 x14_1).f3.f1), .int .i64 ((rd_T30 l0 x14_1).f4), .int .i64 ((rd_T30 l0 x14_1).f5), .int .i64 ((rd_T30 l0 x14_1).f6)] 30 (0, 0)) u8_3 hb)
        have n3_ := Aside0.mk (below_step u8_0 hb)
        clear HO_8
        clear BK196
        clear BK201
        clear HB
        have HO_8 := n0_
        have BK196 := n1_
        have BK201 := n2_
        have HB := n3_
        clear n0_ n1_ n2_ n3_
        (try clear hb)
        (try clear hb2)
        (try clear hk)
        (try clear hi)
        refine hK.out _ _ ⟨(blk_cell BK201.out 0).trans rfl, (blk_cell BK201.out 1).trans rfl, (blk_cell BK201.out 2).trans rfl, (blk_cell BK201.out 3).trans rfl, (blk_cell BK201.out 4).trans rfl, (blk_cell BK201.out 5).trans rfl, (blk_cell BK201.out 6).trans rfl, (blk_cell BK201.out 7).trans rfl, (blk_cell BK196.out 0).trans rfl, (blk_cell BK196.out 1).trans rfl⟩ (fun hHeld => ?_)
        clear hK K
        refine norm_ (a' := ?_) ?_ ?_
        rotate_left
        ·show Act.put _ (some 24) _ = _
         simp only [Act.put, List.setIfInBounds_toArray, List.set_cons_zero, List.set_cons_succ, i64_w, i32_w]
         rfl
        refine one_ (i := 5) (N := some 26) #[true, true, true, true, true, true, false, false] rfl rfl (one_of HT_.out (by kernel_rfl)) (by decide) (fun K hK => ?_)
        refine goes_ Try.func89 (by kernel_rfl) rfl #[.agg #[.int .i64 t202, .int .i64 t203], .agg #[.int .i64 a2_0, .int .i64 a2_1]] (by rfl) rfl rfl u8_5 ?_
        with_reducible refine (spec_l2Add.calls t202 t203 a2_0 a2_1 t204 t205 _ A16.out).mono ?_
        rintro e w20 ⟨rfl, hb⟩
        refine ⟨_, rfl, ?_⟩
        have n0_ := Aside0.mk (Kd.R_below u8_6 hb)
        have n1_ := Aside0.mk (blk_below (g := gb196) (o := .cells #[.int .i64 a2_0, .int .i64 a2_1] 28 (0, 0)) u8_4 hb)
        have n2_ := Aside0.mk (blk_below (g := gb201) (o := .cells #[.string ((rd_T30 l0 x14_1).f0), .int .i64 ((rd_T30 l0 x14_1).f1), .string ((rd_T30 l0 x14_1).f2), .int .i64 ((rd_T30 l0 x14_1).f3.f0), .int .i64 ((rd_T30 l0 x14_1).f3.f1), .int .i64 ((rd_T30 l0 x14_1).f4), .int .i64 ((rd_T30 l0 x14_1).f5), .int .i64 ((rd_T30 l0 x14_1).f6)] 30 (0, 0)) u8_3 hb)
        have n3_ := Aside0.mk (below_step u8_0 hb)
        clear HO_8
        clear BK196
        clear BK201
        clear HB
        have HO_8 := n0_
        have BK196 := n1_
        have BK201 := n2_
        have HB := n3_
        clear n0_ n1_ n2_ n3_
        (try clear hb)
        (try clear hb2)
        (try clear hk)
        (try clear hi)
        refine hK.out _ _ ⟨(blk_cell BK201.out 0).trans rfl, (blk_cell BK201.out 1).trans rfl, (blk_cell BK201.out 2).trans rfl, (blk_cell BK201.out 3).trans rfl, (blk_cell BK201.out 4).trans rfl, (blk_cell BK201.out 5).trans rfl, (blk_cell BK201.out 6).trans rfl, (blk_cell BK201.out 7).trans rfl, (blk_cell BK196.out 0).trans rfl, (blk_cell BK196.out 1).trans rfl⟩ (fun hHeld => ?_)
        clear hK K
        refine norm_ (a' := ?_) ?_ ?_
        rotate_left
        ·show Act.put _ (some 26) _ = _
         simp only [Act.put, List.setIfInBounds_toArray, List.set_cons_zero, List.set_cons_succ, i64_w, i32_w]
         rfl
        refine pz 6 27 #[true, true, true, true, true, true, true, false] (any_of HT_.out (by kernel_rfl)) ?_
        refine last_ (i := 7) (N := none) #[true, true, true, true, true, true, true, true] rfl rfl (one_of HT_.out (by kernel_rfl)) (by decide) (fun K hK => ?_)
        have hs21 : w20.cell? ⟨gb201, 3, none⟩ = some (.int .i64 ((rd_T30 l0 x14_1).f3.f0)) := (blk_cell BK201.out 3).trans rfl
        have hfs21 := blk_frozen BK201.out 3
        have hns21_0 := NB196_201.out
        have hms21_0 := NB201_196.out
        have hs22 : w20.cell? ⟨gb201, 4, none⟩ = some (.int .i64 ((rd_T30 l0 x14_1).f3.f1)) := (blk_cell BK201.out 4).trans rfl
        have hfs22 := blk_frozen BK201.out 4
        have hns22_0 := NB196_201.out
        have hms22_0 := NB201_196.out
        refine skip_ (w1 := ?_) (by rfl) rfl ?_ ?_
        rotate_left
        ·go_simp
         rfl
        refine hK.out _ _ ?_
        clear hK K
        refine done_ (done_of HT_.out (by kernel_rfl)) ?_
        try go_wp2
        go_meet
        case rel => exact ⟨_, (t204), (t205), H', ⟨by have := HK1.out; first | omega | exact Nat.le_refl _⟩, ⟨by (with_reducible repeat (first | apply Kd.R_alloc | apply Kd.R_drewN | apply Kd.R_drew)); exact Kd.R_mono (Kd.R_far (p := ⟨gb201, 4, none⟩) (Kd.R_far (p := ⟨gb201, 3, none⟩) (Kd.R_mono HO_8.out (fun k_ hk => (⟨hk, hk⟩ : _ ∧ k_ ≠ gb201))) (fun _ hk => hk.2) (.int .i64 t204)) (fun _ hk => hk.2) (.int .i64 t205)) (fun _ hk => hk.1)⟩, ⟨by (with_reducible repeat (first | refine blk_drewN ?_ _ | refine blk_drew ?_ | refine blk_alloc ?_ _)); refine blk_far ?_ NB196_201.out _; (with_reducible repeat (first | refine blk_drewN ?_ _ | refine blk_drew ?_ | refine blk_alloc ?_ _)); refine blk_far ?_ NB196_201.out _; (with_reducible repeat (first | refine blk_drewN ?_ _ | refine blk_drew ?_ | refine blk_alloc ?_ _)); exact BK196.out⟩, ⟨by (with_reducible repeat (first | refine blk_drewN ?_ _ | refine blk_drew ?_ | refine blk_alloc ?_ _)); refine blk_put (cs := #[.string ((rd_T30 l0 x14_1).f0), .int .i64 ((rd_T30 l0 x14_1).f1), .string ((rd_T30 l0 x14_1).f2), .int .i64 t204, .int .i64 ((rd_T30 l0 x14_1).f3.f1), .int .i64 ((rd_T30 l0 x14_1).f4), .int .i64 ((rd_T30 l0 x14_1).f5), .int .i64 ((rd_T30 l0 x14_1).f6)]) ?_ 4 _ rfl; refine blk_put (cs := #[.string ((rd_T30 l0 x14_1).f0), .int .i64 ((rd_T30 l0 x14_1).f1), .string ((rd_T30 l0 x14_1).f2), .int .i64 ((rd_T30 l0 x14_1).f3.f0), .int .i64 ((rd_T30 l0 x14_1).f3.f1), .int .i64 ((rd_T30 l0 x14_1).f4), .int .i64 ((rd_T30 l0 x14_1).f5), .int .i64 ((rd_T30 l0 x14_1).f6)]) ?_ 3 _ rfl; (with_reducible repeat (first | refine blk_drewN ?_ _ | refine blk_drew ?_ | refine blk_alloc ?_ _)); exact BK201.out⟩, ⟨by repeat (first | (with_reducible first | exact HB.out | apply below_alloc | apply pw_below_drewN | apply below_drew1 | refine below_set ?_ GE196.out | refine below_set ?_ GE201.out) | exact HB.out)⟩⟩
      case rest =>
       clear HC10
       try clear c1
       try clear p2
       try clear q2
       try clear hx2
       try clear c7
       try clear c7b0
       try clear c8
       try clear c8b0
       try clear c9
       try clear c9b0
       try clear c12
       try clear c14
       try clear c14b0
       try clear c14b1
       try clear p20
       try clear q20
       try clear hx20
       try clear hcz13_0
       try clear hcz13_1
       try clear hcz13_2
       try clear hcz13_3
       try clear hcz13_4
       try clear hcz13_5
       try clear hcz13_6
       try clear hcz13_7
       try clear hfz13_0
       try clear hfz13_1
       try clear hfz13_2
       try clear hfz13_3
       try clear hfz13_4
       try clear hfz13_5
       try clear hfz13_6
       try clear hfz13_7
       try clear hx200_0
       try clear hx200_1
       try clear hx200_2
       try clear hx200_3
       try clear hx200_4
       try clear hx200_5
       try clear hx200_6
       try clear hx200_7
       try clear p2
       try clear p200
       try clear q200
       obtain ⟨kq, x202003_9, x202004_9, HA, HJ9, HO_8, BK196, BK201, HB⟩ := hcut
       cases kq with
       | zero => exact absurd HA.out (by simp [spec_l6Moved.j1])
       | succ kj9 =>
        have H := HA.out
        clear HA
        simp only [spec_l6Moved.j1] at H
        by_cases c23 : ((rd_T30 l0 x14_1).f1) = 2
        ·rw [if_pos c23] at H
         have c23b0 : (((rd_T30 l0 x14_1).f1) == 2) = true := beq_iff_eq.mpr c23
         have c23b1 : (((rd_T30 l0 x14_1).f1) != 2) = false := bne_eq_false_iff_eq.mpr c23
         clear c23
         replace H := Option.bind_eq_some_iff.mp H
         obtain ⟨t206, A240, H⟩ := H
         replace H : ((spec_IsDevice.f kj9 ((rd_T30 l0 x14_1).f0) ((rd_T30 l0 x14_1).f1) ((rd_T30 l0 x14_1).f2) x202003_9 x202004_9 t206 ((rd_T30 l0 x14_1).f5) ((rd_T30 l0 x14_1).f6)).bind fun t207 => (if t207 = true then (if x8_1.length < 1759218604441 then (spec_l6Moved.l0 kj9 a1 (x8_1 ++ [(⟨((rd_T30 l0 x14_1).f0), ((rd_T30 l0 x14_1).f1), ((rd_T30 l0 x14_1).f2), (⟨x202003_9, x202004_9⟩ : S28), t206, ((rd_T30 l0 x14_1).f5), ((rd_T30 l0 x14_1).f6)⟩ : S30)]) l0 (l0.length : Int) (wrap64 (x14_1 + 1)) a2_0 a2_1) else (none)) else (some ((([] : List (S30))), false)))) = some (r1, r2) := H
         have A24 := Aside0.mk A240
         clear A240
         replace H := Option.bind_eq_some_iff.mp H
         obtain ⟨t207, A250, H⟩ := H
         replace H : (if t207 = true then (if x8_1.length < 1759218604441 then (spec_l6Moved.l0 kj9 a1 (x8_1 ++ [(⟨((rd_T30 l0 x14_1).f0), ((rd_T30 l0 x14_1).f1), ((rd_T30 l0 x14_1).f2), (⟨x202003_9, x202004_9⟩ : S28), t206, ((rd_T30 l0 x14_1).f5), ((rd_T30 l0 x14_1).f6)⟩ : S30)]) l0 (l0.length : Int) (wrap64 (x14_1 + 1)) a2_0 a2_1) else (none)) else (some ((([] : List (S30))), false))) = some (r1, r2) := H
         have A25 := Aside0.mk A250
         clear A250
         by_cases c26 : t207 = true
         ·subst c26
          have H1 : (if x8_1.length < 1759218604441 then (spec_l6Moved.l0 kj9 a1 (x8_1 ++ [(⟨((rd_T30 l0 x14_1).f0), ((rd_T30 l0 x14_1).f1), ((rd_T30 l0 x14_1).f2), (⟨x202003_9, x202004_9⟩ : S28), t206, ((rd_T30 l0 x14_1).f5), ((rd_T30 l0 x14_1).f6)⟩ : S30)]) l0 (l0.length : Int) (wrap64 (x14_1 + 1)) a2_0 a2_1) else (none)) = some (r1, r2) := by rw [if_pos rfl] at H; exact H
          clear H
          have H := H1
          clear H1
          by_cases c27 : x8_1.length < 1759218604441
          ·rw [if_pos c27] at H
           have LMc27 := Aside0.mk c27
           clear c27
           obtain ⟨y208, hy208⟩ : ∃ y_ : List (S30), y_ = (x8_1 ++ [(⟨((rd_T30 l0 x14_1).f0), ((rd_T30 l0 x14_1).f1), ((rd_T30 l0 x14_1).f2), (⟨x202003_9, x202004_9⟩ : S28), t206, ((rd_T30 l0 x14_1).f5), ((rd_T30 l0 x14_1).f6)⟩ : S30)]) := ⟨_, rfl⟩
           replace H : (spec_l6Moved.l0 kj9 a1 y208 l0 (l0.length : Int) (wrap64 (x14_1 + 1)) a2_0 a2_1) = some (r1, r2) := by first | (rw [hy208]; with_reducible exact H) | (have H2_ := (Option.bind_some _ _).symm.trans H; rw [hy208]; with_reducible exact H2_) | (have H2_ := (Option.bind_some _ _).symm.trans H; with_reducible exact H2_) | with_reducible exact H | (rw [hy208]; exact H) | exact H
           have Ny208 := Aside0.mk hy208
           clear hy208
           have H' := Aside0.mk H
           clear H
           have hnb28 := NB201_196.out
           have hnc28 := NB196_201.out
           have hcz29_0 : wc.cell? ⟨gb201, 0, none⟩ = some (.string ((rd_T30 l0 x14_1).f0)) := (blk_cell BK201.out 0).trans rfl
           have hcz29_1 : wc.cell? ⟨gb201, 1, none⟩ = some (.int .i64 ((rd_T30 l0 x14_1).f1)) := (blk_cell BK201.out 1).trans rfl
           have hcz29_2 : wc.cell? ⟨gb201, 2, none⟩ = some (.string ((rd_T30 l0 x14_1).f2)) := (blk_cell BK201.out 2).trans rfl
           have hcz29_3 : wc.cell? ⟨gb201, 3, none⟩ = some (.int .i64 x202003_9) := (blk_cell BK201.out 3).trans rfl
           have hcz29_4 : wc.cell? ⟨gb201, 4, none⟩ = some (.int .i64 x202004_9) := (blk_cell BK201.out 4).trans rfl
           have hcz29_5 : wc.cell? ⟨gb201, 5, none⟩ = some (.int .i64 ((rd_T30 l0 x14_1).f4)) := (blk_cell BK201.out 5).trans rfl
           have hcz29_6 : wc.cell? ⟨gb201, 6, none⟩ = some (.int .i64 ((rd_T30 l0 x14_1).f5)) := (blk_cell BK201.out 6).trans rfl
           have hcz29_7 : wc.cell? ⟨gb201, 7, none⟩ = some (.int .i64 ((rd_T30 l0 x14_1).f6)) := (blk_cell BK201.out 7).trans rfl
           have hfz29_0 := blk_frozen BK201.out 0
           have hfz29_1 := blk_frozen BK201.out 1
           have hfz29_2 := blk_frozen BK201.out 2
           have hfz29_3 := blk_frozen BK201.out 3
           have hfz29_4 := blk_frozen BK201.out 4
           have hfz29_5 := blk_frozen BK201.out 5
           have hfz29_6 := blk_frozen BK201.out 6
           have hfz29_7 := blk_frozen BK201.out 7
           go_wp2_with (first | ((with_reducible refine gate_callee (f := 91) rfl ?_); refine goesL_ (some 34) rfl rfl Try.func91 (by kernel_rfl) rfl #[.int .i64 ((rd_T30 l0 x14_1).f4), .int .i64 a1] rfl u8_5 ?_; (with_reducible refine (spec_TurnHeading.calls ((rd_T30 l0 x14_1).f4) a1 t206 _ A24.out).mono ?_); rintro e w' ⟨rfl, ⟨nd, rfl⟩⟩; refine ⟨_, rfl, ?_⟩; (try (rw [drewN_self wc]; generalize hq_ : World.drewN wc _ = wc; have n0_ : Aside0 (Kd.R k30 30 wc w.heap.size (fun k_ => k_ ≠ gb201) u8 x8_1) := ⟨by rw [← hq_]; exact u8_6⟩; have n1_ : Aside0 (wc.heap[gb196]? = some (.cells #[.int .i64 a2_0, .int .i64 a2_1] 28 (0, 0))) := ⟨by rw [← hq_]; exact u8_4⟩; have n2_ : Aside0 (wc.heap[gb201]? = some (.cells #[.string ((rd_T30 l0 x14_1).f0), .int .i64 ((rd_T30 l0 x14_1).f1), .string ((rd_T30 l0 x14_1).f2), .int .i64 x202003_9, .int .i64 x202004_9, .int .i64 ((rd_T30 l0 x14_1).f4), .int .i64 ((rd_T30 l0 x14_1).f5), .int .i64 ((rd_T30 l0 x14_1).f6)] 30 (0, 0))) := ⟨by rw [← hq_]; exact u8_3⟩; have n3_ : Aside0 (Below w.heap.size w wc) := ⟨by rw [← hq_]; exact u8_0⟩; clear HO_8 BK196 BK201 HB hq_; have HO_8 := n0_; have BK196 := n1_; have BK201 := n2_; have HB := n3_; clear n0_ n1_ n2_ n3_; have hfzT_0 := blk_frozen BK201.out 0; have hczT_0 : wc.cell? ⟨gb201, 0, none⟩ = some (.string ((rd_T30 l0 x14_1).f0)) := (blk_cell BK201.out 0).trans rfl; have hfzT_1 := blk_frozen BK201.out 1; have hczT_1 : wc.cell? ⟨gb201, 1, none⟩ = some (.int .i64 ((rd_T30 l0 x14_1).f1)) := (blk_cell BK201.out 1).trans rfl; have hfzT_2 := blk_frozen BK201.out 2; have hczT_2 : wc.cell? ⟨gb201, 2, none⟩ = some (.string ((rd_T30 l0 x14_1).f2)) := (blk_cell BK201.out 2).trans rfl; have hfzT_3 := blk_frozen BK201.out 3; have hczT_3 : wc.cell? ⟨gb201, 3, none⟩ = some (.int .i64 x202003_9) := (blk_cell BK201.out 3).trans rfl; have hfzT_4 := blk_frozen BK201.out 4; have hczT_4 : wc.cell? ⟨gb201, 4, none⟩ = some (.int .i64 x202004_9) := (blk_cell BK201.out 4).trans rfl; have hfzT_5 := blk_frozen BK201.out 5; have hczT_5 : wc.cell? ⟨gb201, 5, none⟩ = some (.int .i64 ((rd_T30 l0 x14_1).f4)) := (blk_cell BK201.out 5).trans rfl; have hfzT_6 := blk_frozen BK201.out 6; have hczT_6 : wc.cell? ⟨gb201, 6, none⟩ = some (.int .i64 ((rd_T30 l0 x14_1).f5)) := (blk_cell BK201.out 6).trans rfl; have hfzT_7 := blk_frozen BK201.out 7; have hczT_7 : wc.cell? ⟨gb201, 7, none⟩ = some (.int .i64 ((rd_T30 l0 x14_1).f6)) := (blk_cell BK201.out 7).trans rfl))) | ((with_reducible refine gate_callee (f := 16) rfl ?_); refine goesL_ (some 37) rfl rfl Try.func16 (by kernel_rfl) rfl #[.agg #[.string ((rd_T30 l0 x14_1).f0), .int .i64 ((rd_T30 l0 x14_1).f1), .string ((rd_T30 l0 x14_1).f2), .int .i64 x202003_9, .int .i64 x202004_9, .int .i64 t206, .int .i64 ((rd_T30 l0 x14_1).f5), .int .i64 ((rd_T30 l0 x14_1).f6)]] rfl u8_5 ?_; (with_reducible refine (spec_IsDevice.calls kj9 ((rd_T30 l0 x14_1).f0) ((rd_T30 l0 x14_1).f1) ((rd_T30 l0 x14_1).f2) x202003_9 x202004_9 t206 ((rd_T30 l0 x14_1).f5) ((rd_T30 l0 x14_1).f6) true _ A25.out).mono ?_); rintro e w30 ⟨rfl, hb⟩; refine ⟨_, rfl, ?_⟩; have n0_ := Aside0.mk (Kd.R_below u8_14 hb); have n1_ := Aside0.mk (blk_below (g := gb196) (o := .cells #[.int .i64 a2_0, .int .i64 a2_1] 28 (0, 0)) u8_15 hb); have n2_ := Aside0.mk (blk_below (g := gb201) (o := .cells #[.string ((rd_T30 l0 x14_1).f0), .int .i64 ((rd_T30 l0 x14_1).f1), .string ((rd_T30 l0 x14_1).f2), .int .i64 x202003_9, .int .i64 x202004_9, .int .i64 t206, .int .i64 ((rd_T30 l0 x14_1).f5), .int .i64 ((rd_T30 l0 x14_1).f6)] 30 (0, 0)) u8_10 hb); have n3_ := Aside0.mk (below_step u8_0 hb); clear HO_8; clear BK196; clear BK201; clear HB; have HO_8 := n0_; have BK196 := n1_; have BK201 := n2_; have HB := n3_; clear n0_ n1_ n2_ n3_; (try clear hb); (try clear hb2); (try clear hk); (try clear hi); have hcz31_0 : w30.cell? ⟨gb201, 0, none⟩ = some (.string ((rd_T30 l0 x14_1).f0)) := (blk_cell BK201.out 0).trans rfl; have hcz31_1 : w30.cell? ⟨gb201, 1, none⟩ = some (.int .i64 ((rd_T30 l0 x14_1).f1)) := (blk_cell BK201.out 1).trans rfl; have hcz31_2 : w30.cell? ⟨gb201, 2, none⟩ = some (.string ((rd_T30 l0 x14_1).f2)) := (blk_cell BK201.out 2).trans rfl; have hcz31_3 : w30.cell? ⟨gb201, 3, none⟩ = some (.int .i64 x202003_9) := (blk_cell BK201.out 3).trans rfl; have hcz31_4 : w30.cell? ⟨gb201, 4, none⟩ = some (.int .i64 x202004_9) := (blk_cell BK201.out 4).trans rfl; have hcz31_5 : w30.cell? ⟨gb201, 5, none⟩ = some (.int .i64 t206) := (blk_cell BK201.out 5).trans rfl; have hcz31_6 : w30.cell? ⟨gb201, 6, none⟩ = some (.int .i64 ((rd_T30 l0 x14_1).f5)) := (blk_cell BK201.out 6).trans rfl; have hcz31_7 : w30.cell? ⟨gb201, 7, none⟩ = some (.int .i64 ((rd_T30 l0 x14_1).f6)) := (blk_cell BK201.out 7).trans rfl; have hfz31_0 := blk_frozen BK201.out 0; have hfz31_1 := blk_frozen BK201.out 1; have hfz31_2 := blk_frozen BK201.out 2; have hfz31_3 := blk_frozen BK201.out 3; have hfz31_4 := blk_frozen BK201.out 4; have hfz31_5 := blk_frozen BK201.out 5; have hfz31_6 := blk_frozen BK201.out 6; have hfz31_7 := blk_frozen BK201.out 7) | ((with_reducible refine gate_builtin (b := .append) (xs := #[.tmp 40, .tmp 42]) rfl ?_); at_builtin; refine Kd.R_append k30 (w0 := w) w.heap.size rfl (.tmp 40) (.tmp 42) 36 30 (.agg #[(.string ⟨#[]⟩), (.int .i64 0), (.string ⟨#[]⟩), (.int .i64 0), (.int .i64 0), (.int .i64 0), (.int .i64 0), (.int .i64 0)]) 80 rfl Try.underlying36 info30 rfl (by decide) (by omega) u8 x8_1 (⟨((rd_T30 l0 x14_1).f0), ((rd_T30 l0 x14_1).f1), ((rd_T30 l0 x14_1).f2), (⟨x202003_9, x202004_9⟩ : S28), t206, ((rd_T30 l0 x14_1).f5), ((rd_T30 l0 x14_1).f6)⟩ : S30) [.string ((rd_T30 l0 x14_1).f0), .int .i64 ((rd_T30 l0 x14_1).f1), .string ((rd_T30 l0 x14_1).f2), .int .i64 x202003_9, .int .i64 x202004_9, .int .i64 t206, .int .i64 ((rd_T30 l0 x14_1).f5), .int .i64 ((rd_T30 l0 x14_1).f6)] (fun k_ => k_ ≠ gb201) (fun _ => False) rfl rfl ?aP (fun _ hk => hk.elim) ?aF ?aO ?aB ?aS ?aL ?_; (case aP => exact k30_mkM _ _ _ (⟨((rd_T30 l0 x14_1).f0), ((rd_T30 l0 x14_1).f1), ((rd_T30 l0 x14_1).f2), (⟨x202003_9, x202004_9⟩ : S28), t206, ((rd_T30 l0 x14_1).f5), ((rd_T30 l0 x14_1).f6)⟩ : S30)); (case aB => exact u8_0); (case aF => exact (fun k_ hk => Kd.freshB (g := gb201) (o := .cells #[.string ((rd_T30 l0 x14_1).f0), .int .i64 ((rd_T30 l0 x14_1).f1), .string ((rd_T30 l0 x14_1).f2), .int .i64 x202003_9, .int .i64 x202004_9, .int .i64 t206, .int .i64 ((rd_T30 l0 x14_1).f5), .int .i64 ((rd_T30 l0 x14_1).f6)] 30 (0, 0)) u8_3 k_ hk)); (case aO => exact u8_6); (case aS => exact (below_size u8_0)); (case aL => have := LMc27.out; omega); intro v209 w32 ho hb hg hat; rw [← Ny208.out] at ho; have n0_ := Aside0.mk (blk_grown (g := gb196) (o := .cells #[.int .i64 a2_0, .int .i64 a2_1] 28 (0, 0)) u8_4 hg (Kd.R_ne HO_8.out BK196.out (by decide))); have n1_ := Aside0.mk (blk_grown (g := gb201) (o := .cells #[.string ((rd_T30 l0 x14_1).f0), .int .i64 ((rd_T30 l0 x14_1).f1), .string ((rd_T30 l0 x14_1).f2), .int .i64 x202003_9, .int .i64 x202004_9, .int .i64 t206, .int .i64 ((rd_T30 l0 x14_1).f5), .int .i64 ((rd_T30 l0 x14_1).f6)] 30 (0, 0)) u8_3 hg (Kd.R_away HO_8.out (fun _ hk => hk))); have n2_ := Aside0.mk (hb); have n3_ := Aside0.mk (ho); clear BK196; clear BK201; clear HB; clear HO_8; have BK196 := n0_; have BK201 := n1_; have HB := n2_; have HO210 := n3_; clear n0_ n1_ n2_ n3_; clear ho hb hg hat))
           go_roundg kj9
           case measure => have := HK1.out; have := HJ9.out; omega
           case rel => exact ⟨(y208), (wrap64 (x14_1 + 1)), (by first | rfl | (simp; done) | (simp [*]; done)), H', ⟨by have := HK1.out; have := HJ9.out; omega⟩, ⟨by (with_reducible repeat (first | apply Kd.R_alloc | apply Kd.R_drewN | apply Kd.R_drew)); exact Kd.R_mono HO210.out (fun _ hk => trivial)⟩, ⟨by (with_reducible repeat (first | refine blk_drewN ?_ _ | refine blk_drew ?_ | refine blk_alloc ?_ _)); exact BK196.out⟩, ⟨by repeat (first | (with_reducible first | exact HB.out | apply below_alloc | apply pw_below_drewN | apply below_drew1 | refine below_set ?_ GE196.out | refine below_set ?_ GE201.out) | exact HB.out)⟩⟩
          ·rw [if_neg c27] at H
           exact absurd H (by simp)
         ·replace c26 := Bool.eq_false_iff.mpr c26
          subst c26
          have H1 : (some ((([] : List (S30))), false)) = some (r1, r2) := by rw [if_neg (show ¬ (false = true) by decide)] at H; exact H
          clear H
          have H := H1
          clear H1
          obtain ⟨y211, hy211⟩ : ∃ y_ : List (S30), y_ = (([] : List (S30))) := ⟨_, rfl⟩
          replace H : (some (y211, false)) = some (r1, r2) := by first | (rw [hy211]; with_reducible exact H) | (have H2_ := (Option.bind_some _ _).symm.trans H; rw [hy211]; with_reducible exact H2_) | (have H2_ := (Option.bind_some _ _).symm.trans H; with_reducible exact H2_) | with_reducible exact H | (rw [hy211]; exact H) | exact H
          have Ny211 := Aside0.mk hy211
          clear hy211
          simp only [Option.some.injEq, Prod.mk.injEq] at H
          obtain ⟨rfl, rfl⟩ := H
          have hnb33 := NB201_196.out
          have hnc33 := NB196_201.out
          have hcz34_0 : wc.cell? ⟨gb201, 0, none⟩ = some (.string ((rd_T30 l0 x14_1).f0)) := (blk_cell BK201.out 0).trans rfl
          have hcz34_1 : wc.cell? ⟨gb201, 1, none⟩ = some (.int .i64 ((rd_T30 l0 x14_1).f1)) := (blk_cell BK201.out 1).trans rfl
          have hcz34_2 : wc.cell? ⟨gb201, 2, none⟩ = some (.string ((rd_T30 l0 x14_1).f2)) := (blk_cell BK201.out 2).trans rfl
          have hcz34_3 : wc.cell? ⟨gb201, 3, none⟩ = some (.int .i64 x202003_9) := (blk_cell BK201.out 3).trans rfl
          have hcz34_4 : wc.cell? ⟨gb201, 4, none⟩ = some (.int .i64 x202004_9) := (blk_cell BK201.out 4).trans rfl
          have hcz34_5 : wc.cell? ⟨gb201, 5, none⟩ = some (.int .i64 ((rd_T30 l0 x14_1).f4)) := (blk_cell BK201.out 5).trans rfl
          have hcz34_6 : wc.cell? ⟨gb201, 6, none⟩ = some (.int .i64 ((rd_T30 l0 x14_1).f5)) := (blk_cell BK201.out 6).trans rfl
          have hcz34_7 : wc.cell? ⟨gb201, 7, none⟩ = some (.int .i64 ((rd_T30 l0 x14_1).f6)) := (blk_cell BK201.out 7).trans rfl
          have hfz34_0 := blk_frozen BK201.out 0
          have hfz34_1 := blk_frozen BK201.out 1
          have hfz34_2 := blk_frozen BK201.out 2
          have hfz34_3 := blk_frozen BK201.out 3
          have hfz34_4 := blk_frozen BK201.out 4
          have hfz34_5 := blk_frozen BK201.out 5
          have hfz34_6 := blk_frozen BK201.out 6
          have hfz34_7 := blk_frozen BK201.out 7
          go_wp2_with (first | ((with_reducible refine gate_callee (f := 91) rfl ?_); refine goesL_ (some 34) rfl rfl Try.func91 (by kernel_rfl) rfl #[.int .i64 ((rd_T30 l0 x14_1).f4), .int .i64 a1] rfl u8_5 ?_; (with_reducible refine (spec_TurnHeading.calls ((rd_T30 l0 x14_1).f4) a1 t206 _ A24.out).mono ?_); rintro e w' ⟨rfl, ⟨nd, rfl⟩⟩; refine ⟨_, rfl, ?_⟩; (try (rw [drewN_self wc]; generalize hq_ : World.drewN wc _ = wc; have n0_ : Aside0 (Kd.R k30 30 wc w.heap.size (fun k_ => k_ ≠ gb201) u8 x8_1) := ⟨by rw [← hq_]; exact u8_6⟩; have n1_ : Aside0 (wc.heap[gb196]? = some (.cells #[.int .i64 a2_0, .int .i64 a2_1] 28 (0, 0))) := ⟨by rw [← hq_]; exact u8_4⟩; have n2_ : Aside0 (wc.heap[gb201]? = some (.cells #[.string ((rd_T30 l0 x14_1).f0), .int .i64 ((rd_T30 l0 x14_1).f1), .string ((rd_T30 l0 x14_1).f2), .int .i64 x202003_9, .int .i64 x202004_9, .int .i64 ((rd_T30 l0 x14_1).f4), .int .i64 ((rd_T30 l0 x14_1).f5), .int .i64 ((rd_T30 l0 x14_1).f6)] 30 (0, 0))) := ⟨by rw [← hq_]; exact u8_3⟩; have n3_ : Aside0 (Below w.heap.size w wc) := ⟨by rw [← hq_]; exact u8_0⟩; clear HO_8 BK196 BK201 HB hq_; have HO_8 := n0_; have BK196 := n1_; have BK201 := n2_; have HB := n3_; clear n0_ n1_ n2_ n3_; have hfzT_0 := blk_frozen BK201.out 0; have hczT_0 : wc.cell? ⟨gb201, 0, none⟩ = some (.string ((rd_T30 l0 x14_1).f0)) := (blk_cell BK201.out 0).trans rfl; have hfzT_1 := blk_frozen BK201.out 1; have hczT_1 : wc.cell? ⟨gb201, 1, none⟩ = some (.int .i64 ((rd_T30 l0 x14_1).f1)) := (blk_cell BK201.out 1).trans rfl; have hfzT_2 := blk_frozen BK201.out 2; have hczT_2 : wc.cell? ⟨gb201, 2, none⟩ = some (.string ((rd_T30 l0 x14_1).f2)) := (blk_cell BK201.out 2).trans rfl; have hfzT_3 := blk_frozen BK201.out 3; have hczT_3 : wc.cell? ⟨gb201, 3, none⟩ = some (.int .i64 x202003_9) := (blk_cell BK201.out 3).trans rfl; have hfzT_4 := blk_frozen BK201.out 4; have hczT_4 : wc.cell? ⟨gb201, 4, none⟩ = some (.int .i64 x202004_9) := (blk_cell BK201.out 4).trans rfl; have hfzT_5 := blk_frozen BK201.out 5; have hczT_5 : wc.cell? ⟨gb201, 5, none⟩ = some (.int .i64 ((rd_T30 l0 x14_1).f4)) := (blk_cell BK201.out 5).trans rfl; have hfzT_6 := blk_frozen BK201.out 6; have hczT_6 : wc.cell? ⟨gb201, 6, none⟩ = some (.int .i64 ((rd_T30 l0 x14_1).f5)) := (blk_cell BK201.out 6).trans rfl; have hfzT_7 := blk_frozen BK201.out 7; have hczT_7 : wc.cell? ⟨gb201, 7, none⟩ = some (.int .i64 ((rd_T30 l0 x14_1).f6)) := (blk_cell BK201.out 7).trans rfl))) | ((with_reducible refine gate_callee (f := 16) rfl ?_); refine goesL_ (some 37) rfl rfl Try.func16 (by kernel_rfl) rfl #[.agg #[.string ((rd_T30 l0 x14_1).f0), .int .i64 ((rd_T30 l0 x14_1).f1), .string ((rd_T30 l0 x14_1).f2), .int .i64 x202003_9, .int .i64 x202004_9, .int .i64 t206, .int .i64 ((rd_T30 l0 x14_1).f5), .int .i64 ((rd_T30 l0 x14_1).f6)]] rfl u8_5 ?_; (with_reducible refine (spec_IsDevice.calls kj9 ((rd_T30 l0 x14_1).f0) ((rd_T30 l0 x14_1).f1) ((rd_T30 l0 x14_1).f2) x202003_9 x202004_9 t206 ((rd_T30 l0 x14_1).f5) ((rd_T30 l0 x14_1).f6) false _ A25.out).mono ?_); rintro e w35 ⟨rfl, hb⟩; refine ⟨_, rfl, ?_⟩; have n0_ := Aside0.mk (Kd.R_below u8_14 hb); have n1_ := Aside0.mk (blk_below (g := gb196) (o := .cells #[.int .i64 a2_0, .int .i64 a2_1] 28 (0, 0)) u8_15 hb); have n2_ := Aside0.mk (blk_below (g := gb201) (o := .cells #[.string ((rd_T30 l0 x14_1).f0), .int .i64 ((rd_T30 l0 x14_1).f1), .string ((rd_T30 l0 x14_1).f2), .int .i64 x202003_9, .int .i64 x202004_9, .int .i64 t206, .int .i64 ((rd_T30 l0 x14_1).f5), .int .i64 ((rd_T30 l0 x14_1).f6)] 30 (0, 0)) u8_10 hb); have n3_ := Aside0.mk (below_step u8_0 hb); clear HO_8; clear BK196; clear BK201; clear HB; have HO_8 := n0_; have BK196 := n1_; have BK201 := n2_; have HB := n3_; clear n0_ n1_ n2_ n3_; (try clear hb); (try clear hb2); (try clear hk); (try clear hi)) | ((with_reducible refine gate_dst (N := 39) rfl ?_); refine Kd.R_lit k30 _ 30 ?hg (N := 39) ?hd (xs := ([] : List (S30))) (inner := []) (ok := fun _ => True) (okp := fun _ => True) ?hr ?hp (fun _ hk => hk) trivial (Below.refl _ _) (Nat.le_refl _) (by simp) ?_; (case hd => rfl); (case hg => rfl); (case hr => first | (go_simp; done) | (go_simp; rfl)); (case hp => exact (Reps.none _ _)); intro v212 w36 ho37 hb hg_ hnew_; clear hg_ hnew_; (first | rw [← Ny211.out] at ho37 | (simp only [Int.reduceToNat] at ho37; rw [← Ny211.out] at ho37)); have n0_ := Aside0.mk (Kd.R_elder' u8_6 (Kd.R_base ho37) hb); have n1_ := Aside0.mk (Kd.R_lower (Kd.R_newB (Kd.R_new' ho37 (Kd.R_lt u8_6)) (g := gb201) (o := .cells #[.string ((rd_T30 l0 x14_1).f0), .int .i64 ((rd_T30 l0 x14_1).f1), .string ((rd_T30 l0 x14_1).f2), .int .i64 x202003_9, .int .i64 x202004_9, .int .i64 t206, .int .i64 ((rd_T30 l0 x14_1).f5), .int .i64 ((rd_T30 l0 x14_1).f6)] 30 (0, 0)) u8_3) (below_size u8_0)); have n2_ := Aside0.mk (blk_below (g := gb196) (o := .cells #[.int .i64 a2_0, .int .i64 a2_1] 28 (0, 0)) u8_4 hb); have n3_ := Aside0.mk (blk_below (g := gb201) (o := .cells #[.string ((rd_T30 l0 x14_1).f0), .int .i64 ((rd_T30 l0 x14_1).f1), .string ((rd_T30 l0 x14_1).f2), .int .i64 x202003_9, .int .i64 x202004_9, .int .i64 t206, .int .i64 ((rd_T30 l0 x14_1).f5), .int .i64 ((rd_T30 l0 x14_1).f6)] 30 (0, 0)) u8_3 hb); have n4_ := Aside0.mk (below_step u8_0 hb); clear HO_8; clear BK196; clear BK201; clear HB; have HO_8 := n0_; have HO213 := n1_; have BK196 := n2_; have BK201 := n3_; have HB := n4_; clear n0_ n1_ n2_ n3_ n4_; clear hb ho37))
          go_ret2
          exact ⟨_, by first | rfl | (simp [*] <;> rfl), by (with_reducible repeat (first | apply Kd.R_alloc | apply Kd.R_drewN | apply Kd.R_drew)); exact Kd.R_mono HO213.out (fun _ hk => trivial), by repeat (first | (with_reducible first | exact HB.out | apply below_alloc | apply pw_below_drewN | apply below_drew1 | refine below_set ?_ GE196.out | refine below_set ?_ GE201.out) | exact HB.out)⟩
        ·rw [if_neg c23] at H
         have c23b0 : (((rd_T30 l0 x14_1).f1) == 2) = false := beq_eq_false_iff_ne.mpr c23
         have c23b1 : (((rd_T30 l0 x14_1).f1) != 2) = true := bne_iff_ne.mpr c23
         replace H := Option.bind_eq_some_iff.mp H
         obtain ⟨t214, A380, H⟩ := H
         replace H : (if t214 = true then (if x8_1.length < 1759218604441 then (spec_l6Moved.l0 kj9 a1 (x8_1 ++ [(⟨((rd_T30 l0 x14_1).f0), ((rd_T30 l0 x14_1).f1), ((rd_T30 l0 x14_1).f2), (⟨x202003_9, x202004_9⟩ : S28), ((rd_T30 l0 x14_1).f4), ((rd_T30 l0 x14_1).f5), ((rd_T30 l0 x14_1).f6)⟩ : S30)]) l0 (l0.length : Int) (wrap64 (x14_1 + 1)) a2_0 a2_1) else (none)) else (some ((([] : List (S30))), false))) = some (r1, r2) := H
         have A38 := Aside0.mk A380
         clear A380
         by_cases c39 : t214 = true
         ·subst c39
          have H1 : (if x8_1.length < 1759218604441 then (spec_l6Moved.l0 kj9 a1 (x8_1 ++ [(⟨((rd_T30 l0 x14_1).f0), ((rd_T30 l0 x14_1).f1), ((rd_T30 l0 x14_1).f2), (⟨x202003_9, x202004_9⟩ : S28), ((rd_T30 l0 x14_1).f4), ((rd_T30 l0 x14_1).f5), ((rd_T30 l0 x14_1).f6)⟩ : S30)]) l0 (l0.length : Int) (wrap64 (x14_1 + 1)) a2_0 a2_1) else (none)) = some (r1, r2) := by rw [if_pos rfl] at H; exact H
          clear H
          have H := H1
          clear H1
          by_cases c40 : x8_1.length < 1759218604441
          ·rw [if_pos c40] at H
           have LMc40 := Aside0.mk c40
           clear c40
           obtain ⟨y215, hy215⟩ : ∃ y_ : List (S30), y_ = (x8_1 ++ [(⟨((rd_T30 l0 x14_1).f0), ((rd_T30 l0 x14_1).f1), ((rd_T30 l0 x14_1).f2), (⟨x202003_9, x202004_9⟩ : S28), ((rd_T30 l0 x14_1).f4), ((rd_T30 l0 x14_1).f5), ((rd_T30 l0 x14_1).f6)⟩ : S30)]) := ⟨_, rfl⟩
           replace H : (spec_l6Moved.l0 kj9 a1 y215 l0 (l0.length : Int) (wrap64 (x14_1 + 1)) a2_0 a2_1) = some (r1, r2) := by first | (rw [hy215]; with_reducible exact H) | (have H2_ := (Option.bind_some _ _).symm.trans H; rw [hy215]; with_reducible exact H2_) | (have H2_ := (Option.bind_some _ _).symm.trans H; with_reducible exact H2_) | with_reducible exact H | (rw [hy215]; exact H) | exact H
           have Ny215 := Aside0.mk hy215
           clear hy215
           have H' := Aside0.mk H
           clear H
           have hnb41 := NB201_196.out
           have hnc41 := NB196_201.out
           have hcz42_0 : wc.cell? ⟨gb201, 0, none⟩ = some (.string ((rd_T30 l0 x14_1).f0)) := (blk_cell BK201.out 0).trans rfl
           have hcz42_1 : wc.cell? ⟨gb201, 1, none⟩ = some (.int .i64 ((rd_T30 l0 x14_1).f1)) := (blk_cell BK201.out 1).trans rfl
           have hcz42_2 : wc.cell? ⟨gb201, 2, none⟩ = some (.string ((rd_T30 l0 x14_1).f2)) := (blk_cell BK201.out 2).trans rfl
           have hcz42_3 : wc.cell? ⟨gb201, 3, none⟩ = some (.int .i64 x202003_9) := (blk_cell BK201.out 3).trans rfl
           have hcz42_4 : wc.cell? ⟨gb201, 4, none⟩ = some (.int .i64 x202004_9) := (blk_cell BK201.out 4).trans rfl
           have hcz42_5 : wc.cell? ⟨gb201, 5, none⟩ = some (.int .i64 ((rd_T30 l0 x14_1).f4)) := (blk_cell BK201.out 5).trans rfl
           have hcz42_6 : wc.cell? ⟨gb201, 6, none⟩ = some (.int .i64 ((rd_T30 l0 x14_1).f5)) := (blk_cell BK201.out 6).trans rfl
           have hcz42_7 : wc.cell? ⟨gb201, 7, none⟩ = some (.int .i64 ((rd_T30 l0 x14_1).f6)) := (blk_cell BK201.out 7).trans rfl
           have hfz42_0 := blk_frozen BK201.out 0
           have hfz42_1 := blk_frozen BK201.out 1
           have hfz42_2 := blk_frozen BK201.out 2
           have hfz42_3 := blk_frozen BK201.out 3
           have hfz42_4 := blk_frozen BK201.out 4
           have hfz42_5 := blk_frozen BK201.out 5
           have hfz42_6 := blk_frozen BK201.out 6
           have hfz42_7 := blk_frozen BK201.out 7
           go_wp2_with (first | ((with_reducible refine gate_callee (f := 16) rfl ?_); refine goesL_ (some 37) rfl rfl Try.func16 (by kernel_rfl) rfl #[.agg #[.string ((rd_T30 l0 x14_1).f0), .int .i64 ((rd_T30 l0 x14_1).f1), .string ((rd_T30 l0 x14_1).f2), .int .i64 x202003_9, .int .i64 x202004_9, .int .i64 ((rd_T30 l0 x14_1).f4), .int .i64 ((rd_T30 l0 x14_1).f5), .int .i64 ((rd_T30 l0 x14_1).f6)]] rfl u8_5 ?_; (with_reducible refine (spec_IsDevice.calls kj9 ((rd_T30 l0 x14_1).f0) ((rd_T30 l0 x14_1).f1) ((rd_T30 l0 x14_1).f2) x202003_9 x202004_9 ((rd_T30 l0 x14_1).f4) ((rd_T30 l0 x14_1).f5) ((rd_T30 l0 x14_1).f6) true _ A38.out).mono ?_); rintro e w43 ⟨rfl, hb⟩; refine ⟨_, rfl, ?_⟩; have n0_ := Aside0.mk (Kd.R_below u8_6 hb); have n1_ := Aside0.mk (blk_below (g := gb196) (o := .cells #[.int .i64 a2_0, .int .i64 a2_1] 28 (0, 0)) u8_4 hb); have n2_ := Aside0.mk (blk_below (g := gb201) (o := .cells #[.string ((rd_T30 l0 x14_1).f0), .int .i64 ((rd_T30 l0 x14_1).f1), .string ((rd_T30 l0 x14_1).f2), .int .i64 x202003_9, .int .i64 x202004_9, .int .i64 ((rd_T30 l0 x14_1).f4), .int .i64 ((rd_T30 l0 x14_1).f5), .int .i64 ((rd_T30 l0 x14_1).f6)] 30 (0, 0)) u8_3 hb); have n3_ := Aside0.mk (below_step u8_0 hb); clear HO_8; clear BK196; clear BK201; clear HB; have HO_8 := n0_; have BK196 := n1_; have BK201 := n2_; have HB := n3_; clear n0_ n1_ n2_ n3_; (try clear hb); (try clear hb2); (try clear hk); (try clear hi); have hcz44_0 : w43.cell? ⟨gb201, 0, none⟩ = some (.string ((rd_T30 l0 x14_1).f0)) := (blk_cell BK201.out 0).trans rfl; have hcz44_1 : w43.cell? ⟨gb201, 1, none⟩ = some (.int .i64 ((rd_T30 l0 x14_1).f1)) := (blk_cell BK201.out 1).trans rfl; have hcz44_2 : w43.cell? ⟨gb201, 2, none⟩ = some (.string ((rd_T30 l0 x14_1).f2)) := (blk_cell BK201.out 2).trans rfl; have hcz44_3 : w43.cell? ⟨gb201, 3, none⟩ = some (.int .i64 x202003_9) := (blk_cell BK201.out 3).trans rfl; have hcz44_4 : w43.cell? ⟨gb201, 4, none⟩ = some (.int .i64 x202004_9) := (blk_cell BK201.out 4).trans rfl; have hcz44_5 : w43.cell? ⟨gb201, 5, none⟩ = some (.int .i64 ((rd_T30 l0 x14_1).f4)) := (blk_cell BK201.out 5).trans rfl; have hcz44_6 : w43.cell? ⟨gb201, 6, none⟩ = some (.int .i64 ((rd_T30 l0 x14_1).f5)) := (blk_cell BK201.out 6).trans rfl; have hcz44_7 : w43.cell? ⟨gb201, 7, none⟩ = some (.int .i64 ((rd_T30 l0 x14_1).f6)) := (blk_cell BK201.out 7).trans rfl; have hfz44_0 := blk_frozen BK201.out 0; have hfz44_1 := blk_frozen BK201.out 1; have hfz44_2 := blk_frozen BK201.out 2; have hfz44_3 := blk_frozen BK201.out 3; have hfz44_4 := blk_frozen BK201.out 4; have hfz44_5 := blk_frozen BK201.out 5; have hfz44_6 := blk_frozen BK201.out 6; have hfz44_7 := blk_frozen BK201.out 7) | ((with_reducible refine gate_builtin (b := .append) (xs := #[.tmp 40, .tmp 42]) rfl ?_); at_builtin; refine Kd.R_append k30 (w0 := w) w.heap.size rfl (.tmp 40) (.tmp 42) 36 30 (.agg #[(.string ⟨#[]⟩), (.int .i64 0), (.string ⟨#[]⟩), (.int .i64 0), (.int .i64 0), (.int .i64 0), (.int .i64 0), (.int .i64 0)]) 80 rfl Try.underlying36 info30 rfl (by decide) (by omega) u8 x8_1 (⟨((rd_T30 l0 x14_1).f0), ((rd_T30 l0 x14_1).f1), ((rd_T30 l0 x14_1).f2), (⟨x202003_9, x202004_9⟩ : S28), ((rd_T30 l0 x14_1).f4), ((rd_T30 l0 x14_1).f5), ((rd_T30 l0 x14_1).f6)⟩ : S30) [.string ((rd_T30 l0 x14_1).f0), .int .i64 ((rd_T30 l0 x14_1).f1), .string ((rd_T30 l0 x14_1).f2), .int .i64 x202003_9, .int .i64 x202004_9, .int .i64 ((rd_T30 l0 x14_1).f4), .int .i64 ((rd_T30 l0 x14_1).f5), .int .i64 ((rd_T30 l0 x14_1).f6)] (fun k_ => k_ ≠ gb201) (fun _ => False) rfl rfl ?aP (fun _ hk => hk.elim) ?aF ?aO ?aB ?aS ?aL ?_; (case aP => exact k30_mkM _ _ _ (⟨((rd_T30 l0 x14_1).f0), ((rd_T30 l0 x14_1).f1), ((rd_T30 l0 x14_1).f2), (⟨x202003_9, x202004_9⟩ : S28), ((rd_T30 l0 x14_1).f4), ((rd_T30 l0 x14_1).f5), ((rd_T30 l0 x14_1).f6)⟩ : S30)); (case aB => exact u8_0); (case aF => exact (fun k_ hk => Kd.freshB (g := gb201) (o := .cells #[.string ((rd_T30 l0 x14_1).f0), .int .i64 ((rd_T30 l0 x14_1).f1), .string ((rd_T30 l0 x14_1).f2), .int .i64 x202003_9, .int .i64 x202004_9, .int .i64 ((rd_T30 l0 x14_1).f4), .int .i64 ((rd_T30 l0 x14_1).f5), .int .i64 ((rd_T30 l0 x14_1).f6)] 30 (0, 0)) u8_3 k_ hk)); (case aO => exact u8_6); (case aS => exact (below_size u8_0)); (case aL => have := LMc40.out; omega); intro v216 w45 ho hb hg hat; rw [← Ny215.out] at ho; have n0_ := Aside0.mk (blk_grown (g := gb196) (o := .cells #[.int .i64 a2_0, .int .i64 a2_1] 28 (0, 0)) u8_4 hg (Kd.R_ne HO_8.out BK196.out (by decide))); have n1_ := Aside0.mk (blk_grown (g := gb201) (o := .cells #[.string ((rd_T30 l0 x14_1).f0), .int .i64 ((rd_T30 l0 x14_1).f1), .string ((rd_T30 l0 x14_1).f2), .int .i64 x202003_9, .int .i64 x202004_9, .int .i64 ((rd_T30 l0 x14_1).f4), .int .i64 ((rd_T30 l0 x14_1).f5), .int .i64 ((rd_T30 l0 x14_1).f6)] 30 (0, 0)) u8_3 hg (Kd.R_away HO_8.out (fun _ hk => hk))); have n2_ := Aside0.mk (hb); have n3_ := Aside0.mk (ho); clear BK196; clear BK201; clear HB; clear HO_8; have BK196 := n0_; have BK201 := n1_; have HB := n2_; have HO217 := n3_; clear n0_ n1_ n2_ n3_; clear ho hb hg hat))
           go_roundg kj9
           case measure => have := HK1.out; have := HJ9.out; omega
           case rel => exact ⟨(y215), (wrap64 (x14_1 + 1)), (by first | rfl | (simp; done) | (simp [*]; done)), H', ⟨by have := HK1.out; have := HJ9.out; omega⟩, ⟨by (with_reducible repeat (first | apply Kd.R_alloc | apply Kd.R_drewN | apply Kd.R_drew)); exact Kd.R_mono HO217.out (fun _ hk => trivial)⟩, ⟨by (with_reducible repeat (first | refine blk_drewN ?_ _ | refine blk_drew ?_ | refine blk_alloc ?_ _)); exact BK196.out⟩, ⟨by repeat (first | (with_reducible first | exact HB.out | apply below_alloc | apply pw_below_drewN | apply below_drew1 | refine below_set ?_ GE196.out | refine below_set ?_ GE201.out) | exact HB.out)⟩⟩
          ·rw [if_neg c40] at H
           exact absurd H (by simp)
         ·replace c39 := Bool.eq_false_iff.mpr c39
          subst c39
          have H1 : (some ((([] : List (S30))), false)) = some (r1, r2) := by rw [if_neg (show ¬ (false = true) by decide)] at H; exact H
          clear H
          have H := H1
          clear H1
          obtain ⟨y218, hy218⟩ : ∃ y_ : List (S30), y_ = (([] : List (S30))) := ⟨_, rfl⟩
          replace H : (some (y218, false)) = some (r1, r2) := by first | (rw [hy218]; with_reducible exact H) | (have H2_ := (Option.bind_some _ _).symm.trans H; rw [hy218]; with_reducible exact H2_) | (have H2_ := (Option.bind_some _ _).symm.trans H; with_reducible exact H2_) | with_reducible exact H | (rw [hy218]; exact H) | exact H
          have Ny218 := Aside0.mk hy218
          clear hy218
          simp only [Option.some.injEq, Prod.mk.injEq] at H
          obtain ⟨rfl, rfl⟩ := H
          have hnb46 := NB201_196.out
          have hnc46 := NB196_201.out
          have hcz47_0 : wc.cell? ⟨gb201, 0, none⟩ = some (.string ((rd_T30 l0 x14_1).f0)) := (blk_cell BK201.out 0).trans rfl
          have hcz47_1 : wc.cell? ⟨gb201, 1, none⟩ = some (.int .i64 ((rd_T30 l0 x14_1).f1)) := (blk_cell BK201.out 1).trans rfl
          have hcz47_2 : wc.cell? ⟨gb201, 2, none⟩ = some (.string ((rd_T30 l0 x14_1).f2)) := (blk_cell BK201.out 2).trans rfl
          have hcz47_3 : wc.cell? ⟨gb201, 3, none⟩ = some (.int .i64 x202003_9) := (blk_cell BK201.out 3).trans rfl
          have hcz47_4 : wc.cell? ⟨gb201, 4, none⟩ = some (.int .i64 x202004_9) := (blk_cell BK201.out 4).trans rfl
          have hcz47_5 : wc.cell? ⟨gb201, 5, none⟩ = some (.int .i64 ((rd_T30 l0 x14_1).f4)) := (blk_cell BK201.out 5).trans rfl
          have hcz47_6 : wc.cell? ⟨gb201, 6, none⟩ = some (.int .i64 ((rd_T30 l0 x14_1).f5)) := (blk_cell BK201.out 6).trans rfl
          have hcz47_7 : wc.cell? ⟨gb201, 7, none⟩ = some (.int .i64 ((rd_T30 l0 x14_1).f6)) := (blk_cell BK201.out 7).trans rfl
          have hfz47_0 := blk_frozen BK201.out 0
          have hfz47_1 := blk_frozen BK201.out 1
          have hfz47_2 := blk_frozen BK201.out 2
          have hfz47_3 := blk_frozen BK201.out 3
          have hfz47_4 := blk_frozen BK201.out 4
          have hfz47_5 := blk_frozen BK201.out 5
          have hfz47_6 := blk_frozen BK201.out 6
          have hfz47_7 := blk_frozen BK201.out 7
          go_wp2_with (first | ((with_reducible refine gate_callee (f := 16) rfl ?_); refine goesL_ (some 37) rfl rfl Try.func16 (by kernel_rfl) rfl #[.agg #[.string ((rd_T30 l0 x14_1).f0), .int .i64 ((rd_T30 l0 x14_1).f1), .string ((rd_T30 l0 x14_1).f2), .int .i64 x202003_9, .int .i64 x202004_9, .int .i64 ((rd_T30 l0 x14_1).f4), .int .i64 ((rd_T30 l0 x14_1).f5), .int .i64 ((rd_T30 l0 x14_1).f6)]] rfl u8_5 ?_; (with_reducible refine (spec_IsDevice.calls kj9 ((rd_T30 l0 x14_1).f0) ((rd_T30 l0 x14_1).f1) ((rd_T30 l0 x14_1).f2) x202003_9 x202004_9 ((rd_T30 l0 x14_1).f4) ((rd_T30 l0 x14_1).f5) ((rd_T30 l0 x14_1).f6) false _ A38.out).mono ?_); rintro e w48 ⟨rfl, hb⟩; refine ⟨_, rfl, ?_⟩; have n0_ := Aside0.mk (Kd.R_below u8_6 hb); have n1_ := Aside0.mk (blk_below (g := gb196) (o := .cells #[.int .i64 a2_0, .int .i64 a2_1] 28 (0, 0)) u8_4 hb); have n2_ := Aside0.mk (blk_below (g := gb201) (o := .cells #[.string ((rd_T30 l0 x14_1).f0), .int .i64 ((rd_T30 l0 x14_1).f1), .string ((rd_T30 l0 x14_1).f2), .int .i64 x202003_9, .int .i64 x202004_9, .int .i64 ((rd_T30 l0 x14_1).f4), .int .i64 ((rd_T30 l0 x14_1).f5), .int .i64 ((rd_T30 l0 x14_1).f6)] 30 (0, 0)) u8_3 hb); have n3_ := Aside0.mk (below_step u8_0 hb); clear HO_8; clear BK196; clear BK201; clear HB; have HO_8 := n0_; have BK196 := n1_; have BK201 := n2_; have HB := n3_; clear n0_ n1_ n2_ n3_; (try clear hb); (try clear hb2); (try clear hk); (try clear hi)) | ((with_reducible refine gate_dst (N := 39) rfl ?_); refine Kd.R_lit k30 _ 30 ?hg (N := 39) ?hd (xs := ([] : List (S30))) (inner := []) (ok := fun _ => True) (okp := fun _ => True) ?hr ?hp (fun _ hk => hk) trivial (Below.refl _ _) (Nat.le_refl _) (by simp) ?_; (case hd => rfl); (case hg => rfl); (case hr => first | (go_simp; done) | (go_simp; rfl)); (case hp => exact (Reps.none _ _)); intro v219 w49 ho50 hb hg_ hnew_; clear hg_ hnew_; (first | rw [← Ny218.out] at ho50 | (simp only [Int.reduceToNat] at ho50; rw [← Ny218.out] at ho50)); have n0_ := Aside0.mk (Kd.R_elder' u8_6 (Kd.R_base ho50) hb); have n1_ := Aside0.mk (Kd.R_lower (Kd.R_newB (Kd.R_new' ho50 (Kd.R_lt u8_6)) (g := gb201) (o := .cells #[.string ((rd_T30 l0 x14_1).f0), .int .i64 ((rd_T30 l0 x14_1).f1), .string ((rd_T30 l0 x14_1).f2), .int .i64 x202003_9, .int .i64 x202004_9, .int .i64 ((rd_T30 l0 x14_1).f4), .int .i64 ((rd_T30 l0 x14_1).f5), .int .i64 ((rd_T30 l0 x14_1).f6)] 30 (0, 0)) u8_3) (below_size u8_0)); have n2_ := Aside0.mk (blk_below (g := gb196) (o := .cells #[.int .i64 a2_0, .int .i64 a2_1] 28 (0, 0)) u8_4 hb); have n3_ := Aside0.mk (blk_below (g := gb201) (o := .cells #[.string ((rd_T30 l0 x14_1).f0), .int .i64 ((rd_T30 l0 x14_1).f1), .string ((rd_T30 l0 x14_1).f2), .int .i64 x202003_9, .int .i64 x202004_9, .int .i64 ((rd_T30 l0 x14_1).f4), .int .i64 ((rd_T30 l0 x14_1).f5), .int .i64 ((rd_T30 l0 x14_1).f6)] 30 (0, 0)) u8_3 hb); have n4_ := Aside0.mk (below_step u8_0 hb); clear HO_8; clear BK196; clear BK201; clear HB; have HO_8 := n0_; have HO220 := n1_; have BK196 := n2_; have BK201 := n3_; have HB := n4_; clear n0_ n1_ n2_ n3_ n4_; clear hb ho50))
          go_ret2
          exact ⟨_, by first | rfl | (simp [*] <;> rfl), by (with_reducible repeat (first | apply Kd.R_alloc | apply Kd.R_drewN | apply Kd.R_drew)); exact Kd.R_mono HO220.out (fun _ hk => trivial), by repeat (first | (with_reducible first | exact HB.out | apply below_alloc | apply pw_below_drewN | apply below_drew1 | refine below_set ?_ GE196.out | refine below_set ?_ GE201.out) | exact HB.out)⟩
     ·rw [if_neg c9] at H
      exact absurd H (by simp)
    ·rw [if_neg c8] at H
     exact absurd H (by simp)
   ·rw [if_neg c7] at H
    have c7b0 : decide (x14_1 < (l0.length : Int)) = false := decide_eq_false c7
    clear c7
    simp only [Option.some.injEq, Prod.mk.injEq] at H
    obtain ⟨rfl, rfl⟩ := H
    go_wp2
    go_ret2
    exact ⟨_, by first | rfl | (simp [*] <;> rfl), by (with_reducible repeat (first | apply Kd.R_alloc | apply Kd.R_drewN | apply Kd.R_drew)); exact HO_8.out, by repeat (first | (with_reducible first | exact HB.out | apply below_alloc | apply pw_below_drewN | apply below_drew1 | refine below_set ?_ GE196.out) | exact HB.out)⟩

def spec_ShiftRig.f (k : Nat) (l0 : List (S30)) (a1_0 : Int) (a1_1 : Int) : Option ((List (S30)) × Bool) := (spec_IsRig.f k l0).bind fun t222 => (if t222 = true then ((spec_IsPlace.f a1_0 a1_1).bind fun t223 => (if t223 = true then ((spec_l6Moved.f k l0 0 a1_0 a1_1).bind fun bt224 => (some (bt224.1, bt224.2))) else (some ((([] : List (S30))), false)))) else (some ((([] : List (S30))), false)))
theorem spec_ShiftRig.mono : ∀ a0 a1 a2 k, LeO (spec_ShiftRig.f k a0 a1 a2) (spec_ShiftRig.f (k + 1) a0 a1 a2) := by
 intro a0 a1 a2 k
 unfold spec_ShiftRig.f
 repeat' first
   | (with_reducible exact spec_IsRig.mono _ _)
   | (with_reducible exact spec_l6Moved.mono _ _ _ _ _)
   | (with_reducible exact LeO.refl _)
   | (with_reducible exact LeO.none _)
   | (with_reducible refine LeO.ite ?_ ?_)
   | (with_reducible refine LeO.bind ?_ (fun _ => ?_))
set_option maxHeartbeats 8000000 in
set_option maxRecDepth 100000 in
theorem spec_ShiftRig.calls (k : Nat) (A0 : Option Addr) (c0 : Nat) (l0 : List (S30)) (a1_0 : Int) (a1_1 : Int) (r1 : List (S30)) (r2 : Bool) (w : World) (hr0 : Kd.C k30 w A0 l0.length l0) (hc0 : l0.length ≤ c0) (h : spec_ShiftRig.f k l0 a1_0 a1_1 = some (r1, r2)) :
  Calls Try.prog 44 #[.slice A0 l0.length c0, .agg #[.int .i64 a1_0, .int .i64 a1_1]] w fun e w' => ∃ v0_ : Value, e = .returned (.tuple #[v0_, .bool r2]) ∧ Kd.R k30 30 w' w.heap.size (fun _ => True) v0_ r1 ∧ Below w.heap.size w w' := by
 have hu28 := Try.underlying28
 have HR0 := Aside0.mk hr0
 have HC0 := Aside0.mk hc0
 clear hr0 hc0
 have HB := Aside0.mk (Below.refl w.heap.size w)
 have H : ((spec_IsRig.f k l0).bind fun t222 => (if t222 = true then ((spec_IsPlace.f a1_0 a1_1).bind fun t223 => (if t223 = true then ((spec_l6Moved.f k l0 0 a1_0 a1_1).bind fun bt224 => (some (bt224.1, bt224.2))) else (some ((([] : List (S30))), false)))) else (some ((([] : List (S30))), false)))) = some (r1, r2) := h
 clear h
 replace H := Option.bind_eq_some_iff.mp H
 obtain ⟨t222, A30, H⟩ := H
 replace H : (if t222 = true then ((spec_IsPlace.f a1_0 a1_1).bind fun t223 => (if t223 = true then ((spec_l6Moved.f k l0 0 a1_0 a1_1).bind fun bt224 => (some (bt224.1, bt224.2))) else (some ((([] : List (S30))), false)))) else (some ((([] : List (S30))), false))) = some (r1, r2) := H
 have A3 := Aside0.mk A30
 clear A30
 by_cases c4 : t222 = true
 ·subst c4
  have H1 : ((spec_IsPlace.f a1_0 a1_1).bind fun t223 => (if t223 = true then ((spec_l6Moved.f k l0 0 a1_0 a1_1).bind fun bt224 => (some (bt224.1, bt224.2))) else (some ((([] : List (S30))), false)))) = some (r1, r2) := by rw [if_pos rfl] at H; exact H
  clear H
  have H := H1
  clear H1
  replace H := Option.bind_eq_some_iff.mp H
  obtain ⟨t223, A50, H⟩ := H
  replace H : (if t223 = true then ((spec_l6Moved.f k l0 0 a1_0 a1_1).bind fun bt224 => (some (bt224.1, bt224.2))) else (some ((([] : List (S30))), false))) = some (r1, r2) := H
  have A5 := Aside0.mk A50
  clear A50
  by_cases c6 : t223 = true
  ·subst c6
   have H1 : ((spec_l6Moved.f k l0 0 a1_0 a1_1).bind fun bt224 => (some (bt224.1, bt224.2))) = some (r1, r2) := by rw [if_pos rfl] at H; exact H
   clear H
   have H := H1
   clear H1
   replace H := Option.bind_eq_some_iff.mp H
   obtain ⟨⟨t224, t227⟩, A70, H⟩ := H
   replace H : (some (t224, t227)) = some (r1, r2) := H
   have A7 := Aside0.mk A70
   clear A70
   simp only [Option.some.injEq, Prod.mk.injEq] at H
   obtain ⟨rfl, rfl⟩ := H
   go_enter Try.func44, Try.ntmps44
   go_wp2_with (first | ((with_reducible refine gate_dst (N := 3) rfl ?_); refine box_event ?hg (N := 3) ?hd (cs := #[.int .i64 a1_0, .int .i64 a1_1]) (t := 28) ?hr ?_; (case hd => rfl); (case hg => rfl); (case hr => first | (go_simp; done) | (go_simp; rfl)); intro gb221 hg w8 hbox hb; have n0_ := Aside0.mk (below_step u8_1 hb); have n1_ := Aside0.mk (hbox); have n2_ := Aside0.mk ((by rw [hg]; exact (below_size u8_1) : w.heap.size ≤ gb221)); have n3_ := Aside0.mk ((by rw [hg]; exact (below_size u8_1) : w.heap.size ≤ gb221)); clear HB; have HB := n0_; have BK221 := n1_; have GW221 := n2_; have GE221 := n3_; clear n0_ n1_ n2_ n3_; clear hb hbox hg) | ((with_reducible refine gate_callee (f := 24) rfl ?_); refine goesL_ (some 7) rfl rfl Try.func24 (by kernel_rfl) rfl #[.slice A0 l0.length c0] rfl u8_5 ?_; (with_reducible refine (spec_IsRig.calls k _ _ l0 true _ ?side1 ?side2 A3.out).mono ?_); (case side1 => exact y8_0); (case side2 => exact HC0.out); rintro e w9 ⟨rfl, hb⟩; refine ⟨_, rfl, ?_⟩; have n0_ := Aside0.mk (blk_below (g := gb221) (o := .cells #[.int .i64 a1_0, .int .i64 a1_1] 28 (0, 0)) u8_7 hb); have n1_ := Aside0.mk (below_step u8_2 hb); clear BK221; clear HB; have BK221 := n0_; have HB := n1_; clear n0_ n1_; (try clear hb); (try clear hb2); (try clear hk); (try clear hi); have hcz10_0 : w9.cell? ⟨gb221, 0, none⟩ = some (.int .i64 a1_0) := (blk_cell BK221.out 0).trans rfl; have hcz10_1 : w9.cell? ⟨gb221, 1, none⟩ = some (.int .i64 a1_1) := (blk_cell BK221.out 1).trans rfl; have hfz10_0 := blk_frozen BK221.out 0; have hfz10_1 := blk_frozen BK221.out 1) | (go_at_call 55; (with_reducible refine (spec_IsPlace.calls a1_0 a1_1 true _ A5.out).mono ?_); rintro e w11 ⟨rfl, hb⟩; have n0_ := Aside0.mk (blk_below (g := gb221) (o := .cells #[.int .i64 a1_0, .int .i64 a1_1] 28 (0, 0)) u8_7 hb); have n1_ := Aside0.mk (below_step u8_2 hb); clear BK221; clear HB; have BK221 := n0_; have HB := n1_; clear n0_ n1_; (try clear hb); (try clear hb2); (try clear hk); (try clear hi); have hcz12_0 : w11.cell? ⟨gb221, 0, none⟩ = some (.int .i64 a1_0) := (blk_cell BK221.out 0).trans rfl; have hcz12_1 : w11.cell? ⟨gb221, 1, none⟩ = some (.int .i64 a1_1) := (blk_cell BK221.out 1).trans rfl; have hfz12_0 := blk_frozen BK221.out 0; have hfz12_1 := blk_frozen BK221.out 1) | ((with_reducible refine gate_callee (f := 72) rfl ?_); refine goesL_ (some 17) rfl rfl Try.func72 (by kernel_rfl) rfl #[.slice A0 l0.length c0, .int .i64 0, .agg #[.int .i64 a1_0, .int .i64 a1_1]] rfl u8_5 ?_; (with_reducible refine (spec_l6Moved.calls k _ _ l0 0 a1_0 a1_1 t224 t227 _ ?side1 ?side2 A7.out).mono ?_); (case side1 => exact y8_0); (case side2 => exact HC0.out); rintro e w13 ⟨v225, rfl, ho0, hb⟩; refine ⟨_, rfl, ?_⟩; have n0_ := Aside0.mk (Kd.R_lower ho0 (below_size u8_2)); have n1_ := Aside0.mk (blk_below (g := gb221) (o := .cells #[.int .i64 a1_0, .int .i64 a1_1] 28 (0, 0)) u8_7 hb); have n2_ := Aside0.mk (below_step u8_2 hb); clear BK221; clear HB; have HO226 := n0_; have BK221 := n1_; have HB := n2_; clear n0_ n1_ n2_; (try clear hb); (try clear hb2); (try clear hk); (try clear hi); (try clear ho0)))
   go_ret2
   exact ⟨_, by first | rfl | (simp [*] <;> rfl), by (with_reducible repeat (first | apply Kd.R_alloc | apply Kd.R_drewN | apply Kd.R_drew)); exact HO226.out, by repeat (first | (with_reducible first | exact HB.out | apply below_alloc | apply pw_below_drewN | apply below_drew1 | refine below_set ?_ GE221.out) | exact HB.out)⟩
  ·replace c6 := Bool.eq_false_iff.mpr c6
   subst c6
   have H1 : (some ((([] : List (S30))), false)) = some (r1, r2) := by rw [if_neg (show ¬ (false = true) by decide)] at H; exact H
   clear H
   have H := H1
   clear H1
   obtain ⟨y228, hy228⟩ : ∃ y_ : List (S30), y_ = (([] : List (S30))) := ⟨_, rfl⟩
   replace H : (some (y228, false)) = some (r1, r2) := by first | (rw [hy228]; with_reducible exact H) | (have H2_ := (Option.bind_some _ _).symm.trans H; rw [hy228]; with_reducible exact H2_) | (have H2_ := (Option.bind_some _ _).symm.trans H; with_reducible exact H2_) | with_reducible exact H | (rw [hy228]; exact H) | exact H
   have Ny228 := Aside0.mk hy228
   clear hy228
   simp only [Option.some.injEq, Prod.mk.injEq] at H
   obtain ⟨rfl, rfl⟩ := H
   go_enter Try.func44, Try.ntmps44
   go_wp2_with (first | ((with_reducible refine gate_dst (N := 3) rfl ?_); refine box_event ?hg (N := 3) ?hd (cs := #[.int .i64 a1_0, .int .i64 a1_1]) (t := 28) ?hr ?_; (case hd => rfl); (case hg => rfl); (case hr => first | (go_simp; done) | (go_simp; rfl)); intro gb221 hg w14 hbox hb; have n0_ := Aside0.mk (below_step u8_1 hb); have n1_ := Aside0.mk (hbox); have n2_ := Aside0.mk ((by rw [hg]; exact (below_size u8_1) : w.heap.size ≤ gb221)); have n3_ := Aside0.mk ((by rw [hg]; exact (below_size u8_1) : w.heap.size ≤ gb221)); clear HB; have HB := n0_; have BK221 := n1_; have GW221 := n2_; have GE221 := n3_; clear n0_ n1_ n2_ n3_; clear hb hbox hg) | ((with_reducible refine gate_callee (f := 24) rfl ?_); refine goesL_ (some 7) rfl rfl Try.func24 (by kernel_rfl) rfl #[.slice A0 l0.length c0] rfl u8_5 ?_; (with_reducible refine (spec_IsRig.calls k _ _ l0 true _ ?side1 ?side2 A3.out).mono ?_); (case side1 => exact y8_0); (case side2 => exact HC0.out); rintro e w15 ⟨rfl, hb⟩; refine ⟨_, rfl, ?_⟩; have n0_ := Aside0.mk (blk_below (g := gb221) (o := .cells #[.int .i64 a1_0, .int .i64 a1_1] 28 (0, 0)) u8_7 hb); have n1_ := Aside0.mk (below_step u8_2 hb); clear BK221; clear HB; have BK221 := n0_; have HB := n1_; clear n0_ n1_; (try clear hb); (try clear hb2); (try clear hk); (try clear hi); have hcz16_0 : w15.cell? ⟨gb221, 0, none⟩ = some (.int .i64 a1_0) := (blk_cell BK221.out 0).trans rfl; have hcz16_1 : w15.cell? ⟨gb221, 1, none⟩ = some (.int .i64 a1_1) := (blk_cell BK221.out 1).trans rfl; have hfz16_0 := blk_frozen BK221.out 0; have hfz16_1 := blk_frozen BK221.out 1) | (go_at_call 55; (with_reducible refine (spec_IsPlace.calls a1_0 a1_1 false _ A5.out).mono ?_); rintro e w17 ⟨rfl, hb⟩; have n0_ := Aside0.mk (blk_below (g := gb221) (o := .cells #[.int .i64 a1_0, .int .i64 a1_1] 28 (0, 0)) u8_7 hb); have n1_ := Aside0.mk (below_step u8_2 hb); clear BK221; clear HB; have BK221 := n0_; have HB := n1_; clear n0_ n1_; (try clear hb); (try clear hb2); (try clear hk); (try clear hi)) | ((with_reducible refine gate_dst (N := 14) rfl ?_); refine Kd.R_lit k30 _ 30 ?hg (N := 14) ?hd (xs := ([] : List (S30))) (inner := []) (ok := fun _ => True) (okp := fun _ => True) ?hr ?hp (fun _ hk => hk) trivial (Below.refl _ _) (Nat.le_refl _) (by simp) ?_; (case hd => rfl); (case hg => rfl); (case hr => first | (go_simp; done) | (go_simp; rfl)); (case hp => exact (Reps.none _ _)); intro v229 w18 ho19 hb hg_ hnew_; clear hg_ hnew_; (first | rw [← Ny228.out] at ho19 | (simp only [Int.reduceToNat] at ho19; rw [← Ny228.out] at ho19)); have n0_ := Aside0.mk (Kd.R_lower ho19 (below_size u8_2)); have n1_ := Aside0.mk (blk_below (g := gb221) (o := .cells #[.int .i64 a1_0, .int .i64 a1_1] 28 (0, 0)) u8_7 hb); have n2_ := Aside0.mk (below_step u8_2 hb); clear BK221; clear HB; have HO230 := n0_; have BK221 := n1_; have HB := n2_; clear n0_ n1_ n2_; clear hb ho19))
   go_ret2
   exact ⟨_, by first | rfl | (simp [*] <;> rfl), by (with_reducible repeat (first | apply Kd.R_alloc | apply Kd.R_drewN | apply Kd.R_drew)); exact HO230.out, by repeat (first | (with_reducible first | exact HB.out | apply below_alloc | apply pw_below_drewN | apply below_drew1 | refine below_set ?_ GE221.out) | exact HB.out)⟩
 ·replace c4 := Bool.eq_false_iff.mpr c4
  subst c4
  have H1 : (some ((([] : List (S30))), false)) = some (r1, r2) := by rw [if_neg (show ¬ (false = true) by decide)] at H; exact H
  clear H
  have H := H1
  clear H1
  obtain ⟨y231, hy231⟩ : ∃ y_ : List (S30), y_ = (([] : List (S30))) := ⟨_, rfl⟩
  replace H : (some (y231, false)) = some (r1, r2) := by first | (rw [hy231]; with_reducible exact H) | (have H2_ := (Option.bind_some _ _).symm.trans H; rw [hy231]; with_reducible exact H2_) | (have H2_ := (Option.bind_some _ _).symm.trans H; with_reducible exact H2_) | with_reducible exact H | (rw [hy231]; exact H) | exact H
  have Ny231 := Aside0.mk hy231
  clear hy231
  simp only [Option.some.injEq, Prod.mk.injEq] at H
  obtain ⟨rfl, rfl⟩ := H
  go_enter Try.func44, Try.ntmps44
  go_wp2_with (first | ((with_reducible refine gate_dst (N := 3) rfl ?_); refine box_event ?hg (N := 3) ?hd (cs := #[.int .i64 a1_0, .int .i64 a1_1]) (t := 28) ?hr ?_; (case hd => rfl); (case hg => rfl); (case hr => first | (go_simp; done) | (go_simp; rfl)); intro gb221 hg w20 hbox hb; have n0_ := Aside0.mk (below_step u8_1 hb); have n1_ := Aside0.mk (hbox); have n2_ := Aside0.mk ((by rw [hg]; exact (below_size u8_1) : w.heap.size ≤ gb221)); have n3_ := Aside0.mk ((by rw [hg]; exact (below_size u8_1) : w.heap.size ≤ gb221)); clear HB; have HB := n0_; have BK221 := n1_; have GW221 := n2_; have GE221 := n3_; clear n0_ n1_ n2_ n3_; clear hb hbox hg) | ((with_reducible refine gate_callee (f := 24) rfl ?_); refine goesL_ (some 7) rfl rfl Try.func24 (by kernel_rfl) rfl #[.slice A0 l0.length c0] rfl u8_5 ?_; (with_reducible refine (spec_IsRig.calls k _ _ l0 false _ ?side1 ?side2 A3.out).mono ?_); (case side1 => exact y8_0); (case side2 => exact HC0.out); rintro e w21 ⟨rfl, hb⟩; refine ⟨_, rfl, ?_⟩; have n0_ := Aside0.mk (blk_below (g := gb221) (o := .cells #[.int .i64 a1_0, .int .i64 a1_1] 28 (0, 0)) u8_7 hb); have n1_ := Aside0.mk (below_step u8_2 hb); clear BK221; clear HB; have BK221 := n0_; have HB := n1_; clear n0_ n1_; (try clear hb); (try clear hb2); (try clear hk); (try clear hi)) | ((with_reducible refine gate_dst (N := 14) rfl ?_); refine Kd.R_lit k30 _ 30 ?hg (N := 14) ?hd (xs := ([] : List (S30))) (inner := []) (ok := fun _ => True) (okp := fun _ => True) ?hr ?hp (fun _ hk => hk) trivial (Below.refl _ _) (Nat.le_refl _) (by simp) ?_; (case hd => rfl); (case hg => rfl); (case hr => first | (go_simp; done) | (go_simp; rfl)); (case hp => exact (Reps.none _ _)); intro v232 w22 ho23 hb hg_ hnew_; clear hg_ hnew_; (first | rw [← Ny231.out] at ho23 | (simp only [Int.reduceToNat] at ho23; rw [← Ny231.out] at ho23)); have n0_ := Aside0.mk (Kd.R_lower ho23 (below_size u8_2)); have n1_ := Aside0.mk (blk_below (g := gb221) (o := .cells #[.int .i64 a1_0, .int .i64 a1_1] 28 (0, 0)) u8_7 hb); have n2_ := Aside0.mk (below_step u8_2 hb); clear BK221; clear HB; have HO233 := n0_; have BK221 := n1_; have HB := n2_; clear n0_ n1_ n2_; clear hb ho23))
  go_ret2
  exact ⟨_, by first | rfl | (simp [*] <;> rfl), by (with_reducible repeat (first | apply Kd.R_alloc | apply Kd.R_drewN | apply Kd.R_drew)); exact HO233.out, by repeat (first | (with_reducible first | exact HB.out | apply below_alloc | apply pw_below_drewN | apply below_drew1 | refine below_set ?_ GE221.out) | exact HB.out)⟩

def impl_isWithin.f (a0 : Int) (a1 : Int) (a2 : Int) : Option (Bool) := if a1 ≤ a0 then (some (decide (a0 ≤ a2))) else (some false)
set_option maxHeartbeats 8000000 in
set_option maxRecDepth 100000 in
theorem impl_isWithin.calls (a0 : Int) (a1 : Int) (a2 : Int) (r : Bool) (w : World) (h : impl_isWithin.f a0 a1 a2 = some r) :
  Calls Try.prog 59 #[.int .i64 a0, .int .i64 a1, .int .i64 a2] w fun e w' => e = .returned (.bool r) ∧ Drawn0 w w' := by
 have H : (if a1 ≤ a0 then (some (decide (a0 ≤ a2))) else (some false)) = some r := h
 clear h
 by_cases c4 : a1 ≤ a0
 ·rw [if_pos c4] at H
  have c4b0 : decide (a1 ≤ a0) = true := decide_eq_true c4
  clear c4
  obtain rfl := Option.some.inj H
  go_enter Try.func59, Try.ntmps59
  go_wp2
  go_ret
  exact ⟨by first | rfl | (simp; done) | (simp [*]; done), by repeat (first | exact Drawn0.refl _ | apply Drawn0.step)⟩
 ·rw [if_neg c4] at H
  have c4b0 : decide (a1 ≤ a0) = false := decide_eq_false c4
  clear c4
  obtain rfl := Option.some.inj H
  go_enter Try.func59, Try.ntmps59
  go_wp2
  go_ret
  exact ⟨by first | rfl | (simp; done) | (simp [*]; done), by repeat (first | exact Drawn0.refl _ | apply Drawn0.step)⟩

end Go.Proofs.Ytkedcokhcgklpaa.MFnExactShiftRig
