-- Written by a program for this claim.
import Derived.Test.YthofcclbkihemaaDoorMFnExactParseDevicex0
import Derived.Test.YthofcclbkihemaaDoorMFnExactParseDevicex4
import Derived.Test.YthofcclbkihemaaDoorMFnExactParseDevicex5
import Derived.Test.YthofcclbkihemaaDoorMFnExactParseDevicex6
namespace Go.Proofs.YthofcclbkihemaaDoor.MFnExactParseDevice
open Go.RowKit Go.Proofs.YthofcclbkihemaaDoorW.PrintWords Go.Proofs.YthofcclbkihemaaDoorW.PrintLast Go.Proofs.YthofcclbkihemaaDoorW.PrintMore
attribute [local go_sem] max2_int min2_int max_two min_two max_three min_three max_four min_four
set_option linter.unusedVariables false
set_option linter.unusedSimpArgs false
set_option maxHeartbeats 8000000
set_option maxRecDepth 100000

theorem s7_0 {p : Prop} (h : p := by repeat (first | (with_reducible first | exact HB.out | apply below_alloc | apply pw_below_drewN | apply below_drew1 | refine below_set ?_ GE178.out | refine below_set ?_ GE182.out | refine below_set ?_ GE194.out) | exact HB.out)) : p := h
theorem s7_1 {p : Prop} (h : p := by repeat (first | (with_reducible first | exact HB.out | apply below_alloc | apply pw_below_drewN | apply below_drew1 | refine below_set ?_ GE178.out | refine below_set ?_ GE182.out | refine below_set ?_ GE212.out) | exact HB.out)) : p := h
theorem s7_2 {p : Prop} (h : p := by repeat (first | (with_reducible first | exact HB.out | apply below_alloc | apply pw_below_drewN | apply below_drew1 | refine below_set ?_ GE178.out | refine below_set ?_ GE182.out) | exact HB.out)) : p := h
abbrev mk7_0 : Array Bool := #[false, false, false, false, false, false, false, false, false, false, false, false]
abbrev mk7_1 : Array Bool := #[false, false, false, false, false, false, false, false, false]
abbrev mk7_2 : Array Bool := #[true, false, false, false, false, false, false, false, false, false, false, false]
abbrev mk7_3 : Array Bool := #[true, false, false, false, false, false, false, false, false]
abbrev mk7_4 : Array Bool := #[true, true, false, false, false, false, false, false, false, false, false, false]
abbrev mk7_5 : Array Bool := #[true, true, false, false, false, false, false, false, false]
abbrev mk7_6 : Array Bool := #[true, true, false, true, false, false, false, false, false, false, false, false]
abbrev mk7_7 : Array Bool := #[true, true, false, true, false, false, false, false, false]
abbrev mk7_8 : Array Bool := #[true, true, false, true, true, false, false, false, false, false, false, false]
abbrev mk7_9 : Array Bool := #[true, true, false, true, true, false, false, false, false]
abbrev mk7_10 : Array Bool := #[true, true, false, true, true, false, false, true, false, false, false, false]
abbrev mk7_11 : Array Bool := #[true, true, false, true, true, false, false, true, true, false, false, false]
abbrev mk7_12 : Array Bool := #[true, true, false, true, true, false, false, true, true, true, false, false]
abbrev mk7_13 : Array Bool := #[true, true, true, true, true, false, false, false, false]
abbrev mk7_14 : Array Bool := #[true, true, true, true, true, false, false, true, true, true, false, false]
abbrev mk7_15 : Array Bool := #[true, true, true, true, true, true, false, false, false]
abbrev mk7_16 : Array Bool := #[true, true, true, true, true, true, false, true, true, true, false, false]
abbrev mk7_17 : Array Bool := #[true, true, true, true, true, true, true, false, false]
abbrev mk7_18 : Array Bool := #[true, true, true, true, true, true, true, true, false]
abbrev mk7_19 : Array Bool := #[true, true, true, true, true, true, true, true, true, true, false, false]
abbrev mk7_20 : Array Bool := #[true, true, true, true, true, true, true, true, true, true, true, false]
abbrev mk7_21 : Array Bool := #[true, true, true, true, true, true, true, true, true, true, true, true]
abbrev mk7_22 : Array Bool := #[true, true, true, true, true, true, true, true, true]
theorem v7_0 {p : Prop} (h : p := by decide) : p := h
theorem u7_0 {p : Prop} (h : p := by first | exact Kd.own_blk (Kd.R_ne HO_4.out BK182.out v7_0) | (rw [add_block]; exact Kd.own_blk (Kd.R_ne HO_4.out BK182.out v7_0)) | (show (Addr.add _ _).block ≠ _; rw [add_block]; exact Kd.own_blk (Kd.R_ne HO_4.out BK182.out v7_0)) | (dsimp only; exact Kd.own_blk (Kd.R_ne HO_4.out BK182.out v7_0))) : p := h
theorem u7_1 {p : Prop} (h : p := by (with_reducible repeat (first | refine bN ?_ _ | refine bD ?_ | refine bA ?_ _)); refine blk_put (cs := zr6 (⟨#[]⟩ : ByteArray) 0 (⟨#[]⟩ : ByteArray) 0 0 0 0 0) ?_ 7 _ rfl; (with_reducible repeat (first | refine bN ?_ _ | refine bD ?_ | refine bA ?_ _)); refine blk_put (cs := zr6 (⟨#[]⟩ : ByteArray) 0 (⟨#[]⟩ : ByteArray) 0 0 0 0 0) ?_ 6 _ rfl; (with_reducible repeat (first | refine bN ?_ _ | refine bD ?_ | refine bA ?_ _)); refine blk_put (cs := zr6 (⟨#[]⟩ : ByteArray) 0 (⟨#[]⟩ : ByteArray) 0 0 0 0 0) ?_ 5 _ rfl; (with_reducible repeat (first | refine bN ?_ _ | refine bD ?_ | refine bA ?_ _)); refine blk_put (cs := zr6 (⟨#[]⟩ : ByteArray) 0 (⟨#[]⟩ : ByteArray) 0 0 0 0 0) ?_ 4 _ rfl; (with_reducible repeat (first | refine bN ?_ _ | refine bD ?_ | refine bA ?_ _)); refine blk_put (cs := zr6 (⟨#[]⟩ : ByteArray) 0 (⟨#[]⟩ : ByteArray) 0 0 0 0 0) ?_ 3 _ rfl; (with_reducible repeat (first | refine bN ?_ _ | refine bD ?_ | refine bA ?_ _)); refine blk_put (cs := zr6 (⟨#[]⟩ : ByteArray) 0 (⟨#[]⟩ : ByteArray) 0 0 0 0 0) ?_ 2 _ rfl; (with_reducible repeat (first | refine bN ?_ _ | refine bD ?_ | refine bA ?_ _)); refine blk_put (cs := zr6 (⟨#[]⟩ : ByteArray) 0 (⟨#[]⟩ : ByteArray) 0 0 0 0 0) ?_ 1 _ rfl; (with_reducible repeat (first | refine bN ?_ _ | refine bD ?_ | refine bA ?_ _)); refine blk_put (cs := zr6 (⟨#[]⟩ : ByteArray) 0 (⟨#[]⟩ : ByteArray) 0 0 0 0 0) ?_ 0 _ rfl; exact bd BK178.out) : p := h
theorem u7_2 {p : Prop} (h : p := by (with_reducible repeat (first | refine bN ?_ _ | refine bD ?_ | refine bA ?_ _)); refine blk_put (cs := zr6 (⟨#[]⟩ : ByteArray) 0 (⟨#[]⟩ : ByteArray) 0 0 0 0 0) ?_ 7 _ rfl; (with_reducible repeat (first | refine bN ?_ _ | refine bD ?_ | refine bA ?_ _)); refine blk_put (cs := zr6 (⟨#[]⟩ : ByteArray) 0 (⟨#[]⟩ : ByteArray) 0 0 0 0 0) ?_ 6 _ rfl; (with_reducible repeat (first | refine bN ?_ _ | refine bD ?_ | refine bA ?_ _)); refine blk_put (cs := zr6 (⟨#[]⟩ : ByteArray) 0 (⟨#[]⟩ : ByteArray) 0 0 0 0 0) ?_ 5 _ rfl; (with_reducible repeat (first | refine bN ?_ _ | refine bD ?_ | refine bA ?_ _)); refine blk_put (cs := zr6 (⟨#[]⟩ : ByteArray) 0 (⟨#[]⟩ : ByteArray) 0 0 0 0 0) ?_ 4 _ rfl; (with_reducible repeat (first | refine bN ?_ _ | refine bD ?_ | refine bA ?_ _)); refine blk_put (cs := zr6 (⟨#[]⟩ : ByteArray) 0 (⟨#[]⟩ : ByteArray) 0 0 0 0 0) ?_ 3 _ rfl; (with_reducible repeat (first | refine bN ?_ _ | refine bD ?_ | refine bA ?_ _)); refine blk_put (cs := zr6 (⟨#[]⟩ : ByteArray) 0 (⟨#[]⟩ : ByteArray) 0 0 0 0 0) ?_ 2 _ rfl; (with_reducible repeat (first | refine bN ?_ _ | refine bD ?_ | refine bA ?_ _)); refine blk_put (cs := zr6 (⟨#[]⟩ : ByteArray) 0 (⟨#[]⟩ : ByteArray) 0 0 0 0 0) ?_ 1 _ rfl; (with_reducible repeat (first | refine bN ?_ _ | refine bD ?_ | refine bA ?_ _)); refine blk_put (cs := zr6 (⟨#[]⟩ : ByteArray) 0 (⟨#[]⟩ : ByteArray) 0 0 0 0 0) ?_ 0 _ rfl; (with_reducible repeat (first | refine bN ?_ _ | refine bD ?_ | refine bA ?_ _)); refine blk_far ?_ NB178_182.out _; (with_reducible repeat (first | refine bN ?_ _ | refine bD ?_ | refine bA ?_ _)); refine blk_far ?_ NB178_182.out _; (with_reducible repeat (first | refine bN ?_ _ | refine bD ?_ | refine bA ?_ _)); refine blk_far ?_ NB178_182.out _; (with_reducible repeat (first | refine bN ?_ _ | refine bD ?_ | refine bA ?_ _)); refine blk_far ?_ NB178_182.out _; (with_reducible repeat (first | refine bN ?_ _ | refine bD ?_ | refine bA ?_ _)); refine blk_far ?_ NB178_182.out _; (with_reducible repeat (first | refine bN ?_ _ | refine bD ?_ | refine bA ?_ _)); refine blk_far ?_ NB178_182.out _; (with_reducible repeat (first | refine bN ?_ _ | refine bD ?_ | refine bA ?_ _)); refine blk_far ?_ NB178_182.out _; (with_reducible repeat (first | refine bN ?_ _ | refine bD ?_ | refine bA ?_ _)); refine blk_far ?_ NB178_182.out _; exact bd BK178.out) : p := h
theorem u7_3 {p : Prop} (h : p := by (with_reducible repeat (first | refine bN ?_ _ | refine bD ?_ | refine bA ?_ _)); refine blk_far ?_ NB178_182.out _; (with_reducible repeat (first | refine bN ?_ _ | refine bD ?_ | refine bA ?_ _)); refine blk_far ?_ NB178_182.out _; (with_reducible repeat (first | refine bN ?_ _ | refine bD ?_ | refine bA ?_ _)); refine blk_far ?_ NB178_182.out _; (with_reducible repeat (first | refine bN ?_ _ | refine bD ?_ | refine bA ?_ _)); refine blk_far ?_ NB178_182.out _; (with_reducible repeat (first | refine bN ?_ _ | refine bD ?_ | refine bA ?_ _)); refine blk_far ?_ NB178_182.out _; (with_reducible repeat (first | refine bN ?_ _ | refine bD ?_ | refine bA ?_ _)); refine blk_far ?_ NB178_182.out _; (with_reducible repeat (first | refine bN ?_ _ | refine bD ?_ | refine bA ?_ _)); refine blk_far ?_ NB178_182.out _; (with_reducible repeat (first | refine bN ?_ _ | refine bD ?_ | refine bA ?_ _)); refine blk_far ?_ NB178_182.out _; exact bd BK178.out) : p := h
theorem u7_4 {p : Prop} (h : p := by repeat (first | (with_reducible first | exact HB.out | apply below_alloc | apply pw_below_drewN | apply below_drew1 | refine below_set ?_ GE178.out | refine below_set ?_ GE182.out) | exact HB.out)) : p := h
theorem u7_5 {p : Prop} (h : p := by exact bd BK178.out) : p := h
theorem u7_6 {p : Prop} (h : p := by exact bd BK182.out) : p := h
theorem u7_8 {p : Prop} (h : p := by (with_reducible repeat (first | refine bN ?_ _ | refine bD ?_ | refine bA ?_ _)); refine blk_put (cs := zr6 (rdOf ByteArray.empty t179 1) 1 (⟨#[]⟩ : ByteArray) 0 0 0 0 0) ?_ 7 _ rfl; (with_reducible repeat (first | refine bN ?_ _ | refine bD ?_ | refine bA ?_ _)); refine blk_put (cs := zr6 (rdOf ByteArray.empty t179 1) 1 (⟨#[]⟩ : ByteArray) 0 0 0 0 0) ?_ 6 _ rfl; (with_reducible repeat (first | refine bN ?_ _ | refine bD ?_ | refine bA ?_ _)); refine blk_put (cs := zr6 (rdOf ByteArray.empty t179 1) 1 (⟨#[]⟩ : ByteArray) 0 0 0 0 0) ?_ 5 _ rfl; (with_reducible repeat (first | refine bN ?_ _ | refine bD ?_ | refine bA ?_ _)); refine blk_put (cs := zr6 (rdOf ByteArray.empty t179 1) 1 (⟨#[]⟩ : ByteArray) 0 0 0 0 0) ?_ 4 _ rfl; (with_reducible repeat (first | refine bN ?_ _ | refine bD ?_ | refine bA ?_ _)); refine blk_put (cs := zr6 (rdOf ByteArray.empty t179 1) 1 (⟨#[]⟩ : ByteArray) 0 0 0 0 0) ?_ 3 _ rfl; (with_reducible repeat (first | refine bN ?_ _ | refine bD ?_ | refine bA ?_ _)); refine blk_put (cs := zr6 (rdOf ByteArray.empty t179 1) 1 (⟨#[]⟩ : ByteArray) 0 0 0 0 0) ?_ 2 _ rfl; (with_reducible repeat (first | refine bN ?_ _ | refine bD ?_ | refine bA ?_ _)); refine blk_put (cs := zr6 (rdOf ByteArray.empty t179 1) 0 (⟨#[]⟩ : ByteArray) 0 0 0 0 0) ?_ 1 _ rfl; (with_reducible repeat (first | refine bN ?_ _ | refine bD ?_ | refine bA ?_ _)); refine blk_put (cs := zr6 (⟨#[]⟩ : ByteArray) 0 (⟨#[]⟩ : ByteArray) 0 0 0 0 0) ?_ 0 _ rfl; exact bd BK182.out) : p := h
theorem u7_9 {p : Prop} (h : p := by (with_reducible repeat (first | apply Kd.R_alloc | apply Kd.R_drewN | apply Kd.R_drew)); exact HO_4.out) : p := h
theorem u7_10 {p : Prop} (h : p := by (with_reducible repeat (first | refine bN ?_ _ | refine bD ?_ | refine bA ?_ _)); refine blk_put (cs := zr6 (rdOf ByteArray.empty t179 1) 2 (rdOf ByteArray.empty t179 3) t191 t192 t196 t199 0) ?_ 7 _ rfl; refine blk_put (cs := zr6 (rdOf ByteArray.empty t179 1) 2 (rdOf ByteArray.empty t179 3) t191 t192 t196 0 0) ?_ 6 _ rfl; refine blk_put (cs := zr6 (rdOf ByteArray.empty t179 1) 2 (rdOf ByteArray.empty t179 3) t191 t192 0 0 0) ?_ 5 _ rfl; refine blk_put (cs := zr6 (rdOf ByteArray.empty t179 1) 2 (rdOf ByteArray.empty t179 3) t191 0 0 0 0) ?_ 4 _ rfl; refine blk_put (cs := zr6 (rdOf ByteArray.empty t179 1) 2 (rdOf ByteArray.empty t179 3) 0 0 0 0 0) ?_ 3 _ rfl; refine blk_put (cs := zr6 (rdOf ByteArray.empty t179 1) 2 (⟨#[]⟩ : ByteArray) 0 0 0 0 0) ?_ 2 _ rfl; (with_reducible repeat (first | refine bN ?_ _ | refine bD ?_ | refine bA ?_ _)); refine blk_put (cs := zr6 (rdOf ByteArray.empty t179 1) 0 (⟨#[]⟩ : ByteArray) 0 0 0 0 0) ?_ 1 _ rfl; (with_reducible repeat (first | refine bN ?_ _ | refine bD ?_ | refine bA ?_ _)); refine blk_put (cs := zr6 (⟨#[]⟩ : ByteArray) 0 (⟨#[]⟩ : ByteArray) 0 0 0 0 0) ?_ 0 _ rfl; exact bd BK182.out) : p := h
theorem u7_11 {p : Prop} (h : p := by (with_reducible repeat (first | refine bN ?_ _ | refine bD ?_ | refine bA ?_ _)); refine blk_put (cs := zr6 (rdOf ByteArray.empty t179 1) 3 (rdOf ByteArray.empty t179 3) t209 t210 0 0 0) ?_ 7 _ rfl; refine blk_put (cs := zr6 (rdOf ByteArray.empty t179 1) 3 (rdOf ByteArray.empty t179 3) t209 t210 0 0 0) ?_ 6 _ rfl; refine blk_put (cs := zr6 (rdOf ByteArray.empty t179 1) 3 (rdOf ByteArray.empty t179 3) t209 t210 0 0 0) ?_ 5 _ rfl; refine blk_put (cs := zr6 (rdOf ByteArray.empty t179 1) 3 (rdOf ByteArray.empty t179 3) t209 0 0 0 0) ?_ 4 _ rfl; refine blk_put (cs := zr6 (rdOf ByteArray.empty t179 1) 3 (rdOf ByteArray.empty t179 3) 0 0 0 0 0) ?_ 3 _ rfl; refine blk_put (cs := zr6 (rdOf ByteArray.empty t179 1) 3 (⟨#[]⟩ : ByteArray) 0 0 0 0 0) ?_ 2 _ rfl; (with_reducible repeat (first | refine bN ?_ _ | refine bD ?_ | refine bA ?_ _)); refine blk_put (cs := zr6 (rdOf ByteArray.empty t179 1) 0 (⟨#[]⟩ : ByteArray) 0 0 0 0 0) ?_ 1 _ rfl; (with_reducible repeat (first | refine bN ?_ _ | refine bD ?_ | refine bA ?_ _)); refine blk_put (cs := zr6 (⟨#[]⟩ : ByteArray) 0 (⟨#[]⟩ : ByteArray) 0 0 0 0 0) ?_ 0 _ rfl; exact bd BK182.out) : p := h
theorem u7_12 {p : Prop} (h : p := by repeat (first | (with_reducible first | exact HB.out | apply below_alloc | apply pw_below_drewN | apply below_drew1 | refine below_set ?_ GE178.out | refine below_set ?_ GE182.out | refine below_set ?_ GE194.out) | exact HB.out)) : p := h
theorem u7_13 {p : Prop} (h : p := by (try simp only [List.map_toArray, List.map_cons, List.map_nil]); first | done | rfl) : p := h
theorem u7_14 {p : Prop} (h : p := by (with_reducible repeat (first | refine bN ?_ _ | refine bD ?_ | refine bA ?_ _)); refine blk_far ?_ NB212_182.out _; (with_reducible repeat (first | refine bN ?_ _ | refine bD ?_ | refine bA ?_ _)); refine blk_far ?_ NB212_182.out _; (with_reducible repeat (first | refine bN ?_ _ | refine bD ?_ | refine bA ?_ _)); refine blk_far ?_ NB212_182.out _; (with_reducible repeat (first | refine bN ?_ _ | refine bD ?_ | refine bA ?_ _)); refine blk_far ?_ NB212_182.out _; (with_reducible repeat (first | refine bN ?_ _ | refine bD ?_ | refine bA ?_ _)); refine blk_far ?_ NB212_182.out _; (with_reducible repeat (first | refine bN ?_ _ | refine bD ?_ | refine bA ?_ _)); refine blk_far ?_ NB212_182.out _; (with_reducible repeat (first | refine bN ?_ _ | refine bD ?_ | refine bA ?_ _)); refine blk_far ?_ NB212_182.out _; (with_reducible repeat (first | refine bN ?_ _ | refine bD ?_ | refine bA ?_ _)); refine blk_far ?_ NB212_182.out _; exact bd BK212.out) : p := h
theorem u7_15 {p : Prop} (h : p := by (with_reducible repeat (first | refine bN ?_ _ | refine bD ?_ | refine bA ?_ _)); refine blk_far ?_ NB194_182.out _; (with_reducible repeat (first | refine bN ?_ _ | refine bD ?_ | refine bA ?_ _)); refine blk_far ?_ NB194_182.out _; (with_reducible repeat (first | refine bN ?_ _ | refine bD ?_ | refine bA ?_ _)); refine blk_far ?_ NB194_182.out _; (with_reducible repeat (first | refine bN ?_ _ | refine bD ?_ | refine bA ?_ _)); refine blk_far ?_ NB194_182.out _; (with_reducible repeat (first | refine bN ?_ _ | refine bD ?_ | refine bA ?_ _)); refine blk_far ?_ NB194_182.out _; (with_reducible repeat (first | refine bN ?_ _ | refine bD ?_ | refine bA ?_ _)); refine blk_far ?_ NB194_182.out _; (with_reducible repeat (first | refine bN ?_ _ | refine bD ?_ | refine bA ?_ _)); refine blk_far ?_ NB194_182.out _; (with_reducible repeat (first | refine bN ?_ _ | refine bD ?_ | refine bA ?_ _)); refine blk_far ?_ NB194_182.out _; exact bd BK194.out) : p := h
theorem u7_16 {p : Prop} (h : p := by (with_reducible repeat (first | refine bN ?_ _ | refine bD ?_ | refine bA ?_ _)); refine blk_far ?_ NB182_194.out _; (with_reducible repeat (first | refine bN ?_ _ | refine bD ?_ | refine bA ?_ _)); refine blk_far ?_ NB182_194.out _; exact bd BK182.out) : p := h
theorem u7_17 {p : Prop} (h : p := by (with_reducible repeat (first | refine bN ?_ _ | refine bD ?_ | refine bA ?_ _)); refine blk_far ?_ NB178_194.out _; (with_reducible repeat (first | refine bN ?_ _ | refine bD ?_ | refine bA ?_ _)); refine blk_far ?_ NB178_194.out _; exact bd BK178.out) : p := h
theorem u7_18 {p : Prop} (h : p := by (with_reducible repeat (first | apply Kd.R_alloc | apply Kd.R_drewN | apply Kd.R_drew)); exact (Kd.R_mono (Kd.R_far (p := ⟨gb182, 7, none⟩) (Kd.R_far (p := ⟨gb182, 6, none⟩) (Kd.R_far (p := ⟨gb182, 5, none⟩) (Kd.R_far (p := ⟨gb182, 4, none⟩) (Kd.R_far (p := ⟨gb182, 3, none⟩) (Kd.R_far (p := ⟨gb182, 2, none⟩) (Kd.R_far (p := ⟨gb182, 1, none⟩) (Kd.R_far (p := ⟨gb182, 0, none⟩) (Kd.R_types HO_4.out BK182.out v7_0) (fun _ hk => hk.2) (.string (rdOf ByteArray.empty t179 1))) (fun _ hk => hk.2) (.int .i64 2)) (fun _ hk => hk.2) (.string (rdOf ByteArray.empty t179 3))) (fun _ hk => hk.2) (.int .i64 t191)) (fun _ hk => hk.2) (.int .i64 t192)) (fun _ hk => hk.2) (.int .i64 t196)) (fun _ hk => hk.2) (.int .i64 t199)) (fun _ hk => hk.2) (.int .i64 t202)) (fun _ h_ => h_.1))) : p := h
theorem u7_19 {p : Prop} (h : p := by (with_reducible repeat (first | apply Kd.R_alloc | apply Kd.R_drewN | apply Kd.R_drew)); exact (Kd.R_mono (Kd.R_far (p := ⟨gb182, 7, none⟩) (Kd.R_far (p := ⟨gb182, 6, none⟩) (Kd.R_far (p := ⟨gb182, 5, none⟩) (Kd.R_far (p := ⟨gb182, 4, none⟩) (Kd.R_far (p := ⟨gb182, 3, none⟩) (Kd.R_far (p := ⟨gb182, 2, none⟩) (Kd.R_far (p := ⟨gb182, 1, none⟩) (Kd.R_far (p := ⟨gb182, 0, none⟩) (Kd.R_types HO_4.out BK182.out v7_0) (fun _ hk => hk.2) (.string (rdOf ByteArray.empty t179 1))) (fun _ hk => hk.2) (.int .i64 3)) (fun _ hk => hk.2) (.string (rdOf ByteArray.empty t179 3))) (fun _ hk => hk.2) (.int .i64 t209)) (fun _ hk => hk.2) (.int .i64 t210)) (fun _ hk => hk.2) (.int .i64 0)) (fun _ hk => hk.2) (.int .i64 0)) (fun _ hk => hk.2) (.int .i64 0)) (fun _ h_ => h_.1))) : p := h
theorem u7_20 {p : Prop} (h : p := by (with_reducible repeat (first | apply Kd.R_alloc | apply Kd.R_drewN | apply Kd.R_drew)); exact (Kd.R_mono (Kd.R_far (p := ⟨gb182, 7, none⟩) (Kd.R_far (p := ⟨gb182, 6, none⟩) (Kd.R_far (p := ⟨gb182, 5, none⟩) (Kd.R_far (p := ⟨gb182, 4, none⟩) (Kd.R_far (p := ⟨gb182, 3, none⟩) (Kd.R_far (p := ⟨gb182, 2, none⟩) (Kd.R_far (p := ⟨gb182, 1, none⟩) (Kd.R_far (p := ⟨gb182, 0, none⟩) (Kd.R_types HO_4.out BK182.out v7_0) (fun _ hk => hk.2) (.string (rdOf ByteArray.empty t179 1))) (fun _ hk => hk.2) (.int .i64 1)) (fun _ hk => hk.2) (.string (⟨#[]⟩ : ByteArray))) (fun _ hk => hk.2) (.int .i64 0)) (fun _ hk => hk.2) (.int .i64 0)) (fun _ hk => hk.2) (.int .i64 0)) (fun _ hk => hk.2) (.int .i64 0)) (fun _ hk => hk.2) (.int .i64 t185)) (fun _ h_ => h_.1))) : p := h
theorem u7_21 {p : Prop} (h : p := by (with_reducible repeat (first | refine bN ?_ _ | refine bD ?_ | refine bA ?_ _)); refine blk_put (cs := zr4 t191 0) ?_ 1 _ rfl; refine blk_put (cs := zr4 0 0) ?_ 0 _ rfl; exact bd BK194.out) : p := h
theorem u7_22 {p : Prop} (h : p := by repeat (first | (with_reducible first | exact HB.out | apply below_alloc | apply pw_below_drewN | apply below_drew1 | refine below_set ?_ GE178.out) | exact HB.out)) : p := h
theorem u7_23 {p : Prop} (h : p := by (with_reducible repeat (first | apply Kd.R_alloc | apply Kd.R_drewN | apply Kd.R_drew)); exact (Kd.R_mono (Kd.R_far (p := ⟨gb194, 1, none⟩) (Kd.R_far (p := ⟨gb194, 0, none⟩) (Kd.R_types HO_4.out BK194.out v7_0) (fun _ hk => hk.2) (.int .i64 t191)) (fun _ hk => hk.2) (.int .i64 t192)) (fun _ h_ => h_.1))) : p := h
theorem u7_24 {p : Prop} (h : p := by assumption) : p := h
theorem u7_25 {p : Prop} (h : p := by repeat (first | (with_reducible first | exact HB.out | apply below_alloc | apply pw_below_drewN | apply below_drew1) | exact HB.out)) : p := h
theorem u7_26 {p : Prop} (h : p := by first | (rw [add_block]; exact hn198_1) | (show (Addr.add _ _).block ≠ _; rw [add_block]; exact hn198_1) | exact hn198_1) : p := h
theorem u7_27 {p : Prop} (h : p := by first | (rw [add_block]; exact hn198_0) | (show (Addr.add _ _).block ≠ _; rw [add_block]; exact hn198_0) | exact hn198_0) : p := h
theorem u7_28 {p : Prop} (h : p := by first | (rw [add_block]; exact hn195_1) | (show (Addr.add _ _).block ≠ _; rw [add_block]; exact hn195_1) | exact hn195_1) : p := h
theorem u7_29 {p : Prop} (h : p := by first | (rw [add_block]; exact hn195_0) | (show (Addr.add _ _).block ≠ _; rw [add_block]; exact hn195_0) | exact hn195_0) : p := h
theorem u7_30 {p : Prop} (h : p := by exact bd BK194.out) : p := h
theorem u7_31 {p : Prop} (h : p := by first | rfl | (simp; done) | (simp [*]; done)) : p := h
theorem u7_32 {p : Prop} (h : p := by repeat (first | (with_reducible first | exact HB.out | apply below_alloc | apply pw_below_drewN | apply below_drew1 | refine below_set ?_ GE178.out | refine below_set ?_ GE182.out | refine below_set ?_ GE212.out) | exact HB.out)) : p := h
/-! ### impl_ParseDevice: function 19 -/
mutual
def impl_ParseDevice.j0 : Nat → ByteArray → List ByteArray → Bool → ByteArray → Int → ByteArray → Int → Int → Int → Int → Int → Option (ByteArray × Int × ByteArray × Int × Int × Int × Int × Int × Bool)
 | 0, _, _, _, _, _, _, _, _, _, _, _ => none
 | k + 1, x0, x4, x21, x183000, x183001, x183002, x183003, x183004, x183005, x183006, x183007 => if x21 = true then (if 3 < (x4.length : Int) then ((impl_ParseMeasure.f k (rdOf ByteArray.empty x4 3)).bind fun bt185 => (if 1 < (x4.length : Int) then (if x0.toList = ([] : List UInt8) then (some ((⟨#[]⟩ : ByteArray), 0, (⟨#[]⟩ : ByteArray), 0, 0, 0, 0, 0, false)) else ((impl_FormatDevice.f k (rdOf ByteArray.empty x4 1) 1 (⟨#[]⟩ : ByteArray) 0 0 0 0 bt185.1).bind fun t188 => (if t188.toList = x0.toList then (some (rdOf ByteArray.empty x4 1, 1, (⟨#[]⟩ : ByteArray), 0, 0, 0, 0, bt185.1, true)) else (some ((⟨#[]⟩ : ByteArray), 0, (⟨#[]⟩ : ByteArray), 0, 0, 0, 0, 0, false))))) else (none))) else (none)) else (if (x4.length : Int) = 12 then (if 0 < (x4.length : Int) then (impl_ParseDevice.j1 k x0 x4 ((rdOf ByteArray.empty x4 0).toList == ([110, 111, 122, 122, 108, 101] : List UInt8)) x183000 x183001 x183002 x183003 x183004 x183005 x183006 x183007) else (none)) else (impl_ParseDevice.j1 k x0 x4 false x183000 x183001 x183002 x183003 x183004 x183005 x183006 x183007))
def impl_ParseDevice.j1 : Nat → ByteArray → List ByteArray → Bool → ByteArray → Int → ByteArray → Int → Int → Int → Int → Int → Option (ByteArray × Int × ByteArray × Int × Int × Int × Int × Int × Bool)
 | 0, _, _, _, _, _, _, _, _, _, _, _ => none
 | k + 1, x0, x4, x43, x183000, x183001, x183002, x183003, x183004, x183005, x183006, x183007 => if x43 = true then (if 5 < (x4.length : Int) then ((impl_ParsePlace.f k (rdOf ByteArray.empty x4 5)).bind fun bt191 => (if 7 < (x4.length : Int) then ((impl_ParseNumber.f k (rdOf ByteArray.empty x4 7)).bind fun bt196 => (if 9 < (x4.length : Int) then ((impl_ParseMeasure.f k (rdOf ByteArray.empty x4 9)).bind fun bt199 => (if 11 < (x4.length : Int) then ((impl_ParseMeasure.f k (rdOf ByteArray.empty x4 11)).bind fun bt202 => (if 1 < (x4.length : Int) then (if 3 < (x4.length : Int) then (if x0.toList = ([] : List UInt8) then (some ((⟨#[]⟩ : ByteArray), 0, (⟨#[]⟩ : ByteArray), 0, 0, 0, 0, 0, false)) else ((impl_FormatDevice.f k (rdOf ByteArray.empty x4 1) 2 (rdOf ByteArray.empty x4 3) bt191.1 bt191.2.1 bt196.1 bt199.1 bt202.1).bind fun t206 => (if t206.toList = x0.toList then (some (rdOf ByteArray.empty x4 1, 2, rdOf ByteArray.empty x4 3, bt191.1, bt191.2.1, bt196.1, bt199.1, bt202.1, true)) else (some ((⟨#[]⟩ : ByteArray), 0, (⟨#[]⟩ : ByteArray), 0, 0, 0, 0, 0, false))))) else (none)) else (none))) else (none))) else (none))) else (none))) else (none)) else (if (x4.length : Int) = 6 then (if 0 < (x4.length : Int) then (impl_ParseDevice.j2 k x0 x4 ((rdOf ByteArray.empty x4 0).toList == ([108, 97, 109, 112] : List UInt8)) x183000 x183001 x183002 x183003 x183004 x183005 x183006 x183007) else (none)) else (impl_ParseDevice.j2 k x0 x4 false x183000 x183001 x183002 x183003 x183004 x183005 x183006 x183007))
def impl_ParseDevice.j2 : Nat → ByteArray → List ByteArray → Bool → ByteArray → Int → ByteArray → Int → Int → Int → Int → Int → Option (ByteArray × Int × ByteArray × Int × Int × Int × Int × Int × Bool)
 | 0, _, _, _, _, _, _, _, _, _, _, _ => none
 | k + 1, x0, x4, x92, x183000, x183001, x183002, x183003, x183004, x183005, x183006, x183007 => if x92 = true then (if 5 < (x4.length : Int) then ((impl_ParsePlace.f k (rdOf ByteArray.empty x4 5)).bind fun bt209 => (if 1 < (x4.length : Int) then (if 3 < (x4.length : Int) then (if x0.toList = ([] : List UInt8) then (some ((⟨#[]⟩ : ByteArray), 0, (⟨#[]⟩ : ByteArray), 0, 0, 0, 0, 0, false)) else ((impl_FormatDevice.f k (rdOf ByteArray.empty x4 1) 3 (rdOf ByteArray.empty x4 3) bt209.1 bt209.2.1 0 0 0).bind fun t215 => (if t215.toList = x0.toList then (some (rdOf ByteArray.empty x4 1, 3, rdOf ByteArray.empty x4 3, bt209.1, bt209.2.1, 0, 0, 0, true)) else (some ((⟨#[]⟩ : ByteArray), 0, (⟨#[]⟩ : ByteArray), 0, 0, 0, 0, 0, false))))) else (none)) else (none))) else (none)) else (if x0.toList = ([] : List UInt8) then (some ((⟨#[]⟩ : ByteArray), 0, (⟨#[]⟩ : ByteArray), 0, 0, 0, 0, 0, false)) else ((impl_FormatDevice.f k x183000 x183001 x183002 x183003 x183004 x183005 x183006 x183007).bind fun t216 => (if t216.toList = x0.toList then (some (x183000, x183001, x183002, x183003, x183004, x183005, x183006, x183007, true)) else (some ((⟨#[]⟩ : ByteArray), 0, (⟨#[]⟩ : ByteArray), 0, 0, 0, 0, 0, false)))))
end
def impl_ParseDevice.f (k : Nat) (a0 : ByteArray) : Option (ByteArray × Int × ByteArray × Int × Int × Int × Int × Int × Bool) := (impl_SplitAt.f a0 (⟨#[32]⟩ : ByteArray)).bind fun t179 => (if (t179.length : Int) = 4 then (if 0 < (t179.length : Int) then (impl_ParseDevice.j0 k a0 t179 ((rdOf ByteArray.empty t179 0).toList == ([112, 117, 109, 112] : List UInt8)) (⟨#[]⟩ : ByteArray) 0 (⟨#[]⟩ : ByteArray) 0 0 0 0 0) else (none)) else (impl_ParseDevice.j0 k a0 t179 false (⟨#[]⟩ : ByteArray) 0 (⟨#[]⟩ : ByteArray) 0 0 0 0 0))
theorem impl_ParseDevice.mono_l : ∀ k, (∀ y0 y1 y2 y3 y4 y5 y6 y7 y8 y9 y10, LeO (impl_ParseDevice.j0 k y0 y1 y2 y3 y4 y5 y6 y7 y8 y9 y10) (impl_ParseDevice.j0 (k + 1) y0 y1 y2 y3 y4 y5 y6 y7 y8 y9 y10)) ∧ (∀ y0 y1 y2 y3 y4 y5 y6 y7 y8 y9 y10, LeO (impl_ParseDevice.j1 k y0 y1 y2 y3 y4 y5 y6 y7 y8 y9 y10) (impl_ParseDevice.j1 (k + 1) y0 y1 y2 y3 y4 y5 y6 y7 y8 y9 y10)) ∧ (∀ y0 y1 y2 y3 y4 y5 y6 y7 y8 y9 y10, LeO (impl_ParseDevice.j2 k y0 y1 y2 y3 y4 y5 y6 y7 y8 y9 y10) (impl_ParseDevice.j2 (k + 1) y0 y1 y2 y3 y4 y5 y6 y7 y8 y9 y10))
 | 0 => ⟨fun _ _ _ _ _ _ _ _ _ _ _ r h => by simp [impl_ParseDevice.j0] at h, fun _ _ _ _ _ _ _ _ _ _ _ r h => by simp [impl_ParseDevice.j1] at h, fun _ _ _ _ _ _ _ _ _ _ _ r h => by simp [impl_ParseDevice.j2] at h⟩
 | k + 1 => by
  obtain ⟨ih0, ih1, ih2⟩ := impl_ParseDevice.mono_l k
  refine ⟨?_, ?_, ?_⟩
  ·intro y0 y1 y2 y3 y4 y5 y6 y7 y8 y9 y10
   unfold impl_ParseDevice.j0
   repeat' first
   | (with_reducible exact ih0 _ _ _ _ _ _ _ _ _ _ _)
   | (with_reducible exact ih1 _ _ _ _ _ _ _ _ _ _ _)
   | (with_reducible exact ih2 _ _ _ _ _ _ _ _ _ _ _)
   | (with_reducible exact impl_FormatDevice.mono _ _ _ _ _ _ _ _ _)
   | (with_reducible exact impl_ParseMeasure.mono _ _)
   | (with_reducible exact impl_ParseNumber.mono _ _)
   | (with_reducible exact impl_ParsePlace.mono _ _)
   | (with_reducible exact LeO.refl _)
   | (with_reducible exact LeO.none _)
   | (with_reducible refine LeO.ite ?_ ?_)
   | (with_reducible refine LeO.bind ?_ (fun _ => ?_))
  ·intro y0 y1 y2 y3 y4 y5 y6 y7 y8 y9 y10
   unfold impl_ParseDevice.j1
   repeat' first
   | (with_reducible exact ih0 _ _ _ _ _ _ _ _ _ _ _)
   | (with_reducible exact ih1 _ _ _ _ _ _ _ _ _ _ _)
   | (with_reducible exact ih2 _ _ _ _ _ _ _ _ _ _ _)
   | (with_reducible exact impl_FormatDevice.mono _ _ _ _ _ _ _ _ _)
   | (with_reducible exact impl_ParseMeasure.mono _ _)
   | (with_reducible exact impl_ParseNumber.mono _ _)
   | (with_reducible exact impl_ParsePlace.mono _ _)
   | (with_reducible exact LeO.refl _)
   | (with_reducible exact LeO.none _)
   | (with_reducible refine LeO.ite ?_ ?_)
   | (with_reducible refine LeO.bind ?_ (fun _ => ?_))
  ·intro y0 y1 y2 y3 y4 y5 y6 y7 y8 y9 y10
   unfold impl_ParseDevice.j2
   repeat' first
   | (with_reducible exact ih0 _ _ _ _ _ _ _ _ _ _ _)
   | (with_reducible exact ih1 _ _ _ _ _ _ _ _ _ _ _)
   | (with_reducible exact ih2 _ _ _ _ _ _ _ _ _ _ _)
   | (with_reducible exact impl_FormatDevice.mono _ _ _ _ _ _ _ _ _)
   | (with_reducible exact impl_ParseMeasure.mono _ _)
   | (with_reducible exact impl_ParseNumber.mono _ _)
   | (with_reducible exact impl_ParsePlace.mono _ _)
   | (with_reducible exact LeO.refl _)
   | (with_reducible exact LeO.none _)
   | (with_reducible refine LeO.ite ?_ ?_)
   | (with_reducible refine LeO.bind ?_ (fun _ => ?_))
theorem impl_ParseDevice.mono : ∀ a0 k, LeO (impl_ParseDevice.f k a0) (impl_ParseDevice.f (k + 1) a0) := by
 intro a0 k
 obtain ⟨ih0, ih1, ih2⟩ := impl_ParseDevice.mono_l k
 unfold impl_ParseDevice.f
 repeat' first
   | (with_reducible exact ih0 _ _ _ _ _ _ _ _ _ _ _)
   | (with_reducible exact ih1 _ _ _ _ _ _ _ _ _ _ _)
   | (with_reducible exact ih2 _ _ _ _ _ _ _ _ _ _ _)
   | (with_reducible exact impl_FormatDevice.mono _ _ _ _ _ _ _ _ _)
   | (with_reducible exact impl_ParseMeasure.mono _ _)
   | (with_reducible exact impl_ParseNumber.mono _ _)
   | (with_reducible exact impl_ParsePlace.mono _ _)
   | (with_reducible exact LeO.refl _)
   | (with_reducible exact LeO.none _)
   | (with_reducible refine LeO.ite ?_ ?_)
   | (with_reducible refine LeO.bind ?_ (fun _ => ?_))
def impl_ParseDevice.T11 : Bool × List (List Nat × List Nat) := (true, [([], []), ([0], [0]), ([1], [1]), ([], []), ([3], [3]), ([4], [4]), ([], []), ([], []), ([], []), ([], []), ([2, 5, 6, 7, 8, 9], [2, 5, 6, 7, 8, 9]), ([10, 0, 1, 2, 3, 4, 5, 6, 7, 8, 9, 10], [10])])
def impl_ParseDevice.B11 : List Nat := [0, 1, 3, 0, 8, 24, 0, 0, 0, 0, 1023, 2047]
theorem impl_ParseDevice.tab11 : rtab .any (opsOf Tryd.f19 11) = impl_ParseDevice.T11 := by kernel_rfl
theorem impl_ParseDevice.bits11 : waitsOk impl_ParseDevice.T11.2 impl_ParseDevice.B11 = true := by kernel_rfl
def impl_ParseDevice.T14 : Bool × List (List Nat × List Nat) := (true, [([], []), ([0], [0]), ([1], [1]), ([], []), ([3], [3]), ([4], [4]), ([], []), ([2, 5, 6], [2, 5, 6]), ([7, 0, 1, 2, 3, 4, 5, 6, 7], [7])])
def impl_ParseDevice.B14 : List Nat := [0, 1, 3, 0, 8, 24, 0, 127, 255]
theorem impl_ParseDevice.tab14 : rtab .any (opsOf Tryd.f19 14) = impl_ParseDevice.T14 := by kernel_rfl
theorem impl_ParseDevice.bits14 : waitsOk impl_ParseDevice.T14.2 impl_ParseDevice.B14 = true := by kernel_rfl
theorem impl_ParseDevice.calls (k : Nat) (a0 : ByteArray) (r1 : ByteArray) (r2 : Int) (r3 : ByteArray) (r4 : Int) (r5 : Int) (r6 : Int) (r7 : Int) (r8 : Int) (r9 : Bool) (w : World) (h : impl_ParseDevice.f k a0 = some (r1, r2, r3, r4, r5, r6, r7, r8, r9)) (hT : Ty.TabP w := by first | exact hT | exact Ty.TabP.below hT (by repeat (first | (with_reducible first | exact HB.out | apply below_alloc | apply pw_below_drewN | apply below_drew1 | refine below_set ?_ (Aside0.out u7_24)) | exact HB.out)) | (repeat (first | exact hT | apply Ty.TabP.drewN))) :
  Calls Tryd.prog 19 #[.string a0] w fun e w' => e = .returned (.tuple #[.agg #[.string r1, .int .i64 r2, .string r3, .int .i64 r4, .int .i64 r5, .int .i64 r6, .int .i64 r7, .int .i64 r8], .bool r9]) ∧ Below w.heap.size w w' := by
 have hu38 := Tryd.underlying38
 have hu36 := Tryd.underlying36
 have HB := am (Below.refl w.heap.size w)
 have H : ((impl_SplitAt.f a0 (⟨#[32]⟩ : ByteArray)).bind fun t179 => (if (t179.length : Int) = 4 then (if 0 < (t179.length : Int) then (impl_ParseDevice.j0 k a0 t179 ((rdOf ByteArray.empty t179 0).toList == ([112, 117, 109, 112] : List UInt8)) (⟨#[]⟩ : ByteArray) 0 (⟨#[]⟩ : ByteArray) 0 0 0 0 0) else (none)) else (impl_ParseDevice.j0 k a0 t179 false (⟨#[]⟩ : ByteArray) 0 (⟨#[]⟩ : ByteArray) 0 0 0 0 0))) = some (r1, r2, r3, r4, r5, r6, r7, r8, r9) := h
 clear h
 replace H := ob H
 obtain ⟨t179, A20, H⟩ := H
 replace H : (if (t179.length : Int) = 4 then (if 0 < (t179.length : Int) then (impl_ParseDevice.j0 k a0 t179 ((rdOf ByteArray.empty t179 0).toList == ([112, 117, 109, 112] : List UInt8)) (⟨#[]⟩ : ByteArray) 0 (⟨#[]⟩ : ByteArray) 0 0 0 0 0) else (none)) else (impl_ParseDevice.j0 k a0 t179 false (⟨#[]⟩ : ByteArray) 0 (⟨#[]⟩ : ByteArray) 0 0 0 0 0)) = some (r1, r2, r3, r4, r5, r6, r7, r8, r9) := H
 have A2 := am A20
 clear A20
 have HC3 := am H
 clear H
 go_enter Tryd.func19, Tryd.ntmps19
 go_upto_region 3 with (first | ((with_reducible refine gate_dst (N := 2) rfl ?_); refine box_event ?hg (N := 2) ?hd (cs := #[.string (⟨#[]⟩ : ByteArray), .int .i64 0, .string (⟨#[]⟩ : ByteArray), .int .i64 0, .int .i64 0, .int .i64 0, .int .i64 0, .int .i64 0]) (t := 38) ?hr ?_; (case hd => rfl); (case hg => rfl); (case hr => exact gq); intro gb178 hg w4 hbox hb; have n0_ := am (below_step u7_25 hb); have n1_ := am (hbox); have n2_ := bsw w hg (below_size u7_25); have n3_ := bsw w hg (below_size u7_25); clear HB; have HB := n0_; have BK178 := n1_; have GW178 := n2_; have GE178 := n3_; clear n0_ n1_ n2_ n3_ hb hbox hg) | ((with_reducible refine gate_callee (f := 36) rfl ?_); refine goesL_ (some 19) rfl rfl Tryd.func36 (by kernel_rfl) rfl #[.string a0, .string (⟨#[32]⟩ : ByteArray)] rfl u7_13 ?_; (with_reducible refine (impl_SplitAt.calls a0 (⟨#[32]⟩ : ByteArray) t179 _ A2.out).mono ?_); rintro e w5 ⟨v180, rfl, ho0, hb⟩; refine ⟨_, rfl, ?_⟩; have n0_ := am (Kd.R_lower ho0 (below_size u7_22)); have n1_ := am (blk_below (g := gb178) (o := zo0 (⟨#[]⟩ : ByteArray) 0 (⟨#[]⟩ : ByteArray) 0 0 0 0 0) u7_5 hb); have n2_ := am (below_step u7_22 hb); clear BK178 HB; have HO181 := n0_; have BK178 := n1_; have HB := n2_; clear n0_ n1_ n2_; (try clear hb); (try clear hb2); (try clear hk); (try clear hi); (try clear ho0)) | ((with_reducible refine gate_dst (N := 5) rfl ?_); refine box_event ?hg (N := 5) ?hd (cs := #[.string (⟨#[]⟩ : ByteArray), .int .i64 0, .string (⟨#[]⟩ : ByteArray), .int .i64 0, .int .i64 0, .int .i64 0, .int .i64 0, .int .i64 0]) (t := 38) ?hr ?_; (case hd => rfl); (case hg => rfl); (case hr => exact gq); intro gb182 hg w6 hbox hb; have n0_ := am (Kd.R_below (by (with_reducible repeat (first | apply Kd.R_alloc | apply Kd.R_drewN | apply Kd.R_drew)); exact HO181.out) hb); have n1_ := am (blk_below (g := gb178) (o := zo0 (⟨#[]⟩ : ByteArray) 0 (⟨#[]⟩ : ByteArray) 0 0 0 0 0) u7_5 hb); have n2_ := am (below_step u7_22 hb); have n3_ := am (hbox); have n4_ := bsw w hg (below_size u7_22); have n5_ := bsw w hg (below_size u7_22); have n6_ := am ((by rw [hg]; exact Nat.ne_of_lt (blk_lt (g := gb178) (o := zo0 (⟨#[]⟩ : ByteArray) 0 (⟨#[]⟩ : ByteArray) 0 0 0 0 0) u7_5) : gb178 ≠ gb182)); have n7_ := am ((by rw [hg]; exact Nat.ne_of_gt (blk_lt (g := gb178) (o := zo0 (⟨#[]⟩ : ByteArray) 0 (⟨#[]⟩ : ByteArray) 0 0 0 0 0) u7_5) : gb182 ≠ gb178)); clear HO181 BK178 HB; have HO181 := n0_; have BK178 := n1_; have HB := n2_; have BK182 := n3_; have GW182 := n4_; have GE182 := n5_; have NB178_182 := n6_; have NB182_178 := n7_; clear n0_ n1_ n2_ n3_ n4_ n5_ n6_ n7_ hb hbox hg; have hnb7 := NB182_178.out; have hnc7 := NB178_182.out; obtain ⟨hcz8_0, hcz8_1, hcz8_2, hcz8_3, hcz8_4, hcz8_5, hcz8_6, hcz8_7, hfz8_0, hfz8_1, hfz8_2, hfz8_3, hfz8_4, hfz8_5, hfz8_6, hfz8_7⟩ := cf8 BK182.out))
 (try simp only [Act.put, List.setIfInBounds_toArray, List.set_cons_zero, List.set_cons_succ])
 go_cut [21] (fun v21 wc => ∃ (kq : Nat) (x21_2 : Bool), v21 = .bool x21_2 ∧ Aside0 (impl_ParseDevice.j0 kq a0 t179 x21_2 (⟨#[]⟩ : ByteArray) 0 (⟨#[]⟩ : ByteArray) 0 0 0 0 0 = some (r1, r2, r3, r4, r5, r6, r7, r8, r9)) ∧ Aside0 (kq ≤ k) ∧ Aside0 (Kd.R Kd.string 9 wc w.heap.size (fun _ => True) v180 t179) ∧ Aside0 (wc.heap[gb178]? = some (.cells #[.string (⟨#[]⟩ : ByteArray), .int .i64 0, .string (⟨#[]⟩ : ByteArray), .int .i64 0, .int .i64 0, .int .i64 0, .int .i64 0, .int .i64 0] 38 (0, 0))) ∧ Aside0 (wc.heap[gb182]? = some (.cells #[.string (⟨#[]⟩ : ByteArray), .int .i64 0, .string (⟨#[]⟩ : ByteArray), .int .i64 0, .int .i64 0, .int .i64 0, .int .i64 0, .int .i64 0] 38 (0, 0))) ∧ Aside0 (Below w.heap.size w wc))
 case first =>
  have H := HC3.out
  clear HC3
  by_cases c9 : (t179.length : Int) = 4
  ·rw [if_pos c9] at H
   have c9b0 : ((t179.length : Int) == 4) = true := beq_iff_eq.mpr c9
   have c9b1 : ((t179.length : Int) != 4) = false := bne_eq_false_iff_eq.mpr c9
   clear c9
   (first | rw [c9b0] | (simp only [i64_w, i32_w]; rw [c9b0]) | skip)
   by_cases c10 : 0 < (t179.length : Int)
   ·rw [if_pos c10] at H
    have c10b0 : decide (0 < (t179.length : Int)) = true := decide_eq_true c10
    have c10b1 : decide (0 < t179.length) = true := decide_eq_true (by omega)
    clear c10
    have H' := am H
    clear H
    obtain ⟨Ao11, co11, eo11⟩ := Kd.R_slice HO181.out
    subst eo11
    have p183 : 0 ≤ (0 : Int) := (by omega)
    have q183 : 0 < (t179.length : Int) := od u7_24
    obtain ⟨ad183, e183, hx183_0⟩ := Kd.at_string (Kd.R_reads' HO181.out).2.2 0 p183 q183
    cases e183
    have qi183 : (0 < t179.length) = True := eq_true (by omega)
    (try rw [show ((0 : Int)).toNat = 0 from rfl] at hx183_0)
    (try rw [Addr.add_zero'] at hx183_0)
    have hn183_0 : ad183.block ≠ gb182 := Kd.own_blk (Kd.R_ne HO181.out BK182.out v7_0)
    have hn183_1 : ad183.block ≠ gb182 := Kd.own_blk (Kd.R_ne HO181.out BK182.out v7_0)
    have hn183_2 : ad183.block ≠ gb182 := Kd.own_blk (Kd.R_ne HO181.out BK182.out v7_0)
    have hn183_3 : ad183.block ≠ gb182 := Kd.own_blk (Kd.R_ne HO181.out BK182.out v7_0)
    have hn183_4 : ad183.block ≠ gb182 := Kd.own_blk (Kd.R_ne HO181.out BK182.out v7_0)
    have hn183_5 : ad183.block ≠ gb182 := Kd.own_blk (Kd.R_ne HO181.out BK182.out v7_0)
    have hn183_6 : ad183.block ≠ gb182 := Kd.own_blk (Kd.R_ne HO181.out BK182.out v7_0)
    have hn183_7 : ad183.block ≠ gb182 := Kd.own_blk (Kd.R_ne HO181.out BK182.out v7_0)
    replace hx183_0 := (cell_far (p := ⟨gb182, 0, none⟩) (by first | (rw [add_block]; exact hn183_0) | (show (Addr.add _ _).block ≠ _; rw [add_block]; exact hn183_0) | exact hn183_0) (.string (⟨#[]⟩ : ByteArray))).trans hx183_0
    replace hx183_0 := (cell_far (p := ⟨gb182, 1, none⟩) (by first | (rw [add_block]; exact hn183_1) | (show (Addr.add _ _).block ≠ _; rw [add_block]; exact hn183_1) | exact hn183_1) (.int .i64 0)).trans hx183_0
    replace hx183_0 := (cell_far (p := ⟨gb182, 2, none⟩) (by first | (rw [add_block]; exact hn183_2) | (show (Addr.add _ _).block ≠ _; rw [add_block]; exact hn183_2) | exact hn183_2) (.string (⟨#[]⟩ : ByteArray))).trans hx183_0
    replace hx183_0 := (cell_far (p := ⟨gb182, 3, none⟩) (by first | (rw [add_block]; exact hn183_3) | (show (Addr.add _ _).block ≠ _; rw [add_block]; exact hn183_3) | exact hn183_3) (.int .i64 0)).trans hx183_0
    replace hx183_0 := (cell_far (p := ⟨gb182, 4, none⟩) (by first | (rw [add_block]; exact hn183_4) | (show (Addr.add _ _).block ≠ _; rw [add_block]; exact hn183_4) | exact hn183_4) (.int .i64 0)).trans hx183_0
    replace hx183_0 := (cell_far (p := ⟨gb182, 5, none⟩) (by first | (rw [add_block]; exact hn183_5) | (show (Addr.add _ _).block ≠ _; rw [add_block]; exact hn183_5) | exact hn183_5) (.int .i64 0)).trans hx183_0
    replace hx183_0 := (cell_far (p := ⟨gb182, 6, none⟩) (by first | (rw [add_block]; exact hn183_6) | (show (Addr.add _ _).block ≠ _; rw [add_block]; exact hn183_6) | exact hn183_6) (.int .i64 0)).trans hx183_0
    replace hx183_0 := (cell_far (p := ⟨gb182, 7, none⟩) (by first | (rw [add_block]; exact hn183_7) | (show (Addr.add _ _).block ≠ _; rw [add_block]; exact hn183_7) | exact hn183_7) (.int .i64 0)).trans hx183_0
    clear hn183_0 hn183_1 hn183_2 hn183_3 hn183_4 hn183_5 hn183_6 hn183_7
    replace p183 := eq_true p183
    replace q183 := eq_true q183
    go_wp2
    go_meet
    case rel => exact ⟨_, (((rdOf ByteArray.empty t179 0).toList == ([112, 117, 109, 112] : List UInt8))), u7_31, H', ⟨by first | omega | exact Nat.le_refl _⟩, ⟨by (with_reducible repeat (first | apply Kd.R_alloc | apply Kd.R_drewN | apply Kd.R_drew)); exact Kd.R_mono (Kd.R_far (p := ⟨gb182, 7, none⟩) (Kd.R_far (p := ⟨gb182, 6, none⟩) (Kd.R_far (p := ⟨gb182, 5, none⟩) (Kd.R_far (p := ⟨gb182, 4, none⟩) (Kd.R_far (p := ⟨gb182, 3, none⟩) (Kd.R_far (p := ⟨gb182, 2, none⟩) (Kd.R_far (p := ⟨gb182, 1, none⟩) (Kd.R_far (p := ⟨gb182, 0, none⟩) (Kd.R_types HO181.out BK182.out v7_0) (fun _ hk => hk.2) (.string (⟨#[]⟩ : ByteArray))) (fun _ hk => hk.2) (.int .i64 0)) (fun _ hk => hk.2) (.string (⟨#[]⟩ : ByteArray))) (fun _ hk => hk.2) (.int .i64 0)) (fun _ hk => hk.2) (.int .i64 0)) (fun _ hk => hk.2) (.int .i64 0)) (fun _ hk => hk.2) (.int .i64 0)) (fun _ hk => hk.2) (.int .i64 0)) (fun _ hk => trivial)⟩, ⟨by (with_reducible repeat (first | refine bN ?_ _ | refine bD ?_ | refine bA ?_ _)); refine blk_far ?_ NB178_182.out _; (with_reducible repeat (first | refine bN ?_ _ | refine bD ?_ | refine bA ?_ _)); refine blk_far ?_ NB178_182.out _; (with_reducible repeat (first | refine bN ?_ _ | refine bD ?_ | refine bA ?_ _)); refine blk_far ?_ NB178_182.out _; (with_reducible repeat (first | refine bN ?_ _ | refine bD ?_ | refine bA ?_ _)); refine blk_far ?_ NB178_182.out _; (with_reducible repeat (first | refine bN ?_ _ | refine bD ?_ | refine bA ?_ _)); refine blk_far ?_ NB178_182.out _; (with_reducible repeat (first | refine bN ?_ _ | refine bD ?_ | refine bA ?_ _)); refine blk_far ?_ NB178_182.out _; (with_reducible repeat (first | refine bN ?_ _ | refine bD ?_ | refine bA ?_ _)); refine blk_far ?_ NB178_182.out _; (with_reducible repeat (first | refine bN ?_ _ | refine bD ?_ | refine bA ?_ _)); refine blk_far ?_ NB178_182.out _; exact bd BK178.out⟩, ⟨by (with_reducible repeat (first | refine bN ?_ _ | refine bD ?_ | refine bA ?_ _)); refine blk_put (cs := zr6 (⟨#[]⟩ : ByteArray) 0 (⟨#[]⟩ : ByteArray) 0 0 0 0 0) ?_ 7 _ rfl; (with_reducible repeat (first | refine bN ?_ _ | refine bD ?_ | refine bA ?_ _)); refine blk_put (cs := zr6 (⟨#[]⟩ : ByteArray) 0 (⟨#[]⟩ : ByteArray) 0 0 0 0 0) ?_ 6 _ rfl; (with_reducible repeat (first | refine bN ?_ _ | refine bD ?_ | refine bA ?_ _)); refine blk_put (cs := zr6 (⟨#[]⟩ : ByteArray) 0 (⟨#[]⟩ : ByteArray) 0 0 0 0 0) ?_ 5 _ rfl; (with_reducible repeat (first | refine bN ?_ _ | refine bD ?_ | refine bA ?_ _)); refine blk_put (cs := zr6 (⟨#[]⟩ : ByteArray) 0 (⟨#[]⟩ : ByteArray) 0 0 0 0 0) ?_ 4 _ rfl; (with_reducible repeat (first | refine bN ?_ _ | refine bD ?_ | refine bA ?_ _)); refine blk_put (cs := zr6 (⟨#[]⟩ : ByteArray) 0 (⟨#[]⟩ : ByteArray) 0 0 0 0 0) ?_ 3 _ rfl; (with_reducible repeat (first | refine bN ?_ _ | refine bD ?_ | refine bA ?_ _)); refine blk_put (cs := zr6 (⟨#[]⟩ : ByteArray) 0 (⟨#[]⟩ : ByteArray) 0 0 0 0 0) ?_ 2 _ rfl; (with_reducible repeat (first | refine bN ?_ _ | refine bD ?_ | refine bA ?_ _)); refine blk_put (cs := zr6 (⟨#[]⟩ : ByteArray) 0 (⟨#[]⟩ : ByteArray) 0 0 0 0 0) ?_ 1 _ rfl; (with_reducible repeat (first | refine bN ?_ _ | refine bD ?_ | refine bA ?_ _)); refine blk_put (cs := zr6 (⟨#[]⟩ : ByteArray) 0 (⟨#[]⟩ : ByteArray) 0 0 0 0 0) ?_ 0 _ rfl; exact bd BK182.out⟩, ⟨s7_2⟩⟩
   ·rw [if_neg c10] at H
    exact absurd H (by simp)
  ·rw [if_neg c9] at H
   have c9b0 : ((t179.length : Int) == 4) = false := beq_eq_false_iff_ne.mpr c9
   have c9b1 : ((t179.length : Int) != 4) = true := bne_iff_ne.mpr c9
   (first | rw [c9b0] | (simp only [i64_w, i32_w]; rw [c9b0]) | skip)
   have H' := am H
   clear H
   obtain ⟨Ao12, co12, eo12⟩ := Kd.R_slice HO181.out
   subst eo12
   go_wp2
   go_meet
   case rel => exact ⟨_, (false), u7_31, H', ⟨by first | omega | exact Nat.le_refl _⟩, ⟨by (with_reducible repeat (first | apply Kd.R_alloc | apply Kd.R_drewN | apply Kd.R_drew)); exact Kd.R_mono (Kd.R_far (p := ⟨gb182, 7, none⟩) (Kd.R_far (p := ⟨gb182, 6, none⟩) (Kd.R_far (p := ⟨gb182, 5, none⟩) (Kd.R_far (p := ⟨gb182, 4, none⟩) (Kd.R_far (p := ⟨gb182, 3, none⟩) (Kd.R_far (p := ⟨gb182, 2, none⟩) (Kd.R_far (p := ⟨gb182, 1, none⟩) (Kd.R_far (p := ⟨gb182, 0, none⟩) (Kd.R_types HO181.out BK182.out v7_0) (fun _ hk => hk.2) (.string (⟨#[]⟩ : ByteArray))) (fun _ hk => hk.2) (.int .i64 0)) (fun _ hk => hk.2) (.string (⟨#[]⟩ : ByteArray))) (fun _ hk => hk.2) (.int .i64 0)) (fun _ hk => hk.2) (.int .i64 0)) (fun _ hk => hk.2) (.int .i64 0)) (fun _ hk => hk.2) (.int .i64 0)) (fun _ hk => hk.2) (.int .i64 0)) (fun _ hk => trivial)⟩, ⟨by (with_reducible repeat (first | refine bN ?_ _ | refine bD ?_ | refine bA ?_ _)); refine blk_far ?_ NB178_182.out _; (with_reducible repeat (first | refine bN ?_ _ | refine bD ?_ | refine bA ?_ _)); refine blk_far ?_ NB178_182.out _; (with_reducible repeat (first | refine bN ?_ _ | refine bD ?_ | refine bA ?_ _)); refine blk_far ?_ NB178_182.out _; (with_reducible repeat (first | refine bN ?_ _ | refine bD ?_ | refine bA ?_ _)); refine blk_far ?_ NB178_182.out _; (with_reducible repeat (first | refine bN ?_ _ | refine bD ?_ | refine bA ?_ _)); refine blk_far ?_ NB178_182.out _; (with_reducible repeat (first | refine bN ?_ _ | refine bD ?_ | refine bA ?_ _)); refine blk_far ?_ NB178_182.out _; (with_reducible repeat (first | refine bN ?_ _ | refine bD ?_ | refine bA ?_ _)); refine blk_far ?_ NB178_182.out _; (with_reducible repeat (first | refine bN ?_ _ | refine bD ?_ | refine bA ?_ _)); refine blk_far ?_ NB178_182.out _; exact bd BK178.out⟩, ⟨by (with_reducible repeat (first | refine bN ?_ _ | refine bD ?_ | refine bA ?_ _)); refine blk_put (cs := zr6 (⟨#[]⟩ : ByteArray) 0 (⟨#[]⟩ : ByteArray) 0 0 0 0 0) ?_ 7 _ rfl; (with_reducible repeat (first | refine bN ?_ _ | refine bD ?_ | refine bA ?_ _)); refine blk_put (cs := zr6 (⟨#[]⟩ : ByteArray) 0 (⟨#[]⟩ : ByteArray) 0 0 0 0 0) ?_ 6 _ rfl; (with_reducible repeat (first | refine bN ?_ _ | refine bD ?_ | refine bA ?_ _)); refine blk_put (cs := zr6 (⟨#[]⟩ : ByteArray) 0 (⟨#[]⟩ : ByteArray) 0 0 0 0 0) ?_ 5 _ rfl; (with_reducible repeat (first | refine bN ?_ _ | refine bD ?_ | refine bA ?_ _)); refine blk_put (cs := zr6 (⟨#[]⟩ : ByteArray) 0 (⟨#[]⟩ : ByteArray) 0 0 0 0 0) ?_ 4 _ rfl; (with_reducible repeat (first | refine bN ?_ _ | refine bD ?_ | refine bA ?_ _)); refine blk_put (cs := zr6 (⟨#[]⟩ : ByteArray) 0 (⟨#[]⟩ : ByteArray) 0 0 0 0 0) ?_ 3 _ rfl; (with_reducible repeat (first | refine bN ?_ _ | refine bD ?_ | refine bA ?_ _)); refine blk_put (cs := zr6 (⟨#[]⟩ : ByteArray) 0 (⟨#[]⟩ : ByteArray) 0 0 0 0 0) ?_ 2 _ rfl; (with_reducible repeat (first | refine bN ?_ _ | refine bD ?_ | refine bA ?_ _)); refine blk_put (cs := zr6 (⟨#[]⟩ : ByteArray) 0 (⟨#[]⟩ : ByteArray) 0 0 0 0 0) ?_ 1 _ rfl; (with_reducible repeat (first | refine bN ?_ _ | refine bD ?_ | refine bA ?_ _)); refine blk_put (cs := zr6 (⟨#[]⟩ : ByteArray) 0 (⟨#[]⟩ : ByteArray) 0 0 0 0 0) ?_ 0 _ rfl; exact bd BK182.out⟩, ⟨s7_2⟩⟩
 case rest =>
  clear HC3
  try clear c1
  try clear p1
  try clear q1
  try clear hx1
  try clear qi1
  try clear p2
  try clear c3
  try clear c7
  try clear c9
  try clear c9b0
  try clear c9b1
  try clear c10
  try clear c10b0
  try clear c10b1
  try clear hcz8_0
  try clear hcz8_1
  try clear hcz8_2
  try clear hcz8_3
  try clear hcz8_4
  try clear hcz8_5
  try clear hcz8_6
  try clear hcz8_7
  try clear hfz8_0
  try clear hfz8_1
  try clear hfz8_2
  try clear hfz8_3
  try clear hfz8_4
  try clear hfz8_5
  try clear hfz8_6
  try clear hfz8_7
  try clear hx183_0
  try clear p183
  try clear q183
  obtain ⟨kq, x21_2, rfl, HA, HJ2, HO_4, BK178, BK182, HB⟩ := hcut
  cases kq with
  | zero => exact absurd HA.out (by simp [impl_ParseDevice.j0])
  | succ kj2 =>
   have H := HA.out
   clear HA
   simp only [impl_ParseDevice.j0] at H
   by_cases c13 : x21_2 = true
   ·subst c13
    have H1 : (if 3 < (t179.length : Int) then ((impl_ParseMeasure.f kj2 (rdOf ByteArray.empty t179 3)).bind fun bt185 => (if 1 < (t179.length : Int) then (if a0.toList = ([] : List UInt8) then (some ((⟨#[]⟩ : ByteArray), 0, (⟨#[]⟩ : ByteArray), 0, 0, 0, 0, 0, false)) else ((impl_FormatDevice.f kj2 (rdOf ByteArray.empty t179 1) 1 (⟨#[]⟩ : ByteArray) 0 0 0 0 bt185.1).bind fun t188 => (if t188.toList = a0.toList then (some (rdOf ByteArray.empty t179 1, 1, (⟨#[]⟩ : ByteArray), 0, 0, 0, 0, bt185.1, true)) else (some ((⟨#[]⟩ : ByteArray), 0, (⟨#[]⟩ : ByteArray), 0, 0, 0, 0, 0, false))))) else (none))) else (none)) = some (r1, r2, r3, r4, r5, r6, r7, r8, r9) := by rw [if_pos rfl] at H; exact H
    clear H
    have H := H1
    clear H1
    by_cases c14 : 3 < (t179.length : Int)
    ·rw [if_pos c14] at H
     have c14b0 : decide (3 < (t179.length : Int)) = true := decide_eq_true c14
     have c14b1 : decide (3 < t179.length) = true := decide_eq_true (by omega)
     clear c14
     replace H := ob H
     obtain ⟨⟨t185, t186⟩, A150, H⟩ := H
     replace H : (if 1 < (t179.length : Int) then (if a0.toList = ([] : List UInt8) then (some ((⟨#[]⟩ : ByteArray), 0, (⟨#[]⟩ : ByteArray), 0, 0, 0, 0, 0, false)) else ((impl_FormatDevice.f kj2 (rdOf ByteArray.empty t179 1) 1 (⟨#[]⟩ : ByteArray) 0 0 0 0 t185).bind fun t188 => (if t188.toList = a0.toList then (some (rdOf ByteArray.empty t179 1, 1, (⟨#[]⟩ : ByteArray), 0, 0, 0, 0, t185, true)) else (some ((⟨#[]⟩ : ByteArray), 0, (⟨#[]⟩ : ByteArray), 0, 0, 0, 0, 0, false))))) else (none)) = some (r1, r2, r3, r4, r5, r6, r7, r8, r9) := H
     have A15 := am A150
     clear A150
     by_cases c16 : 1 < (t179.length : Int)
     ·rw [if_pos c16] at H
      have c16b0 : decide (1 < (t179.length : Int)) = true := decide_eq_true c16
      have c16b1 : decide (1 < t179.length) = true := decide_eq_true (by omega)
      clear c16
      by_cases c17 : a0.toList = ([] : List UInt8)
      ·rw [if_pos c17] at H
       have c17b0 : (a0.toList == ([] : List UInt8)) = true := beq_iff_eq.mpr c17
       have c17b1 : (a0.toList != ([] : List UInt8)) = false := bne_eq_false_iff_eq.mpr c17
       clear c17
       simp only [Option.some.injEq, Prod.mk.injEq] at H
       obtain ⟨rfl, rfl, rfl, rfl, rfl, rfl, rfl, rfl, rfl⟩ := H
       obtain ⟨Ao18, co18, eo18⟩ := Kd.R_slice HO_4.out
       subst eo18
       have p184 : 0 ≤ (3 : Int) := (by omega)
       have q184 : 3 < (t179.length : Int) := od u7_24
       obtain ⟨ad184, e184, hx184_0⟩ := Kd.at_string (Kd.R_reads' HO_4.out).2.2 3 p184 q184
       cases e184
       (try simp only [show (3 : Int).toNat = 3 from rfl, Nat.reduceMul, Nat.reduceEqDiff, Go.Addr.add, ↓reduceIte] at hx184_0)
       have qi184 : (3 < t179.length) = True := eq_true (by omega)
       (try rw [show ((3 : Int)).toNat = 3 from rfl] at hx184_0)
       replace p184 := eq_true p184
       replace q184 := eq_true q184
       go_wp2_with (first | ((with_reducible refine gate_callee (f := 38) rfl ?_); refine goesL_ (some 35) rfl rfl Tryd.func38 (by kernel_rfl) rfl #[.string (rdOf ByteArray.empty t179 3)] rfl u7_13 ?_; (with_reducible refine (impl_ParseMeasure.calls kj2 (rdOf ByteArray.empty t179 3) t185 t186 _ A15.out).mono ?_); rintro e w19 ⟨rfl, hb⟩; refine ⟨_, rfl, ?_⟩; have n0_ := am (Kd.R_below u7_9 hb); have n1_ := am (blk_below (g := gb178) (o := zo0 (⟨#[]⟩ : ByteArray) 0 (⟨#[]⟩ : ByteArray) 0 0 0 0 0) u7_5 hb); have n2_ := am (blk_below (g := gb182) (o := zo0 (⟨#[]⟩ : ByteArray) 0 (⟨#[]⟩ : ByteArray) 0 0 0 0 0) u7_6 hb); have n3_ := am (below_step u7_4 hb); clear HO_4 BK178 BK182 HB; have HO_4 := n0_; have BK178 := n1_; have BK182 := n2_; have HB := n3_; clear n0_ n1_ n2_ n3_; (try clear hb); (try clear hb2); (try clear hk); (try clear hi); have p187 : 0 ≤ (1 : Int) := (by omega); have q187 : 1 < (t179.length : Int) := od u7_24; obtain ⟨ad187, e187, hx187_0⟩ := Kd.at_string (Kd.R_reads' HO_4.out).2.2 1 p187 q187; obtain rfl : ad184 = ad187 := (by injection e187); (try simp only [show (1 : Int).toNat = 1 from rfl, Nat.reduceMul, Nat.reduceEqDiff, Go.Addr.add, ↓reduceIte] at hx187_0); have qi187 : (1 < t179.length) = True := eq_true (by omega); (try rw [show ((1 : Int)).toNat = 1 from rfl] at hx187_0); replace p187 := eq_true p187; replace q187 := eq_true q187; have hnb20 := NB182_178.out; have hnc20 := NB178_182.out; obtain ⟨hcz21_0, hcz21_1, hcz21_2, hcz21_3, hcz21_4, hcz21_5, hcz21_6, hcz21_7, hfz21_0, hfz21_1, hfz21_2, hfz21_3, hfz21_4, hfz21_5, hfz21_6, hfz21_7⟩ := cf8 BK182.out; obtain ⟨hcz22_0, hcz22_1, hcz22_2, hcz22_3, hcz22_4, hcz22_5, hcz22_6, hcz22_7, hfz22_0, hfz22_1, hfz22_2, hfz22_3, hfz22_4, hfz22_5, hfz22_6, hfz22_7⟩ := cf8 BK178.out))
       refine bodyPost_ret (results_ct rfl _ _ gb178 38 #[.string (⟨#[]⟩ : ByteArray), .int .i64 0, .string (⟨#[]⟩ : ByteArray), .int .i64 0, .int .i64 0, .int .i64 0, .int .i64 0, .int .i64 0] (0, 0) _ rfl u7_2 Tryd.underlying38 rfl (by kernel_rfl)) rfl ?_
       exact ⟨by first | rfl | (simp [*] <;> rfl), s7_2⟩
      ·rw [if_neg c17] at H
       have c17b0 : (a0.toList == ([] : List UInt8)) = false := beq_eq_false_iff_ne.mpr c17
       have c17b1 : (a0.toList != ([] : List UInt8)) = true := bne_iff_ne.mpr c17
       replace H := ob H
       obtain ⟨t188, A230, H⟩ := H
       replace H : (if t188.toList = a0.toList then (some (rdOf ByteArray.empty t179 1, 1, (⟨#[]⟩ : ByteArray), 0, 0, 0, 0, t185, true)) else (some ((⟨#[]⟩ : ByteArray), 0, (⟨#[]⟩ : ByteArray), 0, 0, 0, 0, 0, false))) = some (r1, r2, r3, r4, r5, r6, r7, r8, r9) := H
       have A23 := am A230
       clear A230
       by_cases c24 : t188.toList = a0.toList
       ·rw [if_pos c24] at H
        have c24b0 : (t188.toList == a0.toList) = true := beq_iff_eq.mpr c24
        have c24b1 : (t188.toList != a0.toList) = false := bne_eq_false_iff_eq.mpr c24
        clear c24
        simp only [Option.some.injEq, Prod.mk.injEq] at H
        obtain ⟨rfl, rfl, rfl, rfl, rfl, rfl, rfl, rfl, rfl⟩ := H
        obtain ⟨Ao25, co25, eo25⟩ := Kd.R_slice HO_4.out
        subst eo25
        have p184 : 0 ≤ (3 : Int) := (by omega)
        have q184 : 3 < (t179.length : Int) := od u7_24
        obtain ⟨ad184, e184, hx184_0⟩ := Kd.at_string (Kd.R_reads' HO_4.out).2.2 3 p184 q184
        cases e184
        (try simp only [show (3 : Int).toNat = 3 from rfl, Nat.reduceMul, Nat.reduceEqDiff, Go.Addr.add, ↓reduceIte] at hx184_0)
        have qi184 : (3 < t179.length) = True := eq_true (by omega)
        (try rw [show ((3 : Int)).toNat = 3 from rfl] at hx184_0)
        replace p184 := eq_true p184
        replace q184 := eq_true q184
        go_wp2_with (first | ((with_reducible refine gate_callee (f := 38) rfl ?_); refine goesL_ (some 35) rfl rfl Tryd.func38 (by kernel_rfl) rfl #[.string (rdOf ByteArray.empty t179 3)] rfl u7_13 ?_; (with_reducible refine (impl_ParseMeasure.calls kj2 (rdOf ByteArray.empty t179 3) t185 t186 _ A15.out).mono ?_); rintro e w26 ⟨rfl, hb⟩; refine ⟨_, rfl, ?_⟩; have n0_ := am (Kd.R_below u7_9 hb); have n1_ := am (blk_below (g := gb178) (o := zo0 (⟨#[]⟩ : ByteArray) 0 (⟨#[]⟩ : ByteArray) 0 0 0 0 0) u7_5 hb); have n2_ := am (blk_below (g := gb182) (o := zo0 (⟨#[]⟩ : ByteArray) 0 (⟨#[]⟩ : ByteArray) 0 0 0 0 0) u7_6 hb); have n3_ := am (below_step u7_4 hb); clear HO_4 BK178 BK182 HB; have HO_4 := n0_; have BK178 := n1_; have BK182 := n2_; have HB := n3_; clear n0_ n1_ n2_ n3_; (try clear hb); (try clear hb2); (try clear hk); (try clear hi); have p187 : 0 ≤ (1 : Int) := (by omega); have q187 : 1 < (t179.length : Int) := od u7_24; obtain ⟨ad187, e187, hx187_0⟩ := Kd.at_string (Kd.R_reads' HO_4.out).2.2 1 p187 q187; obtain rfl : ad184 = ad187 := (by injection e187); (try simp only [show (1 : Int).toNat = 1 from rfl, Nat.reduceMul, Nat.reduceEqDiff, Go.Addr.add, ↓reduceIte] at hx187_0); have qi187 : (1 < t179.length) = True := eq_true (by omega); (try rw [show ((1 : Int)).toNat = 1 from rfl] at hx187_0); replace p187 := eq_true p187; replace q187 := eq_true q187; have hnb27 := NB182_178.out; have hnc27 := NB178_182.out; obtain ⟨hcz28_0, hcz28_1, hcz28_2, hcz28_3, hcz28_4, hcz28_5, hcz28_6, hcz28_7, hfz28_0, hfz28_1, hfz28_2, hfz28_3, hfz28_4, hfz28_5, hfz28_6, hfz28_7⟩ := cf8 BK182.out) | (go_at_call 20; (with_reducible refine (impl_FormatDevice.calls kj2 (rdOf ByteArray.empty t179 1) 1 (⟨#[]⟩ : ByteArray) 0 0 0 0 t185 t188 _ A23.out).mono ?_); rintro e w29 ⟨rfl, hb⟩; have n0_ := am (Kd.R_below u7_20 hb); have n1_ := am (blk_below (g := gb178) (o := zo0 (⟨#[]⟩ : ByteArray) 0 (⟨#[]⟩ : ByteArray) 0 0 0 0 0) u7_3 hb); have n2_ := am (blk_below (g := gb182) (o := zo0 (rdOf ByteArray.empty t179 1) 1 (⟨#[]⟩ : ByteArray) 0 0 0 0 t185) u7_8 hb); have n3_ := am (below_step u7_4 hb); clear HO_4 BK178 BK182 HB; have HO_4 := n0_; have BK178 := n1_; have BK182 := n2_; have HB := n3_; clear n0_ n1_ n2_ n3_; (try clear hb); (try clear hb2); (try clear hk); (try clear hi); obtain ⟨hcz30_0, hcz30_1, hcz30_2, hcz30_3, hcz30_4, hcz30_5, hcz30_6, hcz30_7, hfz30_0, hfz30_1, hfz30_2, hfz30_3, hfz30_4, hfz30_5, hfz30_6, hfz30_7⟩ := cf8 BK182.out; obtain ⟨hcz31_0, hcz31_1, hcz31_2, hcz31_3, hcz31_4, hcz31_5, hcz31_6, hcz31_7, hfz31_0, hfz31_1, hfz31_2, hfz31_3, hfz31_4, hfz31_5, hfz31_6, hfz31_7⟩ := cf8 BK178.out))
        refine bodyPost_ret (results_ct rfl _ _ gb178 38 #[.string (rdOf ByteArray.empty t179 1), .int .i64 1, .string (⟨#[]⟩ : ByteArray), .int .i64 0, .int .i64 0, .int .i64 0, .int .i64 0, .int .i64 t185] (0, 0) _ rfl (by (with_reducible repeat (first | refine bN ?_ _ | refine bD ?_ | refine bA ?_ _)); refine blk_put (cs := zr6 (rdOf ByteArray.empty t179 1) 1 (⟨#[]⟩ : ByteArray) 0 0 0 0 0) ?_ 7 _ rfl; (with_reducible repeat (first | refine bN ?_ _ | refine bD ?_ | refine bA ?_ _)); refine blk_put (cs := zr6 (rdOf ByteArray.empty t179 1) 1 (⟨#[]⟩ : ByteArray) 0 0 0 0 0) ?_ 6 _ rfl; (with_reducible repeat (first | refine bN ?_ _ | refine bD ?_ | refine bA ?_ _)); refine blk_put (cs := zr6 (rdOf ByteArray.empty t179 1) 1 (⟨#[]⟩ : ByteArray) 0 0 0 0 0) ?_ 5 _ rfl; (with_reducible repeat (first | refine bN ?_ _ | refine bD ?_ | refine bA ?_ _)); refine blk_put (cs := zr6 (rdOf ByteArray.empty t179 1) 1 (⟨#[]⟩ : ByteArray) 0 0 0 0 0) ?_ 4 _ rfl; (with_reducible repeat (first | refine bN ?_ _ | refine bD ?_ | refine bA ?_ _)); refine blk_put (cs := zr6 (rdOf ByteArray.empty t179 1) 1 (⟨#[]⟩ : ByteArray) 0 0 0 0 0) ?_ 3 _ rfl; (with_reducible repeat (first | refine bN ?_ _ | refine bD ?_ | refine bA ?_ _)); refine blk_put (cs := zr6 (rdOf ByteArray.empty t179 1) 1 (⟨#[]⟩ : ByteArray) 0 0 0 0 0) ?_ 2 _ rfl; (with_reducible repeat (first | refine bN ?_ _ | refine bD ?_ | refine bA ?_ _)); refine blk_put (cs := zr6 (rdOf ByteArray.empty t179 1) 0 (⟨#[]⟩ : ByteArray) 0 0 0 0 0) ?_ 1 _ rfl; (with_reducible repeat (first | refine bN ?_ _ | refine bD ?_ | refine bA ?_ _)); refine blk_put (cs := zr6 (⟨#[]⟩ : ByteArray) 0 (⟨#[]⟩ : ByteArray) 0 0 0 0 0) ?_ 0 _ rfl; exact bd BK178.out) Tryd.underlying38 rfl (by kernel_rfl)) rfl ?_
        exact ⟨by first | rfl | (simp [*] <;> rfl), s7_2⟩
       ·rw [if_neg c24] at H
        have c24b0 : (t188.toList == a0.toList) = false := beq_eq_false_iff_ne.mpr c24
        have c24b1 : (t188.toList != a0.toList) = true := bne_iff_ne.mpr c24
        simp only [Option.some.injEq, Prod.mk.injEq] at H
        obtain ⟨rfl, rfl, rfl, rfl, rfl, rfl, rfl, rfl, rfl⟩ := H
        obtain ⟨Ao32, co32, eo32⟩ := Kd.R_slice HO_4.out
        subst eo32
        have p184 : 0 ≤ (3 : Int) := (by omega)
        have q184 : 3 < (t179.length : Int) := od u7_24
        obtain ⟨ad184, e184, hx184_0⟩ := Kd.at_string (Kd.R_reads' HO_4.out).2.2 3 p184 q184
        cases e184
        (try simp only [show (3 : Int).toNat = 3 from rfl, Nat.reduceMul, Nat.reduceEqDiff, Go.Addr.add, ↓reduceIte] at hx184_0)
        have qi184 : (3 < t179.length) = True := eq_true (by omega)
        (try rw [show ((3 : Int)).toNat = 3 from rfl] at hx184_0)
        replace p184 := eq_true p184
        replace q184 := eq_true q184
        go_wp2_with (first | ((with_reducible refine gate_callee (f := 38) rfl ?_); refine goesL_ (some 35) rfl rfl Tryd.func38 (by kernel_rfl) rfl #[.string (rdOf ByteArray.empty t179 3)] rfl u7_13 ?_; (with_reducible refine (impl_ParseMeasure.calls kj2 (rdOf ByteArray.empty t179 3) t185 t186 _ A15.out).mono ?_); rintro e w33 ⟨rfl, hb⟩; refine ⟨_, rfl, ?_⟩; have n0_ := am (Kd.R_below u7_9 hb); have n1_ := am (blk_below (g := gb178) (o := zo0 (⟨#[]⟩ : ByteArray) 0 (⟨#[]⟩ : ByteArray) 0 0 0 0 0) u7_5 hb); have n2_ := am (blk_below (g := gb182) (o := zo0 (⟨#[]⟩ : ByteArray) 0 (⟨#[]⟩ : ByteArray) 0 0 0 0 0) u7_6 hb); have n3_ := am (below_step u7_4 hb); clear HO_4 BK178 BK182 HB; have HO_4 := n0_; have BK178 := n1_; have BK182 := n2_; have HB := n3_; clear n0_ n1_ n2_ n3_; (try clear hb); (try clear hb2); (try clear hk); (try clear hi); have p187 : 0 ≤ (1 : Int) := (by omega); have q187 : 1 < (t179.length : Int) := od u7_24; obtain ⟨ad187, e187, hx187_0⟩ := Kd.at_string (Kd.R_reads' HO_4.out).2.2 1 p187 q187; obtain rfl : ad184 = ad187 := (by injection e187); (try simp only [show (1 : Int).toNat = 1 from rfl, Nat.reduceMul, Nat.reduceEqDiff, Go.Addr.add, ↓reduceIte] at hx187_0); have qi187 : (1 < t179.length) = True := eq_true (by omega); (try rw [show ((1 : Int)).toNat = 1 from rfl] at hx187_0); replace p187 := eq_true p187; replace q187 := eq_true q187; have hnb34 := NB182_178.out; have hnc34 := NB178_182.out; obtain ⟨hcz35_0, hcz35_1, hcz35_2, hcz35_3, hcz35_4, hcz35_5, hcz35_6, hcz35_7, hfz35_0, hfz35_1, hfz35_2, hfz35_3, hfz35_4, hfz35_5, hfz35_6, hfz35_7⟩ := cf8 BK182.out) | (go_at_call 20; (with_reducible refine (impl_FormatDevice.calls kj2 (rdOf ByteArray.empty t179 1) 1 (⟨#[]⟩ : ByteArray) 0 0 0 0 t185 t188 _ A23.out).mono ?_); rintro e w36 ⟨rfl, hb⟩; have n0_ := am (Kd.R_below u7_20 hb); have n1_ := am (blk_below (g := gb178) (o := zo0 (⟨#[]⟩ : ByteArray) 0 (⟨#[]⟩ : ByteArray) 0 0 0 0 0) u7_3 hb); have n2_ := am (blk_below (g := gb182) (o := zo0 (rdOf ByteArray.empty t179 1) 1 (⟨#[]⟩ : ByteArray) 0 0 0 0 t185) u7_8 hb); have n3_ := am (below_step u7_4 hb); clear HO_4 BK178 BK182 HB; have HO_4 := n0_; have BK178 := n1_; have BK182 := n2_; have HB := n3_; clear n0_ n1_ n2_ n3_; (try clear hb); (try clear hb2); (try clear hk); (try clear hi); obtain ⟨hcz37_0, hcz37_1, hcz37_2, hcz37_3, hcz37_4, hcz37_5, hcz37_6, hcz37_7, hfz37_0, hfz37_1, hfz37_2, hfz37_3, hfz37_4, hfz37_5, hfz37_6, hfz37_7⟩ := cf8 BK178.out))
        refine bodyPost_ret (results_ct rfl _ _ gb178 38 #[.string (⟨#[]⟩ : ByteArray), .int .i64 0, .string (⟨#[]⟩ : ByteArray), .int .i64 0, .int .i64 0, .int .i64 0, .int .i64 0, .int .i64 0] (0, 0) _ rfl u7_1 Tryd.underlying38 rfl (by kernel_rfl)) rfl ?_
        exact ⟨by first | rfl | (simp [*] <;> rfl), s7_2⟩
     ·rw [if_neg c16] at H
      exact absurd H (by simp)
    ·rw [if_neg c14] at H
     exact absurd H (by simp)
   ·replace c13 := Bool.eq_false_iff.mpr c13
    subst c13
    have H1 : (if (t179.length : Int) = 12 then (if 0 < (t179.length : Int) then (impl_ParseDevice.j1 kj2 a0 t179 ((rdOf ByteArray.empty t179 0).toList == ([110, 111, 122, 122, 108, 101] : List UInt8)) (⟨#[]⟩ : ByteArray) 0 (⟨#[]⟩ : ByteArray) 0 0 0 0 0) else (none)) else (impl_ParseDevice.j1 kj2 a0 t179 false (⟨#[]⟩ : ByteArray) 0 (⟨#[]⟩ : ByteArray) 0 0 0 0 0)) = some (r1, r2, r3, r4, r5, r6, r7, r8, r9) := by rw [if_neg (show ¬ (false = true) by decide)] at H; exact H
    clear H
    have H := H1
    clear H1
    have HC38 := am H
    clear H
    go_upto_region 6 with (fail)
    go_cut [43] (fun v43 wc => ∃ (kq : Nat) (x43_37 : Bool), v43 = .bool x43_37 ∧ Aside0 (impl_ParseDevice.j1 kq a0 t179 x43_37 (⟨#[]⟩ : ByteArray) 0 (⟨#[]⟩ : ByteArray) 0 0 0 0 0 = some (r1, r2, r3, r4, r5, r6, r7, r8, r9)) ∧ Aside0 (kq ≤ kj2) ∧ Aside0 (Kd.R Kd.string 9 wc w.heap.size (fun _ => True) v180 t179) ∧ Aside0 (wc.heap[gb178]? = some (.cells #[.string (⟨#[]⟩ : ByteArray), .int .i64 0, .string (⟨#[]⟩ : ByteArray), .int .i64 0, .int .i64 0, .int .i64 0, .int .i64 0, .int .i64 0] 38 (0, 0))) ∧ Aside0 (wc.heap[gb182]? = some (.cells #[.string (⟨#[]⟩ : ByteArray), .int .i64 0, .string (⟨#[]⟩ : ByteArray), .int .i64 0, .int .i64 0, .int .i64 0, .int .i64 0, .int .i64 0] 38 (0, 0))) ∧ Aside0 (Below w.heap.size w wc))
    case first =>
     have H := HC38.out
     clear HC38
     by_cases c39 : (t179.length : Int) = 12
     ·rw [if_pos c39] at H
      have c39b0 : ((t179.length : Int) == 12) = true := beq_iff_eq.mpr c39
      have c39b1 : ((t179.length : Int) != 12) = false := bne_eq_false_iff_eq.mpr c39
      clear c39
      (first | rw [c39b0] | (simp only [i64_w, i32_w]; rw [c39b0]) | skip)
      by_cases c40 : 0 < (t179.length : Int)
      ·rw [if_pos c40] at H
       have c40b0 : decide (0 < (t179.length : Int)) = true := decide_eq_true c40
       have c40b1 : decide (0 < t179.length) = true := decide_eq_true (by omega)
       clear c40
       have H' := am H
       clear H
       obtain ⟨Ao41, co41, eo41⟩ := Kd.R_slice HO_4.out
       subst eo41
       have p189 : 0 ≤ (0 : Int) := (by omega)
       have q189 : 0 < (t179.length : Int) := od u7_24
       obtain ⟨ad189, e189, hx189_0⟩ := Kd.at_string (Kd.R_reads' HO_4.out).2.2 0 p189 q189
       cases e189
       have qi189 : (0 < t179.length) = True := eq_true (by omega)
       (try rw [show ((0 : Int)).toNat = 0 from rfl] at hx189_0)
       (try rw [Addr.add_zero'] at hx189_0)
       replace p189 := eq_true p189
       replace q189 := eq_true q189
       go_wp2
       go_meet
       case rel => exact ⟨_, (((rdOf ByteArray.empty t179 0).toList == ([110, 111, 122, 122, 108, 101] : List UInt8))), u7_31, H', ⟨by have := HJ2.out; first | omega | exact Nat.le_refl _⟩, ⟨by (with_reducible repeat (first | apply Kd.R_alloc | apply Kd.R_drewN | apply Kd.R_drew)); exact HO_4.out⟩, ⟨bd BK178.out⟩, ⟨bd BK182.out⟩, ⟨s7_2⟩⟩
      ·rw [if_neg c40] at H
       exact absurd H (by simp)
     ·rw [if_neg c39] at H
      have c39b0 : ((t179.length : Int) == 12) = false := beq_eq_false_iff_ne.mpr c39
      have c39b1 : ((t179.length : Int) != 12) = true := bne_iff_ne.mpr c39
      (first | rw [c39b0] | (simp only [i64_w, i32_w]; rw [c39b0]) | skip)
      have H' := am H
      clear H
      obtain ⟨Ao42, co42, eo42⟩ := Kd.R_slice HO_4.out
      subst eo42
      go_wp2
      go_meet
      case rel => exact ⟨_, (false), u7_31, H', ⟨by have := HJ2.out; first | omega | exact Nat.le_refl _⟩, ⟨by (with_reducible repeat (first | apply Kd.R_alloc | apply Kd.R_drewN | apply Kd.R_drew)); exact HO_4.out⟩, ⟨bd BK178.out⟩, ⟨bd BK182.out⟩, ⟨s7_2⟩⟩
    case rest =>
     clear HC38
     try clear c1
     try clear p1
     try clear q1
     try clear hx1
     try clear qi1
     try clear c2
     try clear p2
     try clear c3
     try clear c4
     try clear c7
     try clear c9
     try clear c9b0
     try clear c9b1
     try clear c10
     try clear c10b0
     try clear c10b1
     try clear c13
     try clear c14
     try clear c14b0
     try clear c14b1
     try clear c16
     try clear c16b0
     try clear c16b1
     try clear c17
     try clear c17b0
     try clear c17b1
     try clear p18
     try clear q18
     try clear hx18
     try clear qi18
     try clear c19
     try clear c20
     try clear c24
     try clear c24b0
     try clear c24b1
     try clear c27
     try clear c34
     try clear c36
     try clear c38
     try clear c39
     try clear c39b0
     try clear c39b1
     try clear c40
     try clear c40b0
     try clear c40b1
     try clear hcz21_0
     try clear hcz21_1
     try clear hcz21_2
     try clear hcz21_3
     try clear hcz21_4
     try clear hcz21_5
     try clear hcz21_6
     try clear hcz21_7
     try clear hcz22_0
     try clear hcz22_1
     try clear hcz22_2
     try clear hcz22_3
     try clear hcz22_4
     try clear hcz22_5
     try clear hcz22_6
     try clear hcz22_7
     try clear hcz28_0
     try clear hcz28_1
     try clear hcz28_2
     try clear hcz28_3
     try clear hcz28_4
     try clear hcz28_5
     try clear hcz28_6
     try clear hcz28_7
     try clear hcz30_0
     try clear hcz30_1
     try clear hcz30_2
     try clear hcz30_3
     try clear hcz30_4
     try clear hcz30_5
     try clear hcz30_6
     try clear hcz30_7
     try clear hcz31_0
     try clear hcz31_1
     try clear hcz31_2
     try clear hcz31_3
     try clear hcz31_4
     try clear hcz31_5
     try clear hcz31_6
     try clear hcz31_7
     try clear hcz35_0
     try clear hcz35_1
     try clear hcz35_2
     try clear hcz35_3
     try clear hcz35_4
     try clear hcz35_5
     try clear hcz35_6
     try clear hcz35_7
     try clear hcz37_0
     try clear hcz37_1
     try clear hcz37_2
     try clear hcz37_3
     try clear hcz37_4
     try clear hcz37_5
     try clear hcz37_6
     try clear hcz37_7
     try clear hcz8_0
     try clear hcz8_1
     try clear hcz8_2
     try clear hcz8_3
     try clear hcz8_4
     try clear hcz8_5
     try clear hcz8_6
     try clear hcz8_7
     try clear hfz21_0
     try clear hfz21_1
     try clear hfz21_2
     try clear hfz21_3
     try clear hfz21_4
     try clear hfz21_5
     try clear hfz21_6
     try clear hfz21_7
     try clear hfz22_0
     try clear hfz22_1
     try clear hfz22_2
     try clear hfz22_3
     try clear hfz22_4
     try clear hfz22_5
     try clear hfz22_6
     try clear hfz22_7
     try clear hfz28_0
     try clear hfz28_1
     try clear hfz28_2
     try clear hfz28_3
     try clear hfz28_4
     try clear hfz28_5
     try clear hfz28_6
     try clear hfz28_7
     try clear hfz30_0
     try clear hfz30_1
     try clear hfz30_2
     try clear hfz30_3
     try clear hfz30_4
     try clear hfz30_5
     try clear hfz30_6
     try clear hfz30_7
     try clear hfz31_0
     try clear hfz31_1
     try clear hfz31_2
     try clear hfz31_3
     try clear hfz31_4
     try clear hfz31_5
     try clear hfz31_6
     try clear hfz31_7
     try clear hfz35_0
     try clear hfz35_1
     try clear hfz35_2
     try clear hfz35_3
     try clear hfz35_4
     try clear hfz35_5
     try clear hfz35_6
     try clear hfz35_7
     try clear hfz37_0
     try clear hfz37_1
     try clear hfz37_2
     try clear hfz37_3
     try clear hfz37_4
     try clear hfz37_5
     try clear hfz37_6
     try clear hfz37_7
     try clear hfz8_0
     try clear hfz8_1
     try clear hfz8_2
     try clear hfz8_3
     try clear hfz8_4
     try clear hfz8_5
     try clear hfz8_6
     try clear hfz8_7
     try clear hx183_0
     try clear hx184_0
     try clear hx187_0
     try clear hx189_0
     try clear p1
     try clear p183
     try clear p184
     try clear p187
     try clear p189
     try clear p2
     try clear q1
     try clear q183
     try clear q184
     try clear q187
     try clear q189
     obtain ⟨kq, x43_37, rfl, HA, HJ37, HO_4, BK178, BK182, HB⟩ := hcut
     cases kq with
     | zero => exact absurd HA.out (by simp [impl_ParseDevice.j1])
     | succ kj37 =>
      have H := HA.out
      clear HA
      simp only [impl_ParseDevice.j1] at H
      by_cases c43 : x43_37 = true
      ·subst c43
       have H1 : (if 5 < (t179.length : Int) then ((impl_ParsePlace.f kj37 (rdOf ByteArray.empty t179 5)).bind fun bt191 => (if 7 < (t179.length : Int) then ((impl_ParseNumber.f kj37 (rdOf ByteArray.empty t179 7)).bind fun bt196 => (if 9 < (t179.length : Int) then ((impl_ParseMeasure.f kj37 (rdOf ByteArray.empty t179 9)).bind fun bt199 => (if 11 < (t179.length : Int) then ((impl_ParseMeasure.f kj37 (rdOf ByteArray.empty t179 11)).bind fun bt202 => (if 1 < (t179.length : Int) then (if 3 < (t179.length : Int) then (if a0.toList = ([] : List UInt8) then (some ((⟨#[]⟩ : ByteArray), 0, (⟨#[]⟩ : ByteArray), 0, 0, 0, 0, 0, false)) else ((impl_FormatDevice.f kj37 (rdOf ByteArray.empty t179 1) 2 (rdOf ByteArray.empty t179 3) bt191.1 bt191.2.1 bt196.1 bt199.1 bt202.1).bind fun t206 => (if t206.toList = a0.toList then (some (rdOf ByteArray.empty t179 1, 2, rdOf ByteArray.empty t179 3, bt191.1, bt191.2.1, bt196.1, bt199.1, bt202.1, true)) else (some ((⟨#[]⟩ : ByteArray), 0, (⟨#[]⟩ : ByteArray), 0, 0, 0, 0, 0, false))))) else (none)) else (none))) else (none))) else (none))) else (none))) else (none)) = some (r1, r2, r3, r4, r5, r6, r7, r8, r9) := by rw [if_pos rfl] at H; exact H
       clear H
       have H := H1
       clear H1
       by_cases c44 : 5 < (t179.length : Int)
       ·rw [if_pos c44] at H
        have c44b0 : decide (5 < (t179.length : Int)) = true := decide_eq_true c44
        have c44b1 : decide (5 < t179.length) = true := decide_eq_true (by omega)
        clear c44
        replace H := ob H
        obtain ⟨⟨t191, t192, t193⟩, A450, H⟩ := H
        replace H : (if 7 < (t179.length : Int) then ((impl_ParseNumber.f kj37 (rdOf ByteArray.empty t179 7)).bind fun bt196 => (if 9 < (t179.length : Int) then ((impl_ParseMeasure.f kj37 (rdOf ByteArray.empty t179 9)).bind fun bt199 => (if 11 < (t179.length : Int) then ((impl_ParseMeasure.f kj37 (rdOf ByteArray.empty t179 11)).bind fun bt202 => (if 1 < (t179.length : Int) then (if 3 < (t179.length : Int) then (if a0.toList = ([] : List UInt8) then (some ((⟨#[]⟩ : ByteArray), 0, (⟨#[]⟩ : ByteArray), 0, 0, 0, 0, 0, false)) else ((impl_FormatDevice.f kj37 (rdOf ByteArray.empty t179 1) 2 (rdOf ByteArray.empty t179 3) t191 t192 bt196.1 bt199.1 bt202.1).bind fun t206 => (if t206.toList = a0.toList then (some (rdOf ByteArray.empty t179 1, 2, rdOf ByteArray.empty t179 3, t191, t192, bt196.1, bt199.1, bt202.1, true)) else (some ((⟨#[]⟩ : ByteArray), 0, (⟨#[]⟩ : ByteArray), 0, 0, 0, 0, 0, false))))) else (none)) else (none))) else (none))) else (none))) else (none)) = some (r1, r2, r3, r4, r5, r6, r7, r8, r9) := H
        have A45 := am A450
        clear A450
        by_cases c46 : 7 < (t179.length : Int)
        ·rw [if_pos c46] at H
         have c46b0 : decide (7 < (t179.length : Int)) = true := decide_eq_true c46
         have c46b1 : decide (7 < t179.length) = true := decide_eq_true (by omega)
         clear c46
         replace H := ob H
         obtain ⟨⟨t196, t197⟩, A470, H⟩ := H
         replace H : (if 9 < (t179.length : Int) then ((impl_ParseMeasure.f kj37 (rdOf ByteArray.empty t179 9)).bind fun bt199 => (if 11 < (t179.length : Int) then ((impl_ParseMeasure.f kj37 (rdOf ByteArray.empty t179 11)).bind fun bt202 => (if 1 < (t179.length : Int) then (if 3 < (t179.length : Int) then (if a0.toList = ([] : List UInt8) then (some ((⟨#[]⟩ : ByteArray), 0, (⟨#[]⟩ : ByteArray), 0, 0, 0, 0, 0, false)) else ((impl_FormatDevice.f kj37 (rdOf ByteArray.empty t179 1) 2 (rdOf ByteArray.empty t179 3) t191 t192 t196 bt199.1 bt202.1).bind fun t206 => (if t206.toList = a0.toList then (some (rdOf ByteArray.empty t179 1, 2, rdOf ByteArray.empty t179 3, t191, t192, t196, bt199.1, bt202.1, true)) else (some ((⟨#[]⟩ : ByteArray), 0, (⟨#[]⟩ : ByteArray), 0, 0, 0, 0, 0, false))))) else (none)) else (none))) else (none))) else (none)) = some (r1, r2, r3, r4, r5, r6, r7, r8, r9) := H
         have A47 := am A470
         clear A470
         by_cases c48 : 9 < (t179.length : Int)
         ·rw [if_pos c48] at H
          have c48b0 : decide (9 < (t179.length : Int)) = true := decide_eq_true c48
          have c48b1 : decide (9 < t179.length) = true := decide_eq_true (by omega)
          clear c48
          replace H := ob H
          obtain ⟨⟨t199, t200⟩, A490, H⟩ := H
          replace H : (if 11 < (t179.length : Int) then ((impl_ParseMeasure.f kj37 (rdOf ByteArray.empty t179 11)).bind fun bt202 => (if 1 < (t179.length : Int) then (if 3 < (t179.length : Int) then (if a0.toList = ([] : List UInt8) then (some ((⟨#[]⟩ : ByteArray), 0, (⟨#[]⟩ : ByteArray), 0, 0, 0, 0, 0, false)) else ((impl_FormatDevice.f kj37 (rdOf ByteArray.empty t179 1) 2 (rdOf ByteArray.empty t179 3) t191 t192 t196 t199 bt202.1).bind fun t206 => (if t206.toList = a0.toList then (some (rdOf ByteArray.empty t179 1, 2, rdOf ByteArray.empty t179 3, t191, t192, t196, t199, bt202.1, true)) else (some ((⟨#[]⟩ : ByteArray), 0, (⟨#[]⟩ : ByteArray), 0, 0, 0, 0, 0, false))))) else (none)) else (none))) else (none)) = some (r1, r2, r3, r4, r5, r6, r7, r8, r9) := H
          have A49 := am A490
          clear A490
          by_cases c50 : 11 < (t179.length : Int)
          ·rw [if_pos c50] at H
           have c50b0 : decide (11 < (t179.length : Int)) = true := decide_eq_true c50
           have c50b1 : decide (11 < t179.length) = true := decide_eq_true (by omega)
           clear c50
           replace H := ob H
           obtain ⟨⟨t202, t203⟩, A510, H⟩ := H
           replace H : (if 1 < (t179.length : Int) then (if 3 < (t179.length : Int) then (if a0.toList = ([] : List UInt8) then (some ((⟨#[]⟩ : ByteArray), 0, (⟨#[]⟩ : ByteArray), 0, 0, 0, 0, 0, false)) else ((impl_FormatDevice.f kj37 (rdOf ByteArray.empty t179 1) 2 (rdOf ByteArray.empty t179 3) t191 t192 t196 t199 t202).bind fun t206 => (if t206.toList = a0.toList then (some (rdOf ByteArray.empty t179 1, 2, rdOf ByteArray.empty t179 3, t191, t192, t196, t199, t202, true)) else (some ((⟨#[]⟩ : ByteArray), 0, (⟨#[]⟩ : ByteArray), 0, 0, 0, 0, 0, false))))) else (none)) else (none)) = some (r1, r2, r3, r4, r5, r6, r7, r8, r9) := H
           have A51 := am A510
           clear A510
           by_cases c52 : 1 < (t179.length : Int)
           ·rw [if_pos c52] at H
            have c52b0 : decide (1 < (t179.length : Int)) = true := decide_eq_true c52
            have c52b1 : decide (1 < t179.length) = true := decide_eq_true (by omega)
            clear c52
            by_cases c53 : 3 < (t179.length : Int)
            ·rw [if_pos c53] at H
             have c53b0 : decide (3 < (t179.length : Int)) = true := decide_eq_true c53
             have c53b1 : decide (3 < t179.length) = true := decide_eq_true (by omega)
             clear c53
             by_cases c54 : a0.toList = ([] : List UInt8)
             ·rw [if_pos c54] at H
              have c54b0 : (a0.toList == ([] : List UInt8)) = true := beq_iff_eq.mpr c54
              have c54b1 : (a0.toList != ([] : List UInt8)) = false := bne_eq_false_iff_eq.mpr c54
              clear c54
              simp only [Option.some.injEq, Prod.mk.injEq] at H
              obtain ⟨rfl, rfl, rfl, rfl, rfl, rfl, rfl, rfl, rfl⟩ := H
              obtain ⟨Ao55, co55, eo55⟩ := Kd.R_slice HO_4.out
              subst eo55
              have p190 : 0 ≤ (5 : Int) := (by omega)
              have q190 : 5 < (t179.length : Int) := od u7_24
              obtain ⟨ad190, e190, hx190_0⟩ := Kd.at_string (Kd.R_reads' HO_4.out).2.2 5 p190 q190
              cases e190
              (try simp only [show (5 : Int).toNat = 5 from rfl, Nat.reduceMul, Nat.reduceEqDiff, Go.Addr.add, ↓reduceIte] at hx190_0)
              have qi190 : (5 < t179.length) = True := eq_true (by omega)
              (try rw [show ((5 : Int)).toNat = 5 from rfl] at hx190_0)
              replace p190 := eq_true p190
              replace q190 := eq_true q190
              try go_wp2_with (first | ((with_reducible refine gate_callee (f := 53) rfl ?_); refine goesL_ (some 57) rfl rfl Tryd.func53 (by kernel_rfl) rfl #[.string (rdOf ByteArray.empty t179 5)] rfl u7_13 ?_; (with_reducible refine (impl_ParsePlace.calls kj37 (rdOf ByteArray.empty t179 5) t191 t192 t193 _ A45.out).mono ?_); rintro e w56 ⟨rfl, hb⟩; refine ⟨_, rfl, ?_⟩; have n0_ := am (Kd.R_below u7_9 hb); have n1_ := am (blk_below (g := gb178) (o := zo0 (⟨#[]⟩ : ByteArray) 0 (⟨#[]⟩ : ByteArray) 0 0 0 0 0) u7_5 hb); have n2_ := am (blk_below (g := gb182) (o := zo0 (⟨#[]⟩ : ByteArray) 0 (⟨#[]⟩ : ByteArray) 0 0 0 0 0) u7_6 hb); have n3_ := am (below_step u7_4 hb); clear HO_4 BK178 BK182 HB; have HO_4 := n0_; have BK178 := n1_; have BK182 := n2_; have HB := n3_; clear n0_ n1_ n2_ n3_; (try clear hb); (try clear hb2); (try clear hk); (try clear hi)) | ((with_reducible refine gate_dst (N := 8) rfl ?_); refine box_event ?hg (N := 8) ?hd (cs := #[.int .i64 0, .int .i64 0]) (t := 36) ?hr ?_; (case hd => rfl); (case hg => rfl); (case hr => exact gq); intro gb194 hg w57 hbox hb; have n0_ := am (Kd.R_below u7_9 hb); have n1_ := am (blk_below (g := gb178) (o := zo0 (⟨#[]⟩ : ByteArray) 0 (⟨#[]⟩ : ByteArray) 0 0 0 0 0) u7_5 hb); have n2_ := am (blk_below (g := gb182) (o := zo0 (⟨#[]⟩ : ByteArray) 0 (⟨#[]⟩ : ByteArray) 0 0 0 0 0) u7_6 hb); have n3_ := am (below_step u7_4 hb); have n4_ := am (hbox); have n5_ := bsw w hg (below_size u7_4); have n6_ := bsw w hg (below_size u7_4); have n7_ := am ((by rw [hg]; exact Nat.ne_of_lt (blk_lt (g := gb178) (o := zo0 (⟨#[]⟩ : ByteArray) 0 (⟨#[]⟩ : ByteArray) 0 0 0 0 0) u7_5) : gb178 ≠ gb194)); have n8_ := am ((by rw [hg]; exact Nat.ne_of_gt (blk_lt (g := gb178) (o := zo0 (⟨#[]⟩ : ByteArray) 0 (⟨#[]⟩ : ByteArray) 0 0 0 0 0) u7_5) : gb194 ≠ gb178)); have n9_ := am ((by rw [hg]; exact Nat.ne_of_lt (blk_lt (g := gb182) (o := zo0 (⟨#[]⟩ : ByteArray) 0 (⟨#[]⟩ : ByteArray) 0 0 0 0 0) u7_6) : gb182 ≠ gb194)); have n10_ := am ((by rw [hg]; exact Nat.ne_of_gt (blk_lt (g := gb182) (o := zo0 (⟨#[]⟩ : ByteArray) 0 (⟨#[]⟩ : ByteArray) 0 0 0 0 0) u7_6) : gb194 ≠ gb182)); clear HO_4 BK178 BK182 HB; have HO_4 := n0_; have BK178 := n1_; have BK182 := n2_; have HB := n3_; have BK194 := n4_; have GW194 := n5_; have GE194 := n6_; have NB178_194 := n7_; have NB194_178 := n8_; have NB182_194 := n9_; have NB194_182 := n10_; clear n0_ n1_ n2_ n3_ n4_ n5_ n6_ n7_ n8_ n9_ n10_ hb hbox hg; have hnb58 := NB194_178.out; have hnc58 := NB178_194.out; have hnb59 := NB194_182.out; have hnc59 := NB182_194.out; obtain ⟨hcz60_0, hcz60_1, hfz60_0, hfz60_1⟩ := cf2 BK194.out; have p195 : 0 ≤ (7 : Int) := (by omega); have q195 : 7 < (t179.length : Int) := od u7_24; obtain ⟨ad195, e195, hx195_0⟩ := Kd.at_string (Kd.R_reads' HO_4.out).2.2 7 p195 q195; obtain rfl : ad190 = ad195 := (by injection e195); (try simp only [show (7 : Int).toNat = 7 from rfl, Nat.reduceMul, Nat.reduceEqDiff, Go.Addr.add, ↓reduceIte] at hx195_0); have qi195 : (7 < t179.length) = True := eq_true (by omega); (try rw [show ((7 : Int)).toNat = 7 from rfl] at hx195_0); have hn195_0 : ad190.block ≠ gb194 := Kd.own_blk (Kd.R_ne HO_4.out BK194.out v7_0); have hn195_1 : ad190.block ≠ gb194 := Kd.own_blk (Kd.R_ne HO_4.out BK194.out v7_0); replace hx195_0 := (cell_far (p := ⟨gb194, 0, none⟩) u7_29 (.int .i64 t191)).trans hx195_0; replace hx195_0 := (cell_far (p := ⟨gb194, 1, none⟩) u7_28 (.int .i64 t192)).trans hx195_0; clear hn195_0 hn195_1; replace p195 := eq_true p195; replace q195 := eq_true q195) | ((with_reducible refine gate_callee (f := 37) rfl ?_); refine goesL_ (some 64) rfl rfl Tryd.func37 (by kernel_rfl) rfl #[.string (rdOf ByteArray.empty t179 7)] rfl u7_13 ?_; (with_reducible refine (impl_ParseNumber.calls kj37 (rdOf ByteArray.empty t179 7) t196 t197 _ A47.out).mono ?_); rintro e w' ⟨rfl, ⟨nd, rfl⟩⟩; refine ⟨_, rfl, ?_⟩; have p198 : 0 ≤ (9 : Int) := (by omega); have q198 : 9 < (t179.length : Int) := od u7_24; obtain ⟨ad198, e198, hx198_0⟩ := Kd.at_string (Kd.R_reads' HO_4.out).2.2 9 p198 q198; obtain rfl : ad190 = ad198 := (by injection e198); (try simp only [show (9 : Int).toNat = 9 from rfl, Nat.reduceMul, Nat.reduceEqDiff, Go.Addr.add, ↓reduceIte] at hx198_0); have qi198 : (9 < t179.length) = True := eq_true (by omega); (try rw [show ((9 : Int)).toNat = 9 from rfl] at hx198_0); have hn198_0 : ad190.block ≠ gb194 := Kd.own_blk (Kd.R_ne HO_4.out BK194.out v7_0); have hn198_1 : ad190.block ≠ gb194 := Kd.own_blk (Kd.R_ne HO_4.out BK194.out v7_0); replace hx198_0 := (cell_far (p := ⟨gb194, 0, none⟩) u7_27 (.int .i64 t191)).trans hx198_0; replace hx198_0 := (cell_far (p := ⟨gb194, 1, none⟩) u7_26 (.int .i64 t192)).trans hx198_0; clear hn198_0 hn198_1; replace p198 := eq_true p198; replace q198 := eq_true q198) | ((with_reducible refine gate_callee (f := 38) rfl ?_); refine goesL_ (some 71) rfl rfl Tryd.func38 (by kernel_rfl) rfl #[.string (rdOf ByteArray.empty t179 9)] rfl u7_13 ?_; (with_reducible refine (impl_ParseMeasure.calls kj37 (rdOf ByteArray.empty t179 9) t199 t200 _ A49.out).mono ?_); rintro e w61 ⟨rfl, hb⟩; refine ⟨_, rfl, ?_⟩; have n0_ := am (Kd.R_below u7_23 hb); have n1_ := am (blk_below (g := gb178) (o := zo0 (⟨#[]⟩ : ByteArray) 0 (⟨#[]⟩ : ByteArray) 0 0 0 0 0) u7_17 hb); have n2_ := am (blk_below (g := gb182) (o := zo0 (⟨#[]⟩ : ByteArray) 0 (⟨#[]⟩ : ByteArray) 0 0 0 0 0) u7_16 hb); have n3_ := am (blk_below (g := gb194) (o := zo2 t191 t192) u7_21 hb); have n4_ := am (below_step u7_12 hb); clear HO_4 BK178 BK182 BK194 HB; have HO_4 := n0_; have BK178 := n1_; have BK182 := n2_; have BK194 := n3_; have HB := n4_; clear n0_ n1_ n2_ n3_ n4_; (try clear hb); (try clear hb2); (try clear hk); (try clear hi); have p201 : 0 ≤ (11 : Int) := (by omega); have q201 : 11 < (t179.length : Int) := od u7_24; obtain ⟨ad201, e201, hx201_0⟩ := Kd.at_string (Kd.R_reads' HO_4.out).2.2 11 p201 q201; obtain rfl : ad190 = ad201 := (by injection e201); (try simp only [show (11 : Int).toNat = 11 from rfl, Nat.reduceMul, Nat.reduceEqDiff, Go.Addr.add, ↓reduceIte] at hx201_0); have qi201 : (11 < t179.length) = True := eq_true (by omega); (try rw [show ((11 : Int)).toNat = 11 from rfl] at hx201_0); replace p201 := eq_true p201; replace q201 := eq_true q201) | ((with_reducible refine gate_callee (f := 38) rfl ?_); refine goesL_ (some 78) rfl rfl Tryd.func38 (by kernel_rfl) rfl #[.string (rdOf ByteArray.empty t179 11)] rfl u7_13 ?_; (with_reducible refine (impl_ParseMeasure.calls kj37 (rdOf ByteArray.empty t179 11) t202 t203 _ A51.out).mono ?_); rintro e w62 ⟨rfl, hb⟩; refine ⟨_, rfl, ?_⟩; have n0_ := am (Kd.R_below u7_9 hb); have n1_ := am (blk_below (g := gb178) (o := zo0 (⟨#[]⟩ : ByteArray) 0 (⟨#[]⟩ : ByteArray) 0 0 0 0 0) u7_5 hb); have n2_ := am (blk_below (g := gb182) (o := zo0 (⟨#[]⟩ : ByteArray) 0 (⟨#[]⟩ : ByteArray) 0 0 0 0 0) u7_6 hb); have n3_ := am (blk_below (g := gb194) (o := zo2 t191 t192) u7_30 hb); have n4_ := am (below_step u7_12 hb); clear HO_4 BK178 BK182 BK194 HB; have HO_4 := n0_; have BK178 := n1_; have BK182 := n2_; have BK194 := n3_; have HB := n4_; clear n0_ n1_ n2_ n3_ n4_; (try clear hb); (try clear hb2); (try clear hk); (try clear hi)))
              have n0_ := am (Kd.R_drew HO_4.out)
              have n1_ := am (blk_drew BK178.out)
              have n2_ := am (blk_drew BK182.out)
              have n3_ := am (blk_drew BK194.out)
              have n4_ := am (below_drew1 HB.out)
              clear HO_4 BK178 BK182 BK194 HB
              have HO_4 := n0_
              have BK178 := n1_
              have BK182 := n2_
              have BK194 := n3_
              have HB := n4_
              clear n0_ n1_ n2_ n3_ n4_
              have p204 : 0 ≤ (1 : Int) := (by omega)
              have q204 : 1 < (t179.length : Int) := od u7_24
              obtain ⟨ad204, e204, hx204_0⟩ := Kd.at_string (Kd.R_reads' HO_4.out).2.2 1 p204 q204
              obtain rfl : ad190 = ad204 := (by injection e204)
              (try simp only [show (1 : Int).toNat = 1 from rfl, Nat.reduceMul, Nat.reduceEqDiff, Go.Addr.add, ↓reduceIte] at hx204_0)
              have qi204 : (1 < t179.length) = True := eq_true (by omega)
              (try rw [show ((1 : Int)).toNat = 1 from rfl] at hx204_0)
              replace p204 := eq_true p204
              replace q204 := eq_true q204
              have p205 : 0 ≤ (3 : Int) := (by omega)
              have q205 : 3 < (t179.length : Int) := od u7_24
              obtain ⟨ad205, e205, hx205_0⟩ := Kd.at_string (Kd.R_reads' HO_4.out).2.2 3 p205 q205
              obtain rfl : ad190 = ad205 := (by injection e205)
              (try simp only [show (3 : Int).toNat = 3 from rfl, Nat.reduceMul, Nat.reduceEqDiff, Go.Addr.add, ↓reduceIte] at hx205_0)
              have qi205 : (3 < t179.length) = True := eq_true (by omega)
              (try rw [show ((3 : Int)).toNat = 3 from rfl] at hx205_0)
              replace p205 := eq_true p205
              replace q205 := eq_true q205
              refine start_ (n := 12) (S := fun w' => zc5 w' gb194 t191 t192 (w'.cell? ⟨ad190.block, ad190.off + 1, none⟩ = some (.string (rdOf ByteArray.empty t179 1)) ∧ w'.cell? ⟨ad190.block, ad190.off + 3, none⟩ = some (.string (rdOf ByteArray.empty t179 3)))) (ds := []) mk7_0 (by kernel_rfl) rfl rfl ⟨(blk_cell BK194.out 0).trans rfl, (blk_cell BK194.out 1).trans rfl, hx204_0, hx205_0⟩ (fun hHeld => ?_); refine with_tabW impl_ParseDevice.tab11 impl_ParseDevice.bits11 (fun HT_ HW_ => ?_)
              generalize w62.drew = w63 at HO_4 BK178 BK182 BK194 HB hx204_0 hx205_0 hHeld ⊢
              refine pz 0 81 mk7_2 (any_of HT_.out (by kernel_rfl)) ?_
              refine pz 1 82 mk7_4 (any_of HT_.out (by kernel_rfl)) ?_
              refine pz 3 84 mk7_6 (any_of HT_.out (by kernel_rfl)) ?_
              refine pz 4 85 mk7_8 (any_of HT_.out (by kernel_rfl)) ?_
              refine pz 7 88 mk7_10 (any_of HT_.out (by kernel_rfl)) ?_
              refine pz 8 89 mk7_11 (any_of HT_.out (by kernel_rfl)) ?_
              refine pz 9 90 mk7_12 (any_of HT_.out (by kernel_rfl)) ?_
              refine take_ (i := 2) (N := some 83) (v := ?_) (a' := ?_) mk7_14 rfl rfl (take_ofW HT_.out HW_.out (by kernel_rfl)) (fun _ _ _ h => h) (Or.inl ⟨by rfl, ?_⟩) hHeld ?_ ?_
              rotate_left
              ·rintro w' ⟨s0, s1, s2, s3⟩
               exact gs
              rotate_left
              ·exact ap
              refine take_ (i := 5) (N := some 86) (v := ?_) (a' := ?_) mk7_16 rfl rfl (take_ofW HT_.out HW_.out (by kernel_rfl)) (fun _ _ _ h => h) (Or.inl ⟨by rfl, ?_⟩) hHeld ?_ ?_
              rotate_left
              ·rintro w' ⟨s0, s1, s2, s3⟩
               exact gs
              rotate_left
              ·exact ap
              refine take_ (i := 6) (N := some 87) (v := ?_) (a' := ?_) mk7_19 rfl rfl (take_ofW HT_.out HW_.out (by kernel_rfl)) (fun _ _ _ h => h) (Or.inl ⟨by rfl, ?_⟩) hHeld ?_ ?_
              rotate_left
              ·rintro w' ⟨s0, s1, s2, s3⟩
               exact gs
              rotate_left
              ·exact ap
              refine pz 10 91 mk7_20 (any_of HT_.out (by kernel_rfl)) ?_
              refine one_ (i := 11) (N := none) mk7_21 rfl rfl (one_of HT_.out (by kernel_rfl)) v7_0 (fun K hK => ?_)
              have hs64 : w63.cell? ⟨gb182, 0, none⟩ = some (.string (⟨#[]⟩ : ByteArray)) := (blk_cell BK182.out 0).trans rfl
              have hfs64 := blk_frozen BK182.out 0
              have hns64_0 := NB178_182.out
              have hns64_2 := NB194_182.out
              have hms64_0 := NB182_178.out
              have hms64_2 := NB182_194.out
              have hs65 : w63.cell? ⟨gb182, 1, none⟩ = some (.int .i64 0) := (blk_cell BK182.out 1).trans rfl
              have hfs65 := blk_frozen BK182.out 1
              have hns65_0 := NB178_182.out
              have hns65_2 := NB194_182.out
              have hms65_0 := NB182_178.out
              have hms65_2 := NB182_194.out
              have hs66 : w63.cell? ⟨gb182, 2, none⟩ = some (.string (⟨#[]⟩ : ByteArray)) := (blk_cell BK182.out 2).trans rfl
              have hfs66 := blk_frozen BK182.out 2
              have hns66_0 := NB178_182.out
              have hns66_2 := NB194_182.out
              have hms66_0 := NB182_178.out
              have hms66_2 := NB182_194.out
              have hs67 : w63.cell? ⟨gb182, 3, none⟩ = some (.int .i64 0) := (blk_cell BK182.out 3).trans rfl
              have hfs67 := blk_frozen BK182.out 3
              have hns67_0 := NB178_182.out
              have hns67_2 := NB194_182.out
              have hms67_0 := NB182_178.out
              have hms67_2 := NB182_194.out
              have hs68 : w63.cell? ⟨gb182, 4, none⟩ = some (.int .i64 0) := (blk_cell BK182.out 4).trans rfl
              have hfs68 := blk_frozen BK182.out 4
              have hns68_0 := NB178_182.out
              have hns68_2 := NB194_182.out
              have hms68_0 := NB182_178.out
              have hms68_2 := NB182_194.out
              have hs69 : w63.cell? ⟨gb182, 5, none⟩ = some (.int .i64 0) := (blk_cell BK182.out 5).trans rfl
              have hfs69 := blk_frozen BK182.out 5
              have hns69_0 := NB178_182.out
              have hns69_2 := NB194_182.out
              have hms69_0 := NB182_178.out
              have hms69_2 := NB182_194.out
              have hs70 : w63.cell? ⟨gb182, 6, none⟩ = some (.int .i64 0) := (blk_cell BK182.out 6).trans rfl
              have hfs70 := blk_frozen BK182.out 6
              have hns70_0 := NB178_182.out
              have hns70_2 := NB194_182.out
              have hms70_0 := NB182_178.out
              have hms70_2 := NB182_194.out
              have hs71 : w63.cell? ⟨gb182, 7, none⟩ = some (.int .i64 0) := (blk_cell BK182.out 7).trans rfl
              have hfs71 := blk_frozen BK182.out 7
              have hns71_0 := NB178_182.out
              have hns71_2 := NB194_182.out
              have hms71_0 := NB182_178.out
              have hms71_2 := NB182_194.out
              refine skip_ (w1 := ?_) (by rfl) rfl ?_ ?_
              rotate_left
              ·go_simp
               rfl
              have hne_ : ad190.block ≠ gb182 := Kd.own_blk (Kd.R_ne HO_4.out BK182.out v7_0)
              refine hK.out _ _ ⟨(far8 NB194_182.out hHeld.1), (far8 NB194_182.out hHeld.2.1), (far8 hne_ hHeld.2.2.1), (far8 hne_ hHeld.2.2.2)⟩ (fun hHeld => ?_)
              clear hK K
              refine done_ (done_of HT_.out (by kernel_rfl)) ?_
              have hnb72 := NB178_182.out
              have hnc72 := NB182_178.out
              obtain ⟨hcz73_0, hcz73_1, hcz73_2, hcz73_3, hcz73_4, hcz73_5, hcz73_6, hcz73_7, hfz73_0, hfz73_1, hfz73_2, hfz73_3, hfz73_4, hfz73_5, hfz73_6, hfz73_7⟩ := cf8 BK178.out
              try go_wp2
              refine bodyPost_ret (results_ct rfl _ _ gb178 38 #[.string (⟨#[]⟩ : ByteArray), .int .i64 0, .string (⟨#[]⟩ : ByteArray), .int .i64 0, .int .i64 0, .int .i64 0, .int .i64 0, .int .i64 0] (0, 0) _ rfl u7_2 Tryd.underlying38 rfl (by kernel_rfl)) rfl ?_
              exact ⟨by first | rfl | (simp [*] <;> rfl), s7_0⟩
             ·rw [if_neg c54] at H
              have c54b0 : (a0.toList == ([] : List UInt8)) = false := beq_eq_false_iff_ne.mpr c54
              have c54b1 : (a0.toList != ([] : List UInt8)) = true := bne_iff_ne.mpr c54
              replace H := ob H
              obtain ⟨t206, A740, H⟩ := H
              replace H : (if t206.toList = a0.toList then (some (rdOf ByteArray.empty t179 1, 2, rdOf ByteArray.empty t179 3, t191, t192, t196, t199, t202, true)) else (some ((⟨#[]⟩ : ByteArray), 0, (⟨#[]⟩ : ByteArray), 0, 0, 0, 0, 0, false))) = some (r1, r2, r3, r4, r5, r6, r7, r8, r9) := H
              have A74 := am A740
              clear A740
              by_cases c75 : t206.toList = a0.toList
              ·rw [if_pos c75] at H
               have c75b0 : (t206.toList == a0.toList) = true := beq_iff_eq.mpr c75
               have c75b1 : (t206.toList != a0.toList) = false := bne_eq_false_iff_eq.mpr c75
               clear c75
               simp only [Option.some.injEq, Prod.mk.injEq] at H
               obtain ⟨rfl, rfl, rfl, rfl, rfl, rfl, rfl, rfl, rfl⟩ := H
               obtain ⟨Ao76, co76, eo76⟩ := Kd.R_slice HO_4.out
               subst eo76
               have p190 : 0 ≤ (5 : Int) := (by omega)
               have q190 : 5 < (t179.length : Int) := od u7_24
               obtain ⟨ad190, e190, hx190_0⟩ := Kd.at_string (Kd.R_reads' HO_4.out).2.2 5 p190 q190
               cases e190
               (try simp only [show (5 : Int).toNat = 5 from rfl, Nat.reduceMul, Nat.reduceEqDiff, Go.Addr.add, ↓reduceIte] at hx190_0)
               have qi190 : (5 < t179.length) = True := eq_true (by omega)
               (try rw [show ((5 : Int)).toNat = 5 from rfl] at hx190_0)
               replace p190 := eq_true p190
               replace q190 := eq_true q190
               try go_wp2_with (first | ((with_reducible refine gate_callee (f := 53) rfl ?_); refine goesL_ (some 57) rfl rfl Tryd.func53 (by kernel_rfl) rfl #[.string (rdOf ByteArray.empty t179 5)] rfl u7_13 ?_; (with_reducible refine (impl_ParsePlace.calls kj37 (rdOf ByteArray.empty t179 5) t191 t192 t193 _ A45.out).mono ?_); rintro e w77 ⟨rfl, hb⟩; refine ⟨_, rfl, ?_⟩; have n0_ := am (Kd.R_below u7_9 hb); have n1_ := am (blk_below (g := gb178) (o := zo0 (⟨#[]⟩ : ByteArray) 0 (⟨#[]⟩ : ByteArray) 0 0 0 0 0) u7_5 hb); have n2_ := am (blk_below (g := gb182) (o := zo0 (⟨#[]⟩ : ByteArray) 0 (⟨#[]⟩ : ByteArray) 0 0 0 0 0) u7_6 hb); have n3_ := am (below_step u7_4 hb); clear HO_4 BK178 BK182 HB; have HO_4 := n0_; have BK178 := n1_; have BK182 := n2_; have HB := n3_; clear n0_ n1_ n2_ n3_; (try clear hb); (try clear hb2); (try clear hk); (try clear hi)) | ((with_reducible refine gate_dst (N := 8) rfl ?_); refine box_event ?hg (N := 8) ?hd (cs := #[.int .i64 0, .int .i64 0]) (t := 36) ?hr ?_; (case hd => rfl); (case hg => rfl); (case hr => exact gq); intro gb194 hg w78 hbox hb; have n0_ := am (Kd.R_below u7_9 hb); have n1_ := am (blk_below (g := gb178) (o := zo0 (⟨#[]⟩ : ByteArray) 0 (⟨#[]⟩ : ByteArray) 0 0 0 0 0) u7_5 hb); have n2_ := am (blk_below (g := gb182) (o := zo0 (⟨#[]⟩ : ByteArray) 0 (⟨#[]⟩ : ByteArray) 0 0 0 0 0) u7_6 hb); have n3_ := am (below_step u7_4 hb); have n4_ := am (hbox); have n5_ := bsw w hg (below_size u7_4); have n6_ := bsw w hg (below_size u7_4); have n7_ := am ((by rw [hg]; exact Nat.ne_of_lt (blk_lt (g := gb178) (o := zo0 (⟨#[]⟩ : ByteArray) 0 (⟨#[]⟩ : ByteArray) 0 0 0 0 0) u7_5) : gb178 ≠ gb194)); have n8_ := am ((by rw [hg]; exact Nat.ne_of_gt (blk_lt (g := gb178) (o := zo0 (⟨#[]⟩ : ByteArray) 0 (⟨#[]⟩ : ByteArray) 0 0 0 0 0) u7_5) : gb194 ≠ gb178)); have n9_ := am ((by rw [hg]; exact Nat.ne_of_lt (blk_lt (g := gb182) (o := zo0 (⟨#[]⟩ : ByteArray) 0 (⟨#[]⟩ : ByteArray) 0 0 0 0 0) u7_6) : gb182 ≠ gb194)); have n10_ := am ((by rw [hg]; exact Nat.ne_of_gt (blk_lt (g := gb182) (o := zo0 (⟨#[]⟩ : ByteArray) 0 (⟨#[]⟩ : ByteArray) 0 0 0 0 0) u7_6) : gb194 ≠ gb182)); clear HO_4 BK178 BK182 HB; have HO_4 := n0_; have BK178 := n1_; have BK182 := n2_; have HB := n3_; have BK194 := n4_; have GW194 := n5_; have GE194 := n6_; have NB178_194 := n7_; have NB194_178 := n8_; have NB182_194 := n9_; have NB194_182 := n10_; clear n0_ n1_ n2_ n3_ n4_ n5_ n6_ n7_ n8_ n9_ n10_ hb hbox hg; have hnb79 := NB194_178.out; have hnc79 := NB178_194.out; have hnb80 := NB194_182.out; have hnc80 := NB182_194.out; obtain ⟨hcz81_0, hcz81_1, hfz81_0, hfz81_1⟩ := cf2 BK194.out; have p195 : 0 ≤ (7 : Int) := (by omega); have q195 : 7 < (t179.length : Int) := od u7_24; obtain ⟨ad195, e195, hx195_0⟩ := Kd.at_string (Kd.R_reads' HO_4.out).2.2 7 p195 q195; obtain rfl : ad190 = ad195 := (by injection e195); (try simp only [show (7 : Int).toNat = 7 from rfl, Nat.reduceMul, Nat.reduceEqDiff, Go.Addr.add, ↓reduceIte] at hx195_0); have qi195 : (7 < t179.length) = True := eq_true (by omega); (try rw [show ((7 : Int)).toNat = 7 from rfl] at hx195_0); have hn195_0 : ad190.block ≠ gb194 := Kd.own_blk (Kd.R_ne HO_4.out BK194.out v7_0); have hn195_1 : ad190.block ≠ gb194 := Kd.own_blk (Kd.R_ne HO_4.out BK194.out v7_0); replace hx195_0 := (cell_far (p := ⟨gb194, 0, none⟩) u7_29 (.int .i64 t191)).trans hx195_0; replace hx195_0 := (cell_far (p := ⟨gb194, 1, none⟩) u7_28 (.int .i64 t192)).trans hx195_0; clear hn195_0 hn195_1; replace p195 := eq_true p195; replace q195 := eq_true q195) | ((with_reducible refine gate_callee (f := 37) rfl ?_); refine goesL_ (some 64) rfl rfl Tryd.func37 (by kernel_rfl) rfl #[.string (rdOf ByteArray.empty t179 7)] rfl u7_13 ?_; (with_reducible refine (impl_ParseNumber.calls kj37 (rdOf ByteArray.empty t179 7) t196 t197 _ A47.out).mono ?_); rintro e w' ⟨rfl, ⟨nd, rfl⟩⟩; refine ⟨_, rfl, ?_⟩; have p198 : 0 ≤ (9 : Int) := (by omega); have q198 : 9 < (t179.length : Int) := od u7_24; obtain ⟨ad198, e198, hx198_0⟩ := Kd.at_string (Kd.R_reads' HO_4.out).2.2 9 p198 q198; obtain rfl : ad190 = ad198 := (by injection e198); (try simp only [show (9 : Int).toNat = 9 from rfl, Nat.reduceMul, Nat.reduceEqDiff, Go.Addr.add, ↓reduceIte] at hx198_0); have qi198 : (9 < t179.length) = True := eq_true (by omega); (try rw [show ((9 : Int)).toNat = 9 from rfl] at hx198_0); have hn198_0 : ad190.block ≠ gb194 := Kd.own_blk (Kd.R_ne HO_4.out BK194.out v7_0); have hn198_1 : ad190.block ≠ gb194 := Kd.own_blk (Kd.R_ne HO_4.out BK194.out v7_0); replace hx198_0 := (cell_far (p := ⟨gb194, 0, none⟩) u7_27 (.int .i64 t191)).trans hx198_0; replace hx198_0 := (cell_far (p := ⟨gb194, 1, none⟩) u7_26 (.int .i64 t192)).trans hx198_0; clear hn198_0 hn198_1; replace p198 := eq_true p198; replace q198 := eq_true q198) | ((with_reducible refine gate_callee (f := 38) rfl ?_); refine goesL_ (some 71) rfl rfl Tryd.func38 (by kernel_rfl) rfl #[.string (rdOf ByteArray.empty t179 9)] rfl u7_13 ?_; (with_reducible refine (impl_ParseMeasure.calls kj37 (rdOf ByteArray.empty t179 9) t199 t200 _ A49.out).mono ?_); rintro e w82 ⟨rfl, hb⟩; refine ⟨_, rfl, ?_⟩; have n0_ := am (Kd.R_below u7_23 hb); have n1_ := am (blk_below (g := gb178) (o := zo0 (⟨#[]⟩ : ByteArray) 0 (⟨#[]⟩ : ByteArray) 0 0 0 0 0) u7_17 hb); have n2_ := am (blk_below (g := gb182) (o := zo0 (⟨#[]⟩ : ByteArray) 0 (⟨#[]⟩ : ByteArray) 0 0 0 0 0) u7_16 hb); have n3_ := am (blk_below (g := gb194) (o := zo2 t191 t192) u7_21 hb); have n4_ := am (below_step u7_12 hb); clear HO_4 BK178 BK182 BK194 HB; have HO_4 := n0_; have BK178 := n1_; have BK182 := n2_; have BK194 := n3_; have HB := n4_; clear n0_ n1_ n2_ n3_ n4_; (try clear hb); (try clear hb2); (try clear hk); (try clear hi); have p201 : 0 ≤ (11 : Int) := (by omega); have q201 : 11 < (t179.length : Int) := od u7_24; obtain ⟨ad201, e201, hx201_0⟩ := Kd.at_string (Kd.R_reads' HO_4.out).2.2 11 p201 q201; obtain rfl : ad190 = ad201 := (by injection e201); (try simp only [show (11 : Int).toNat = 11 from rfl, Nat.reduceMul, Nat.reduceEqDiff, Go.Addr.add, ↓reduceIte] at hx201_0); have qi201 : (11 < t179.length) = True := eq_true (by omega); (try rw [show ((11 : Int)).toNat = 11 from rfl] at hx201_0); replace p201 := eq_true p201; replace q201 := eq_true q201) | ((with_reducible refine gate_callee (f := 38) rfl ?_); refine goesL_ (some 78) rfl rfl Tryd.func38 (by kernel_rfl) rfl #[.string (rdOf ByteArray.empty t179 11)] rfl u7_13 ?_; (with_reducible refine (impl_ParseMeasure.calls kj37 (rdOf ByteArray.empty t179 11) t202 t203 _ A51.out).mono ?_); rintro e w83 ⟨rfl, hb⟩; refine ⟨_, rfl, ?_⟩; have n0_ := am (Kd.R_below u7_9 hb); have n1_ := am (blk_below (g := gb178) (o := zo0 (⟨#[]⟩ : ByteArray) 0 (⟨#[]⟩ : ByteArray) 0 0 0 0 0) u7_5 hb); have n2_ := am (blk_below (g := gb182) (o := zo0 (⟨#[]⟩ : ByteArray) 0 (⟨#[]⟩ : ByteArray) 0 0 0 0 0) u7_6 hb); have n3_ := am (blk_below (g := gb194) (o := zo2 t191 t192) u7_30 hb); have n4_ := am (below_step u7_12 hb); clear HO_4 BK178 BK182 BK194 HB; have HO_4 := n0_; have BK178 := n1_; have BK182 := n2_; have BK194 := n3_; have HB := n4_; clear n0_ n1_ n2_ n3_ n4_; (try clear hb); (try clear hb2); (try clear hk); (try clear hi)))
               have n0_ := am (Kd.R_drew HO_4.out)
               have n1_ := am (blk_drew BK178.out)
               have n2_ := am (blk_drew BK182.out)
               have n3_ := am (blk_drew BK194.out)
               have n4_ := am (below_drew1 HB.out)
               clear HO_4 BK178 BK182 BK194 HB
               have HO_4 := n0_
               have BK178 := n1_
               have BK182 := n2_
               have BK194 := n3_
               have HB := n4_
               clear n0_ n1_ n2_ n3_ n4_
               have p204 : 0 ≤ (1 : Int) := (by omega)
               have q204 : 1 < (t179.length : Int) := od u7_24
               obtain ⟨ad204, e204, hx204_0⟩ := Kd.at_string (Kd.R_reads' HO_4.out).2.2 1 p204 q204
               obtain rfl : ad190 = ad204 := (by injection e204)
               (try simp only [show (1 : Int).toNat = 1 from rfl, Nat.reduceMul, Nat.reduceEqDiff, Go.Addr.add, ↓reduceIte] at hx204_0)
               have qi204 : (1 < t179.length) = True := eq_true (by omega)
               (try rw [show ((1 : Int)).toNat = 1 from rfl] at hx204_0)
               replace p204 := eq_true p204
               replace q204 := eq_true q204
               have p205 : 0 ≤ (3 : Int) := (by omega)
               have q205 : 3 < (t179.length : Int) := od u7_24
               obtain ⟨ad205, e205, hx205_0⟩ := Kd.at_string (Kd.R_reads' HO_4.out).2.2 3 p205 q205
               obtain rfl : ad190 = ad205 := (by injection e205)
               (try simp only [show (3 : Int).toNat = 3 from rfl, Nat.reduceMul, Nat.reduceEqDiff, Go.Addr.add, ↓reduceIte] at hx205_0)
               have qi205 : (3 < t179.length) = True := eq_true (by omega)
               (try rw [show ((3 : Int)).toNat = 3 from rfl] at hx205_0)
               replace p205 := eq_true p205
               replace q205 := eq_true q205
               refine start_ (n := 12) (S := fun w' => zc5 w' gb194 t191 t192 (w'.cell? ⟨ad190.block, ad190.off + 1, none⟩ = some (.string (rdOf ByteArray.empty t179 1)) ∧ w'.cell? ⟨ad190.block, ad190.off + 3, none⟩ = some (.string (rdOf ByteArray.empty t179 3)))) (ds := []) mk7_0 (by kernel_rfl) rfl rfl ⟨(blk_cell BK194.out 0).trans rfl, (blk_cell BK194.out 1).trans rfl, hx204_0, hx205_0⟩ (fun hHeld => ?_); refine with_tabW impl_ParseDevice.tab11 impl_ParseDevice.bits11 (fun HT_ HW_ => ?_)
               generalize w83.drew = w84 at HO_4 BK178 BK182 BK194 HB hx204_0 hx205_0 hHeld ⊢
               refine pz 0 81 mk7_2 (any_of HT_.out (by kernel_rfl)) ?_
               refine pz 1 82 mk7_4 (any_of HT_.out (by kernel_rfl)) ?_
               refine pz 3 84 mk7_6 (any_of HT_.out (by kernel_rfl)) ?_
               refine pz 4 85 mk7_8 (any_of HT_.out (by kernel_rfl)) ?_
               refine pz 7 88 mk7_10 (any_of HT_.out (by kernel_rfl)) ?_
               refine pz 8 89 mk7_11 (any_of HT_.out (by kernel_rfl)) ?_
               refine pz 9 90 mk7_12 (any_of HT_.out (by kernel_rfl)) ?_
               refine take_ (i := 2) (N := some 83) (v := ?_) (a' := ?_) mk7_14 rfl rfl (take_ofW HT_.out HW_.out (by kernel_rfl)) (fun _ _ _ h => h) (Or.inl ⟨by rfl, ?_⟩) hHeld ?_ ?_
               rotate_left
               ·rintro w' ⟨s0, s1, s2, s3⟩
                exact gs
               rotate_left
               ·exact ap
               refine take_ (i := 5) (N := some 86) (v := ?_) (a' := ?_) mk7_16 rfl rfl (take_ofW HT_.out HW_.out (by kernel_rfl)) (fun _ _ _ h => h) (Or.inl ⟨by rfl, ?_⟩) hHeld ?_ ?_
               rotate_left
               ·rintro w' ⟨s0, s1, s2, s3⟩
                exact gs
               rotate_left
               ·exact ap
               refine take_ (i := 6) (N := some 87) (v := ?_) (a' := ?_) mk7_19 rfl rfl (take_ofW HT_.out HW_.out (by kernel_rfl)) (fun _ _ _ h => h) (Or.inl ⟨by rfl, ?_⟩) hHeld ?_ ?_
               rotate_left
               ·rintro w' ⟨s0, s1, s2, s3⟩
                exact gs
               rotate_left
               ·exact ap
               refine pz 10 91 mk7_20 (any_of HT_.out (by kernel_rfl)) ?_
               refine one_ (i := 11) (N := none) mk7_21 rfl rfl (one_of HT_.out (by kernel_rfl)) v7_0 (fun K hK => ?_)
               have hs85 : w84.cell? ⟨gb182, 0, none⟩ = some (.string (⟨#[]⟩ : ByteArray)) := (blk_cell BK182.out 0).trans rfl
               have hfs85 := blk_frozen BK182.out 0
               have hns85_0 := NB178_182.out
               have hns85_2 := NB194_182.out
               have hms85_0 := NB182_178.out
               have hms85_2 := NB182_194.out
               have hs86 : w84.cell? ⟨gb182, 1, none⟩ = some (.int .i64 0) := (blk_cell BK182.out 1).trans rfl
               have hfs86 := blk_frozen BK182.out 1
               have hns86_0 := NB178_182.out
               have hns86_2 := NB194_182.out
               have hms86_0 := NB182_178.out
               have hms86_2 := NB182_194.out
               have hs87 : w84.cell? ⟨gb182, 2, none⟩ = some (.string (⟨#[]⟩ : ByteArray)) := (blk_cell BK182.out 2).trans rfl
               have hfs87 := blk_frozen BK182.out 2
               have hns87_0 := NB178_182.out
               have hns87_2 := NB194_182.out
               have hms87_0 := NB182_178.out
               have hms87_2 := NB182_194.out
               have hs88 : w84.cell? ⟨gb182, 3, none⟩ = some (.int .i64 0) := (blk_cell BK182.out 3).trans rfl
               have hfs88 := blk_frozen BK182.out 3
               have hns88_0 := NB178_182.out
               have hns88_2 := NB194_182.out
               have hms88_0 := NB182_178.out
               have hms88_2 := NB182_194.out
               have hs89 : w84.cell? ⟨gb182, 4, none⟩ = some (.int .i64 0) := (blk_cell BK182.out 4).trans rfl
               have hfs89 := blk_frozen BK182.out 4
               have hns89_0 := NB178_182.out
               have hns89_2 := NB194_182.out
               have hms89_0 := NB182_178.out
               have hms89_2 := NB182_194.out
               have hs90 : w84.cell? ⟨gb182, 5, none⟩ = some (.int .i64 0) := (blk_cell BK182.out 5).trans rfl
               have hfs90 := blk_frozen BK182.out 5
               have hns90_0 := NB178_182.out
               have hns90_2 := NB194_182.out
               have hms90_0 := NB182_178.out
               have hms90_2 := NB182_194.out
               have hs91 : w84.cell? ⟨gb182, 6, none⟩ = some (.int .i64 0) := (blk_cell BK182.out 6).trans rfl
               have hfs91 := blk_frozen BK182.out 6
               have hns91_0 := NB178_182.out
               have hns91_2 := NB194_182.out
               have hms91_0 := NB182_178.out
               have hms91_2 := NB182_194.out
               have hs92 : w84.cell? ⟨gb182, 7, none⟩ = some (.int .i64 0) := (blk_cell BK182.out 7).trans rfl
               have hfs92 := blk_frozen BK182.out 7
               have hns92_0 := NB178_182.out
               have hns92_2 := NB194_182.out
               have hms92_0 := NB182_178.out
               have hms92_2 := NB182_194.out
               refine skip_ (w1 := ?_) (by rfl) rfl ?_ ?_
               rotate_left
               ·go_simp
                rfl
               have hne_ : ad190.block ≠ gb182 := Kd.own_blk (Kd.R_ne HO_4.out BK182.out v7_0)
               refine hK.out _ _ ⟨(far8 NB194_182.out hHeld.1), (far8 NB194_182.out hHeld.2.1), (far8 hne_ hHeld.2.2.1), (far8 hne_ hHeld.2.2.2)⟩ (fun hHeld => ?_)
               clear hK K
               refine done_ (done_of HT_.out (by kernel_rfl)) ?_
               have hnb93 := NB182_178.out
               have hnc93 := NB178_182.out
               obtain ⟨hcz94_0, hcz94_1, hcz94_2, hcz94_3, hcz94_4, hcz94_5, hcz94_6, hcz94_7, hfz94_0, hfz94_1, hfz94_2, hfz94_3, hfz94_4, hfz94_5, hfz94_6, hfz94_7⟩ := cf8 BK182.out
               try go_wp2_with (first | (go_at_call 20; (with_reducible refine (impl_FormatDevice.calls kj37 (rdOf ByteArray.empty t179 1) 2 (rdOf ByteArray.empty t179 3) t191 t192 t196 t199 t202 t206 _ A74.out).mono ?_); rintro e w95 ⟨rfl, hb⟩; have n0_ := am (Kd.R_below u7_18 hb); have n1_ := am (blk_below (g := gb178) (o := zo0 (⟨#[]⟩ : ByteArray) 0 (⟨#[]⟩ : ByteArray) 0 0 0 0 0) u7_3 hb); have n2_ := am (blk_below (g := gb182) (o := zo0 (rdOf ByteArray.empty t179 1) 2 (rdOf ByteArray.empty t179 3) t191 t192 t196 t199 t202) u7_10 hb); have n3_ := am (blk_below (g := gb194) (o := zo2 t191 t192) u7_15 hb); have n4_ := am (below_step u7_12 hb); clear HO_4 BK178 BK182 BK194 HB; have HO_4 := n0_; have BK178 := n1_; have BK182 := n2_; have BK194 := n3_; have HB := n4_; clear n0_ n1_ n2_ n3_ n4_; (try clear hb); (try clear hb2); (try clear hk); (try clear hi); obtain ⟨hcz96_0, hcz96_1, hcz96_2, hcz96_3, hcz96_4, hcz96_5, hcz96_6, hcz96_7, hfz96_0, hfz96_1, hfz96_2, hfz96_3, hfz96_4, hfz96_5, hfz96_6, hfz96_7⟩ := cf8 BK182.out; obtain ⟨hcz97_0, hcz97_1, hcz97_2, hcz97_3, hcz97_4, hcz97_5, hcz97_6, hcz97_7, hfz97_0, hfz97_1, hfz97_2, hfz97_3, hfz97_4, hfz97_5, hfz97_6, hfz97_7⟩ := cf8 BK178.out))
               refine bodyPost_ret (results_ct rfl _ _ gb178 38 #[.string (rdOf ByteArray.empty t179 1), .int .i64 2, .string (rdOf ByteArray.empty t179 3), .int .i64 t191, .int .i64 t192, .int .i64 t196, .int .i64 t199, .int .i64 t202] (0, 0) _ rfl (by (with_reducible repeat (first | refine bN ?_ _ | refine bD ?_ | refine bA ?_ _)); refine blk_put (cs := zr6 (rdOf ByteArray.empty t179 1) 2 (rdOf ByteArray.empty t179 3) t191 t192 t196 t199 0) ?_ 7 _ rfl; refine blk_put (cs := zr6 (rdOf ByteArray.empty t179 1) 2 (rdOf ByteArray.empty t179 3) t191 t192 t196 0 0) ?_ 6 _ rfl; refine blk_put (cs := zr6 (rdOf ByteArray.empty t179 1) 2 (rdOf ByteArray.empty t179 3) t191 t192 0 0 0) ?_ 5 _ rfl; refine blk_put (cs := zr6 (rdOf ByteArray.empty t179 1) 2 (rdOf ByteArray.empty t179 3) t191 0 0 0 0) ?_ 4 _ rfl; refine blk_put (cs := zr6 (rdOf ByteArray.empty t179 1) 2 (rdOf ByteArray.empty t179 3) 0 0 0 0 0) ?_ 3 _ rfl; refine blk_put (cs := zr6 (rdOf ByteArray.empty t179 1) 2 (⟨#[]⟩ : ByteArray) 0 0 0 0 0) ?_ 2 _ rfl; (with_reducible repeat (first | refine bN ?_ _ | refine bD ?_ | refine bA ?_ _)); refine blk_put (cs := zr6 (rdOf ByteArray.empty t179 1) 0 (⟨#[]⟩ : ByteArray) 0 0 0 0 0) ?_ 1 _ rfl; (with_reducible repeat (first | refine bN ?_ _ | refine bD ?_ | refine bA ?_ _)); refine blk_put (cs := zr6 (⟨#[]⟩ : ByteArray) 0 (⟨#[]⟩ : ByteArray) 0 0 0 0 0) ?_ 0 _ rfl; exact bd BK178.out) Tryd.underlying38 rfl (by kernel_rfl)) rfl ?_
               exact ⟨by first | rfl | (simp [*] <;> rfl), s7_0⟩
              ·rw [if_neg c75] at H
               have c75b0 : (t206.toList == a0.toList) = false := beq_eq_false_iff_ne.mpr c75
               have c75b1 : (t206.toList != a0.toList) = true := bne_iff_ne.mpr c75
               simp only [Option.some.injEq, Prod.mk.injEq] at H
               obtain ⟨rfl, rfl, rfl, rfl, rfl, rfl, rfl, rfl, rfl⟩ := H
               obtain ⟨Ao98, co98, eo98⟩ := Kd.R_slice HO_4.out
               subst eo98
               have p190 : 0 ≤ (5 : Int) := (by omega)
               have q190 : 5 < (t179.length : Int) := od u7_24
               obtain ⟨ad190, e190, hx190_0⟩ := Kd.at_string (Kd.R_reads' HO_4.out).2.2 5 p190 q190
               cases e190
               (try simp only [show (5 : Int).toNat = 5 from rfl, Nat.reduceMul, Nat.reduceEqDiff, Go.Addr.add, ↓reduceIte] at hx190_0)
               have qi190 : (5 < t179.length) = True := eq_true (by omega)
               (try rw [show ((5 : Int)).toNat = 5 from rfl] at hx190_0)
               replace p190 := eq_true p190
               replace q190 := eq_true q190
               try go_wp2_with (first | ((with_reducible refine gate_callee (f := 53) rfl ?_); refine goesL_ (some 57) rfl rfl Tryd.func53 (by kernel_rfl) rfl #[.string (rdOf ByteArray.empty t179 5)] rfl u7_13 ?_; (with_reducible refine (impl_ParsePlace.calls kj37 (rdOf ByteArray.empty t179 5) t191 t192 t193 _ A45.out).mono ?_); rintro e w99 ⟨rfl, hb⟩; refine ⟨_, rfl, ?_⟩; have n0_ := am (Kd.R_below u7_9 hb); have n1_ := am (blk_below (g := gb178) (o := zo0 (⟨#[]⟩ : ByteArray) 0 (⟨#[]⟩ : ByteArray) 0 0 0 0 0) u7_5 hb); have n2_ := am (blk_below (g := gb182) (o := zo0 (⟨#[]⟩ : ByteArray) 0 (⟨#[]⟩ : ByteArray) 0 0 0 0 0) u7_6 hb); have n3_ := am (below_step u7_4 hb); clear HO_4 BK178 BK182 HB; have HO_4 := n0_; have BK178 := n1_; have BK182 := n2_; have HB := n3_; clear n0_ n1_ n2_ n3_; (try clear hb); (try clear hb2); (try clear hk); (try clear hi)) | ((with_reducible refine gate_dst (N := 8) rfl ?_); refine box_event ?hg (N := 8) ?hd (cs := #[.int .i64 0, .int .i64 0]) (t := 36) ?hr ?_; (case hd => rfl); (case hg => rfl); (case hr => exact gq); intro gb194 hg w100 hbox hb; have n0_ := am (Kd.R_below u7_9 hb); have n1_ := am (blk_below (g := gb178) (o := zo0 (⟨#[]⟩ : ByteArray) 0 (⟨#[]⟩ : ByteArray) 0 0 0 0 0) u7_5 hb); have n2_ := am (blk_below (g := gb182) (o := zo0 (⟨#[]⟩ : ByteArray) 0 (⟨#[]⟩ : ByteArray) 0 0 0 0 0) u7_6 hb); have n3_ := am (below_step u7_4 hb); have n4_ := am (hbox); have n5_ := bsw w hg (below_size u7_4); have n6_ := bsw w hg (below_size u7_4); have n7_ := am ((by rw [hg]; exact Nat.ne_of_lt (blk_lt (g := gb178) (o := zo0 (⟨#[]⟩ : ByteArray) 0 (⟨#[]⟩ : ByteArray) 0 0 0 0 0) u7_5) : gb178 ≠ gb194)); have n8_ := am ((by rw [hg]; exact Nat.ne_of_gt (blk_lt (g := gb178) (o := zo0 (⟨#[]⟩ : ByteArray) 0 (⟨#[]⟩ : ByteArray) 0 0 0 0 0) u7_5) : gb194 ≠ gb178)); have n9_ := am ((by rw [hg]; exact Nat.ne_of_lt (blk_lt (g := gb182) (o := zo0 (⟨#[]⟩ : ByteArray) 0 (⟨#[]⟩ : ByteArray) 0 0 0 0 0) u7_6) : gb182 ≠ gb194)); have n10_ := am ((by rw [hg]; exact Nat.ne_of_gt (blk_lt (g := gb182) (o := zo0 (⟨#[]⟩ : ByteArray) 0 (⟨#[]⟩ : ByteArray) 0 0 0 0 0) u7_6) : gb194 ≠ gb182)); clear HO_4 BK178 BK182 HB; have HO_4 := n0_; have BK178 := n1_; have BK182 := n2_; have HB := n3_; have BK194 := n4_; have GW194 := n5_; have GE194 := n6_; have NB178_194 := n7_; have NB194_178 := n8_; have NB182_194 := n9_; have NB194_182 := n10_; clear n0_ n1_ n2_ n3_ n4_ n5_ n6_ n7_ n8_ n9_ n10_ hb hbox hg; have hnb101 := NB194_178.out; have hnc101 := NB178_194.out; have hnb102 := NB194_182.out; have hnc102 := NB182_194.out; obtain ⟨hcz103_0, hcz103_1, hfz103_0, hfz103_1⟩ := cf2 BK194.out; have p195 : 0 ≤ (7 : Int) := (by omega); have q195 : 7 < (t179.length : Int) := od u7_24; obtain ⟨ad195, e195, hx195_0⟩ := Kd.at_string (Kd.R_reads' HO_4.out).2.2 7 p195 q195; obtain rfl : ad190 = ad195 := (by injection e195); (try simp only [show (7 : Int).toNat = 7 from rfl, Nat.reduceMul, Nat.reduceEqDiff, Go.Addr.add, ↓reduceIte] at hx195_0); have qi195 : (7 < t179.length) = True := eq_true (by omega); (try rw [show ((7 : Int)).toNat = 7 from rfl] at hx195_0); have hn195_0 : ad190.block ≠ gb194 := Kd.own_blk (Kd.R_ne HO_4.out BK194.out v7_0); have hn195_1 : ad190.block ≠ gb194 := Kd.own_blk (Kd.R_ne HO_4.out BK194.out v7_0); replace hx195_0 := (cell_far (p := ⟨gb194, 0, none⟩) u7_29 (.int .i64 t191)).trans hx195_0; replace hx195_0 := (cell_far (p := ⟨gb194, 1, none⟩) u7_28 (.int .i64 t192)).trans hx195_0; clear hn195_0 hn195_1; replace p195 := eq_true p195; replace q195 := eq_true q195) | ((with_reducible refine gate_callee (f := 37) rfl ?_); refine goesL_ (some 64) rfl rfl Tryd.func37 (by kernel_rfl) rfl #[.string (rdOf ByteArray.empty t179 7)] rfl u7_13 ?_; (with_reducible refine (impl_ParseNumber.calls kj37 (rdOf ByteArray.empty t179 7) t196 t197 _ A47.out).mono ?_); rintro e w' ⟨rfl, ⟨nd, rfl⟩⟩; refine ⟨_, rfl, ?_⟩; have p198 : 0 ≤ (9 : Int) := (by omega); have q198 : 9 < (t179.length : Int) := od u7_24; obtain ⟨ad198, e198, hx198_0⟩ := Kd.at_string (Kd.R_reads' HO_4.out).2.2 9 p198 q198; obtain rfl : ad190 = ad198 := (by injection e198); (try simp only [show (9 : Int).toNat = 9 from rfl, Nat.reduceMul, Nat.reduceEqDiff, Go.Addr.add, ↓reduceIte] at hx198_0); have qi198 : (9 < t179.length) = True := eq_true (by omega); (try rw [show ((9 : Int)).toNat = 9 from rfl] at hx198_0); have hn198_0 : ad190.block ≠ gb194 := Kd.own_blk (Kd.R_ne HO_4.out BK194.out v7_0); have hn198_1 : ad190.block ≠ gb194 := Kd.own_blk (Kd.R_ne HO_4.out BK194.out v7_0); replace hx198_0 := (cell_far (p := ⟨gb194, 0, none⟩) u7_27 (.int .i64 t191)).trans hx198_0; replace hx198_0 := (cell_far (p := ⟨gb194, 1, none⟩) u7_26 (.int .i64 t192)).trans hx198_0; clear hn198_0 hn198_1; replace p198 := eq_true p198; replace q198 := eq_true q198) | ((with_reducible refine gate_callee (f := 38) rfl ?_); refine goesL_ (some 71) rfl rfl Tryd.func38 (by kernel_rfl) rfl #[.string (rdOf ByteArray.empty t179 9)] rfl u7_13 ?_; (with_reducible refine (impl_ParseMeasure.calls kj37 (rdOf ByteArray.empty t179 9) t199 t200 _ A49.out).mono ?_); rintro e w104 ⟨rfl, hb⟩; refine ⟨_, rfl, ?_⟩; have n0_ := am (Kd.R_below u7_23 hb); have n1_ := am (blk_below (g := gb178) (o := zo0 (⟨#[]⟩ : ByteArray) 0 (⟨#[]⟩ : ByteArray) 0 0 0 0 0) u7_17 hb); have n2_ := am (blk_below (g := gb182) (o := zo0 (⟨#[]⟩ : ByteArray) 0 (⟨#[]⟩ : ByteArray) 0 0 0 0 0) u7_16 hb); have n3_ := am (blk_below (g := gb194) (o := zo2 t191 t192) u7_21 hb); have n4_ := am (below_step u7_12 hb); clear HO_4 BK178 BK182 BK194 HB; have HO_4 := n0_; have BK178 := n1_; have BK182 := n2_; have BK194 := n3_; have HB := n4_; clear n0_ n1_ n2_ n3_ n4_; (try clear hb); (try clear hb2); (try clear hk); (try clear hi); have p201 : 0 ≤ (11 : Int) := (by omega); have q201 : 11 < (t179.length : Int) := od u7_24; obtain ⟨ad201, e201, hx201_0⟩ := Kd.at_string (Kd.R_reads' HO_4.out).2.2 11 p201 q201; obtain rfl : ad190 = ad201 := (by injection e201); (try simp only [show (11 : Int).toNat = 11 from rfl, Nat.reduceMul, Nat.reduceEqDiff, Go.Addr.add, ↓reduceIte] at hx201_0); have qi201 : (11 < t179.length) = True := eq_true (by omega); (try rw [show ((11 : Int)).toNat = 11 from rfl] at hx201_0); replace p201 := eq_true p201; replace q201 := eq_true q201) | ((with_reducible refine gate_callee (f := 38) rfl ?_); refine goesL_ (some 78) rfl rfl Tryd.func38 (by kernel_rfl) rfl #[.string (rdOf ByteArray.empty t179 11)] rfl u7_13 ?_; (with_reducible refine (impl_ParseMeasure.calls kj37 (rdOf ByteArray.empty t179 11) t202 t203 _ A51.out).mono ?_); rintro e w105 ⟨rfl, hb⟩; refine ⟨_, rfl, ?_⟩; have n0_ := am (Kd.R_below u7_9 hb); have n1_ := am (blk_below (g := gb178) (o := zo0 (⟨#[]⟩ : ByteArray) 0 (⟨#[]⟩ : ByteArray) 0 0 0 0 0) u7_5 hb); have n2_ := am (blk_below (g := gb182) (o := zo0 (⟨#[]⟩ : ByteArray) 0 (⟨#[]⟩ : ByteArray) 0 0 0 0 0) u7_6 hb); have n3_ := am (blk_below (g := gb194) (o := zo2 t191 t192) u7_30 hb); have n4_ := am (below_step u7_12 hb); clear HO_4 BK178 BK182 BK194 HB; have HO_4 := n0_; have BK178 := n1_; have BK182 := n2_; have BK194 := n3_; have HB := n4_; clear n0_ n1_ n2_ n3_ n4_; (try clear hb); (try clear hb2); (try clear hk); (try clear hi)))
               have n0_ := am (Kd.R_drew HO_4.out)
               have n1_ := am (blk_drew BK178.out)
               have n2_ := am (blk_drew BK182.out)
               have n3_ := am (blk_drew BK194.out)
               have n4_ := am (below_drew1 HB.out)
               clear HO_4 BK178 BK182 BK194 HB
               have HO_4 := n0_
               have BK178 := n1_
               have BK182 := n2_
               have BK194 := n3_
               have HB := n4_
               clear n0_ n1_ n2_ n3_ n4_
               have p204 : 0 ≤ (1 : Int) := (by omega)
               have q204 : 1 < (t179.length : Int) := od u7_24
               obtain ⟨ad204, e204, hx204_0⟩ := Kd.at_string (Kd.R_reads' HO_4.out).2.2 1 p204 q204
               obtain rfl : ad190 = ad204 := (by injection e204)
               (try simp only [show (1 : Int).toNat = 1 from rfl, Nat.reduceMul, Nat.reduceEqDiff, Go.Addr.add, ↓reduceIte] at hx204_0)
               have qi204 : (1 < t179.length) = True := eq_true (by omega)
               (try rw [show ((1 : Int)).toNat = 1 from rfl] at hx204_0)
               replace p204 := eq_true p204
               replace q204 := eq_true q204
               have p205 : 0 ≤ (3 : Int) := (by omega)
               have q205 : 3 < (t179.length : Int) := od u7_24
               obtain ⟨ad205, e205, hx205_0⟩ := Kd.at_string (Kd.R_reads' HO_4.out).2.2 3 p205 q205
               obtain rfl : ad190 = ad205 := (by injection e205)
               (try simp only [show (3 : Int).toNat = 3 from rfl, Nat.reduceMul, Nat.reduceEqDiff, Go.Addr.add, ↓reduceIte] at hx205_0)
               have qi205 : (3 < t179.length) = True := eq_true (by omega)
               (try rw [show ((3 : Int)).toNat = 3 from rfl] at hx205_0)
               replace p205 := eq_true p205
               replace q205 := eq_true q205
               refine start_ (n := 12) (S := fun w' => zc5 w' gb194 t191 t192 (w'.cell? ⟨ad190.block, ad190.off + 1, none⟩ = some (.string (rdOf ByteArray.empty t179 1)) ∧ w'.cell? ⟨ad190.block, ad190.off + 3, none⟩ = some (.string (rdOf ByteArray.empty t179 3)))) (ds := []) mk7_0 (by kernel_rfl) rfl rfl ⟨(blk_cell BK194.out 0).trans rfl, (blk_cell BK194.out 1).trans rfl, hx204_0, hx205_0⟩ (fun hHeld => ?_); refine with_tabW impl_ParseDevice.tab11 impl_ParseDevice.bits11 (fun HT_ HW_ => ?_)
               generalize w105.drew = w106 at HO_4 BK178 BK182 BK194 HB hx204_0 hx205_0 hHeld ⊢
               refine pz 0 81 mk7_2 (any_of HT_.out (by kernel_rfl)) ?_
               refine pz 1 82 mk7_4 (any_of HT_.out (by kernel_rfl)) ?_
               refine pz 3 84 mk7_6 (any_of HT_.out (by kernel_rfl)) ?_
               refine pz 4 85 mk7_8 (any_of HT_.out (by kernel_rfl)) ?_
               refine pz 7 88 mk7_10 (any_of HT_.out (by kernel_rfl)) ?_
               refine pz 8 89 mk7_11 (any_of HT_.out (by kernel_rfl)) ?_
               refine pz 9 90 mk7_12 (any_of HT_.out (by kernel_rfl)) ?_
               refine take_ (i := 2) (N := some 83) (v := ?_) (a' := ?_) mk7_14 rfl rfl (take_ofW HT_.out HW_.out (by kernel_rfl)) (fun _ _ _ h => h) (Or.inl ⟨by rfl, ?_⟩) hHeld ?_ ?_
               rotate_left
               ·rintro w' ⟨s0, s1, s2, s3⟩
                exact gs
               rotate_left
               ·exact ap
               refine take_ (i := 5) (N := some 86) (v := ?_) (a' := ?_) mk7_16 rfl rfl (take_ofW HT_.out HW_.out (by kernel_rfl)) (fun _ _ _ h => h) (Or.inl ⟨by rfl, ?_⟩) hHeld ?_ ?_
               rotate_left
               ·rintro w' ⟨s0, s1, s2, s3⟩
                exact gs
               rotate_left
               ·exact ap
               refine take_ (i := 6) (N := some 87) (v := ?_) (a' := ?_) mk7_19 rfl rfl (take_ofW HT_.out HW_.out (by kernel_rfl)) (fun _ _ _ h => h) (Or.inl ⟨by rfl, ?_⟩) hHeld ?_ ?_
               rotate_left
               ·rintro w' ⟨s0, s1, s2, s3⟩
                exact gs
               rotate_left
               ·exact ap
               refine pz 10 91 mk7_20 (any_of HT_.out (by kernel_rfl)) ?_
               refine one_ (i := 11) (N := none) mk7_21 rfl rfl (one_of HT_.out (by kernel_rfl)) v7_0 (fun K hK => ?_)
               have hs107 : w106.cell? ⟨gb182, 0, none⟩ = some (.string (⟨#[]⟩ : ByteArray)) := (blk_cell BK182.out 0).trans rfl
               have hfs107 := blk_frozen BK182.out 0
               have hns107_0 := NB178_182.out
               have hns107_2 := NB194_182.out
               have hms107_0 := NB182_178.out
               have hms107_2 := NB182_194.out
               have hs108 : w106.cell? ⟨gb182, 1, none⟩ = some (.int .i64 0) := (blk_cell BK182.out 1).trans rfl
               have hfs108 := blk_frozen BK182.out 1
               have hns108_0 := NB178_182.out
               have hns108_2 := NB194_182.out
               have hms108_0 := NB182_178.out
               have hms108_2 := NB182_194.out
               have hs109 : w106.cell? ⟨gb182, 2, none⟩ = some (.string (⟨#[]⟩ : ByteArray)) := (blk_cell BK182.out 2).trans rfl
               have hfs109 := blk_frozen BK182.out 2
               have hns109_0 := NB178_182.out
               have hns109_2 := NB194_182.out
               have hms109_0 := NB182_178.out
               have hms109_2 := NB182_194.out
               have hs110 : w106.cell? ⟨gb182, 3, none⟩ = some (.int .i64 0) := (blk_cell BK182.out 3).trans rfl
               have hfs110 := blk_frozen BK182.out 3
               have hns110_0 := NB178_182.out
               have hns110_2 := NB194_182.out
               have hms110_0 := NB182_178.out
               have hms110_2 := NB182_194.out
               have hs111 : w106.cell? ⟨gb182, 4, none⟩ = some (.int .i64 0) := (blk_cell BK182.out 4).trans rfl
               have hfs111 := blk_frozen BK182.out 4
               have hns111_0 := NB178_182.out
               have hns111_2 := NB194_182.out
               have hms111_0 := NB182_178.out
               have hms111_2 := NB182_194.out
               have hs112 : w106.cell? ⟨gb182, 5, none⟩ = some (.int .i64 0) := (blk_cell BK182.out 5).trans rfl
               have hfs112 := blk_frozen BK182.out 5
               have hns112_0 := NB178_182.out
               have hns112_2 := NB194_182.out
               have hms112_0 := NB182_178.out
               have hms112_2 := NB182_194.out
               have hs113 : w106.cell? ⟨gb182, 6, none⟩ = some (.int .i64 0) := (blk_cell BK182.out 6).trans rfl
               have hfs113 := blk_frozen BK182.out 6
               have hns113_0 := NB178_182.out
               have hns113_2 := NB194_182.out
               have hms113_0 := NB182_178.out
               have hms113_2 := NB182_194.out
               have hs114 : w106.cell? ⟨gb182, 7, none⟩ = some (.int .i64 0) := (blk_cell BK182.out 7).trans rfl
               have hfs114 := blk_frozen BK182.out 7
               have hns114_0 := NB178_182.out
               have hns114_2 := NB194_182.out
               have hms114_0 := NB182_178.out
               have hms114_2 := NB182_194.out
               refine skip_ (w1 := ?_) (by rfl) rfl ?_ ?_
               rotate_left
               ·go_simp
                rfl
               have hne_ : ad190.block ≠ gb182 := Kd.own_blk (Kd.R_ne HO_4.out BK182.out v7_0)
               refine hK.out _ _ ⟨(far8 NB194_182.out hHeld.1), (far8 NB194_182.out hHeld.2.1), (far8 hne_ hHeld.2.2.1), (far8 hne_ hHeld.2.2.2)⟩ (fun hHeld => ?_)
               clear hK K
               refine done_ (done_of HT_.out (by kernel_rfl)) ?_
               have hnb115 := NB182_178.out
               have hnc115 := NB178_182.out
               obtain ⟨hcz116_0, hcz116_1, hcz116_2, hcz116_3, hcz116_4, hcz116_5, hcz116_6, hcz116_7, hfz116_0, hfz116_1, hfz116_2, hfz116_3, hfz116_4, hfz116_5, hfz116_6, hfz116_7⟩ := cf8 BK182.out
               try go_wp2_with (first | (go_at_call 20; (with_reducible refine (impl_FormatDevice.calls kj37 (rdOf ByteArray.empty t179 1) 2 (rdOf ByteArray.empty t179 3) t191 t192 t196 t199 t202 t206 _ A74.out).mono ?_); rintro e w117 ⟨rfl, hb⟩; have n0_ := am (Kd.R_below u7_18 hb); have n1_ := am (blk_below (g := gb178) (o := zo0 (⟨#[]⟩ : ByteArray) 0 (⟨#[]⟩ : ByteArray) 0 0 0 0 0) u7_3 hb); have n2_ := am (blk_below (g := gb182) (o := zo0 (rdOf ByteArray.empty t179 1) 2 (rdOf ByteArray.empty t179 3) t191 t192 t196 t199 t202) u7_10 hb); have n3_ := am (blk_below (g := gb194) (o := zo2 t191 t192) u7_15 hb); have n4_ := am (below_step u7_12 hb); clear HO_4 BK178 BK182 BK194 HB; have HO_4 := n0_; have BK178 := n1_; have BK182 := n2_; have BK194 := n3_; have HB := n4_; clear n0_ n1_ n2_ n3_ n4_; (try clear hb); (try clear hb2); (try clear hk); (try clear hi); obtain ⟨hcz118_0, hcz118_1, hcz118_2, hcz118_3, hcz118_4, hcz118_5, hcz118_6, hcz118_7, hfz118_0, hfz118_1, hfz118_2, hfz118_3, hfz118_4, hfz118_5, hfz118_6, hfz118_7⟩ := cf8 BK178.out))
               refine bodyPost_ret (results_ct rfl _ _ gb178 38 #[.string (⟨#[]⟩ : ByteArray), .int .i64 0, .string (⟨#[]⟩ : ByteArray), .int .i64 0, .int .i64 0, .int .i64 0, .int .i64 0, .int .i64 0] (0, 0) _ rfl u7_1 Tryd.underlying38 rfl (by kernel_rfl)) rfl ?_
               exact ⟨by first | rfl | (simp [*] <;> rfl), s7_0⟩
            ·rw [if_neg c53] at H
             exact absurd H (by simp)
           ·rw [if_neg c52] at H
            exact absurd H (by simp)
          ·rw [if_neg c50] at H
           exact absurd H (by simp)
         ·rw [if_neg c48] at H
          exact absurd H (by simp)
        ·rw [if_neg c46] at H
         exact absurd H (by simp)
       ·rw [if_neg c44] at H
        exact absurd H (by simp)
      ·replace c43 := Bool.eq_false_iff.mpr c43
       subst c43
       have H1 : (if (t179.length : Int) = 6 then (if 0 < (t179.length : Int) then (impl_ParseDevice.j2 kj37 a0 t179 ((rdOf ByteArray.empty t179 0).toList == ([108, 97, 109, 112] : List UInt8)) (⟨#[]⟩ : ByteArray) 0 (⟨#[]⟩ : ByteArray) 0 0 0 0 0) else (none)) else (impl_ParseDevice.j2 kj37 a0 t179 false (⟨#[]⟩ : ByteArray) 0 (⟨#[]⟩ : ByteArray) 0 0 0 0 0)) = some (r1, r2, r3, r4, r5, r6, r7, r8, r9) := by rw [if_neg (show ¬ (false = true) by decide)] at H; exact H
       clear H
       have H := H1
       clear H1
       have HC119 := am H
       clear H
       go_upto_region 12 with (fail)
       go_cut [92] (fun v92 wc => ∃ (kq : Nat) (x92_118 : Bool), v92 = .bool x92_118 ∧ Aside0 (impl_ParseDevice.j2 kq a0 t179 x92_118 (⟨#[]⟩ : ByteArray) 0 (⟨#[]⟩ : ByteArray) 0 0 0 0 0 = some (r1, r2, r3, r4, r5, r6, r7, r8, r9)) ∧ Aside0 (kq ≤ kj37) ∧ Aside0 (Kd.R Kd.string 9 wc w.heap.size (fun _ => True) v180 t179) ∧ Aside0 (wc.heap[gb178]? = some (.cells #[.string (⟨#[]⟩ : ByteArray), .int .i64 0, .string (⟨#[]⟩ : ByteArray), .int .i64 0, .int .i64 0, .int .i64 0, .int .i64 0, .int .i64 0] 38 (0, 0))) ∧ Aside0 (wc.heap[gb182]? = some (.cells #[.string (⟨#[]⟩ : ByteArray), .int .i64 0, .string (⟨#[]⟩ : ByteArray), .int .i64 0, .int .i64 0, .int .i64 0, .int .i64 0, .int .i64 0] 38 (0, 0))) ∧ Aside0 (Below w.heap.size w wc))
       case first =>
        have H := HC119.out
        clear HC119
        by_cases c120 : (t179.length : Int) = 6
        ·rw [if_pos c120] at H
         have c120b0 : ((t179.length : Int) == 6) = true := beq_iff_eq.mpr c120
         have c120b1 : ((t179.length : Int) != 6) = false := bne_eq_false_iff_eq.mpr c120
         clear c120
         (first | rw [c120b0] | (simp only [i64_w, i32_w]; rw [c120b0]) | skip)
         by_cases c121 : 0 < (t179.length : Int)
         ·rw [if_pos c121] at H
          have c121b0 : decide (0 < (t179.length : Int)) = true := decide_eq_true c121
          have c121b1 : decide (0 < t179.length) = true := decide_eq_true (by omega)
          clear c121
          have H' := am H
          clear H
          obtain ⟨Ao122, co122, eo122⟩ := Kd.R_slice HO_4.out
          subst eo122
          have p207 : 0 ≤ (0 : Int) := (by omega)
          have q207 : 0 < (t179.length : Int) := od u7_24
          obtain ⟨ad207, e207, hx207_0⟩ := Kd.at_string (Kd.R_reads' HO_4.out).2.2 0 p207 q207
          cases e207
          have qi207 : (0 < t179.length) = True := eq_true (by omega)
          (try rw [show ((0 : Int)).toNat = 0 from rfl] at hx207_0)
          (try rw [Addr.add_zero'] at hx207_0)
          replace p207 := eq_true p207
          replace q207 := eq_true q207
          go_wp2
          go_meet
          case rel => exact ⟨_, (((rdOf ByteArray.empty t179 0).toList == ([108, 97, 109, 112] : List UInt8))), u7_31, H', ⟨by have := HJ2.out; have := HJ37.out; first | omega | exact Nat.le_refl _⟩, ⟨by (with_reducible repeat (first | apply Kd.R_alloc | apply Kd.R_drewN | apply Kd.R_drew)); exact HO_4.out⟩, ⟨bd BK178.out⟩, ⟨bd BK182.out⟩, ⟨s7_2⟩⟩
         ·rw [if_neg c121] at H
          exact absurd H (by simp)
        ·rw [if_neg c120] at H
         have c120b0 : ((t179.length : Int) == 6) = false := beq_eq_false_iff_ne.mpr c120
         have c120b1 : ((t179.length : Int) != 6) = true := bne_iff_ne.mpr c120
         (first | rw [c120b0] | (simp only [i64_w, i32_w]; rw [c120b0]) | skip)
         have H' := am H
         clear H
         obtain ⟨Ao123, co123, eo123⟩ := Kd.R_slice HO_4.out
         subst eo123
         go_wp2
         go_meet
         case rel => exact ⟨_, (false), u7_31, H', ⟨by have := HJ2.out; have := HJ37.out; first | omega | exact Nat.le_refl _⟩, ⟨by (with_reducible repeat (first | apply Kd.R_alloc | apply Kd.R_drewN | apply Kd.R_drew)); exact HO_4.out⟩, ⟨bd BK178.out⟩, ⟨bd BK182.out⟩, ⟨s7_2⟩⟩
       case rest =>
        clear HC119
        try clear c1
        try clear p1
        try clear q1
        try clear hx1
        try clear qi1
        try clear p2
        try clear q2
        try clear hx2
        try clear qi2
        try clear c3
        try clear c4
        try clear c5
        try clear c7
        try clear c8
        try clear c9
        try clear c10
        try clear c11
        try clear c12
        try clear p19
        try clear q19
        try clear hx19
        try clear qi19
        try clear p20
        try clear q20
        try clear hx20
        try clear qi20
        try clear c37
        try clear c38
        try clear c43
        try clear c44
        try clear c46
        try clear c48
        try clear c50
        try clear c52
        try clear c53
        try clear c54
        try clear c54b0
        try clear c54b1
        try clear c72
        try clear c75
        try clear c75b0
        try clear c75b1
        try clear c79
        try clear c80
        try clear c93
        try clear c101
        try clear c102
        try clear c115
        try clear c120
        try clear c120b0
        try clear c120b1
        try clear c121
        try clear c121b0
        try clear c121b1
        try clear hcz103_0
        try clear hcz103_1
        try clear hcz116_0
        try clear hcz116_1
        try clear hcz116_2
        try clear hcz116_3
        try clear hcz116_4
        try clear hcz116_5
        try clear hcz116_6
        try clear hcz116_7
        try clear hcz118_0
        try clear hcz118_1
        try clear hcz118_2
        try clear hcz118_3
        try clear hcz118_4
        try clear hcz118_5
        try clear hcz118_6
        try clear hcz118_7
        try clear hcz73_0
        try clear hcz73_1
        try clear hcz73_2
        try clear hcz73_3
        try clear hcz73_4
        try clear hcz73_5
        try clear hcz73_6
        try clear hcz73_7
        try clear hcz81_0
        try clear hcz81_1
        try clear hcz94_0
        try clear hcz94_1
        try clear hcz94_2
        try clear hcz94_3
        try clear hcz94_4
        try clear hcz94_5
        try clear hcz94_6
        try clear hcz94_7
        try clear hcz96_0
        try clear hcz96_1
        try clear hcz96_2
        try clear hcz96_3
        try clear hcz96_4
        try clear hcz96_5
        try clear hcz96_6
        try clear hcz96_7
        try clear hcz97_0
        try clear hcz97_1
        try clear hcz97_2
        try clear hcz97_3
        try clear hcz97_4
        try clear hcz97_5
        try clear hcz97_6
        try clear hcz97_7
        try clear hfz103_0
        try clear hfz103_1
        try clear hfz116_0
        try clear hfz116_1
        try clear hfz116_2
        try clear hfz116_3
        try clear hfz116_4
        try clear hfz116_5
        try clear hfz116_6
        try clear hfz116_7
        try clear hfz118_0
        try clear hfz118_1
        try clear hfz118_2
        try clear hfz118_3
        try clear hfz118_4
        try clear hfz118_5
        try clear hfz118_6
        try clear hfz118_7
        try clear hfz73_0
        try clear hfz73_1
        try clear hfz73_2
        try clear hfz73_3
        try clear hfz73_4
        try clear hfz73_5
        try clear hfz73_6
        try clear hfz73_7
        try clear hfz81_0
        try clear hfz81_1
        try clear hfz94_0
        try clear hfz94_1
        try clear hfz94_2
        try clear hfz94_3
        try clear hfz94_4
        try clear hfz94_5
        try clear hfz94_6
        try clear hfz94_7
        try clear hfz96_0
        try clear hfz96_1
        try clear hfz96_2
        try clear hfz96_3
        try clear hfz96_4
        try clear hfz96_5
        try clear hfz96_6
        try clear hfz96_7
        try clear hfz97_0
        try clear hfz97_1
        try clear hfz97_2
        try clear hfz97_3
        try clear hfz97_4
        try clear hfz97_5
        try clear hfz97_6
        try clear hfz97_7
        try clear hx190_0
        try clear hx195_0
        try clear hx198_0
        try clear hx201_0
        try clear hx204_0
        try clear hx205_0
        try clear hx207_0
        try clear p190
        try clear p195
        try clear p198
        try clear p201
        try clear p204
        try clear p205
        try clear p207
        try clear q190
        try clear q195
        try clear q198
        try clear q201
        try clear q204
        try clear q205
        try clear q207
        obtain ⟨kq, x92_118, rfl, HA, HJ118, HO_4, BK178, BK182, HB⟩ := hcut
        cases kq with
        | zero => exact absurd HA.out (by simp [impl_ParseDevice.j2])
        | succ kj118 =>
         have H := HA.out
         clear HA
         simp only [impl_ParseDevice.j2] at H
         by_cases c124 : x92_118 = true
         ·subst c124
          have H1 : (if 5 < (t179.length : Int) then ((impl_ParsePlace.f kj118 (rdOf ByteArray.empty t179 5)).bind fun bt209 => (if 1 < (t179.length : Int) then (if 3 < (t179.length : Int) then (if a0.toList = ([] : List UInt8) then (some ((⟨#[]⟩ : ByteArray), 0, (⟨#[]⟩ : ByteArray), 0, 0, 0, 0, 0, false)) else ((impl_FormatDevice.f kj118 (rdOf ByteArray.empty t179 1) 3 (rdOf ByteArray.empty t179 3) bt209.1 bt209.2.1 0 0 0).bind fun t215 => (if t215.toList = a0.toList then (some (rdOf ByteArray.empty t179 1, 3, rdOf ByteArray.empty t179 3, bt209.1, bt209.2.1, 0, 0, 0, true)) else (some ((⟨#[]⟩ : ByteArray), 0, (⟨#[]⟩ : ByteArray), 0, 0, 0, 0, 0, false))))) else (none)) else (none))) else (none)) = some (r1, r2, r3, r4, r5, r6, r7, r8, r9) := by rw [if_pos rfl] at H; exact H
          clear H
          have H := H1
          clear H1
          by_cases c125 : 5 < (t179.length : Int)
          ·rw [if_pos c125] at H
           have c125b0 : decide (5 < (t179.length : Int)) = true := decide_eq_true c125
           have c125b1 : decide (5 < t179.length) = true := decide_eq_true (by omega)
           clear c125
           replace H := ob H
           obtain ⟨⟨t209, t210, t211⟩, A1260, H⟩ := H
           replace H : (if 1 < (t179.length : Int) then (if 3 < (t179.length : Int) then (if a0.toList = ([] : List UInt8) then (some ((⟨#[]⟩ : ByteArray), 0, (⟨#[]⟩ : ByteArray), 0, 0, 0, 0, 0, false)) else ((impl_FormatDevice.f kj118 (rdOf ByteArray.empty t179 1) 3 (rdOf ByteArray.empty t179 3) t209 t210 0 0 0).bind fun t215 => (if t215.toList = a0.toList then (some (rdOf ByteArray.empty t179 1, 3, rdOf ByteArray.empty t179 3, t209, t210, 0, 0, 0, true)) else (some ((⟨#[]⟩ : ByteArray), 0, (⟨#[]⟩ : ByteArray), 0, 0, 0, 0, 0, false))))) else (none)) else (none)) = some (r1, r2, r3, r4, r5, r6, r7, r8, r9) := H
           have A126 := am A1260
           clear A1260
           by_cases c127 : 1 < (t179.length : Int)
           ·rw [if_pos c127] at H
            have c127b0 : decide (1 < (t179.length : Int)) = true := decide_eq_true c127
            have c127b1 : decide (1 < t179.length) = true := decide_eq_true (by omega)
            clear c127
            by_cases c128 : 3 < (t179.length : Int)
            ·rw [if_pos c128] at H
             have c128b0 : decide (3 < (t179.length : Int)) = true := decide_eq_true c128
             have c128b1 : decide (3 < t179.length) = true := decide_eq_true (by omega)
             clear c128
             by_cases c129 : a0.toList = ([] : List UInt8)
             ·rw [if_pos c129] at H
              have c129b0 : (a0.toList == ([] : List UInt8)) = true := beq_iff_eq.mpr c129
              have c129b1 : (a0.toList != ([] : List UInt8)) = false := bne_eq_false_iff_eq.mpr c129
              clear c129
              simp only [Option.some.injEq, Prod.mk.injEq] at H
              obtain ⟨rfl, rfl, rfl, rfl, rfl, rfl, rfl, rfl, rfl⟩ := H
              obtain ⟨Ao130, co130, eo130⟩ := Kd.R_slice HO_4.out
              subst eo130
              have p208 : 0 ≤ (5 : Int) := (by omega)
              have q208 : 5 < (t179.length : Int) := od u7_24
              obtain ⟨ad208, e208, hx208_0⟩ := Kd.at_string (Kd.R_reads' HO_4.out).2.2 5 p208 q208
              cases e208
              (try simp only [show (5 : Int).toNat = 5 from rfl, Nat.reduceMul, Nat.reduceEqDiff, Go.Addr.add, ↓reduceIte] at hx208_0)
              have qi208 : (5 < t179.length) = True := eq_true (by omega)
              (try rw [show ((5 : Int)).toNat = 5 from rfl] at hx208_0)
              replace p208 := eq_true p208
              replace q208 := eq_true q208
              try go_wp2_with (first | ((with_reducible refine gate_callee (f := 53) rfl ?_); refine goesL_ (some 106) rfl rfl Tryd.func53 (by kernel_rfl) rfl #[.string (rdOf ByteArray.empty t179 5)] rfl u7_13 ?_; (with_reducible refine (impl_ParsePlace.calls kj118 (rdOf ByteArray.empty t179 5) t209 t210 t211 _ A126.out).mono ?_); rintro e w131 ⟨rfl, hb⟩; refine ⟨_, rfl, ?_⟩; have n0_ := am (Kd.R_below u7_9 hb); have n1_ := am (blk_below (g := gb178) (o := zo0 (⟨#[]⟩ : ByteArray) 0 (⟨#[]⟩ : ByteArray) 0 0 0 0 0) u7_5 hb); have n2_ := am (blk_below (g := gb182) (o := zo0 (⟨#[]⟩ : ByteArray) 0 (⟨#[]⟩ : ByteArray) 0 0 0 0 0) u7_6 hb); have n3_ := am (below_step u7_4 hb); clear HO_4 BK178 BK182 HB; have HO_4 := n0_; have BK178 := n1_; have BK182 := n2_; have HB := n3_; clear n0_ n1_ n2_ n3_; (try clear hb); (try clear hb2); (try clear hk); (try clear hi)) | ((with_reducible refine gate_dst (N := 16) rfl ?_); refine box_event ?hg (N := 16) ?hd (cs := #[.int .i64 0, .int .i64 0]) (t := 36) ?hr ?_; (case hd => rfl); (case hg => rfl); (case hr => exact gq); intro gb212 hg w132 hbox hb; have n0_ := am (Kd.R_below u7_9 hb); have n1_ := am (blk_below (g := gb178) (o := zo0 (⟨#[]⟩ : ByteArray) 0 (⟨#[]⟩ : ByteArray) 0 0 0 0 0) u7_5 hb); have n2_ := am (blk_below (g := gb182) (o := zo0 (⟨#[]⟩ : ByteArray) 0 (⟨#[]⟩ : ByteArray) 0 0 0 0 0) u7_6 hb); have n3_ := am (below_step u7_4 hb); have n4_ := am (hbox); have n5_ := bsw w hg (below_size u7_4); have n6_ := bsw w hg (below_size u7_4); have n7_ := am ((by rw [hg]; exact Nat.ne_of_lt (blk_lt (g := gb178) (o := zo0 (⟨#[]⟩ : ByteArray) 0 (⟨#[]⟩ : ByteArray) 0 0 0 0 0) u7_5) : gb178 ≠ gb212)); have n8_ := am ((by rw [hg]; exact Nat.ne_of_gt (blk_lt (g := gb178) (o := zo0 (⟨#[]⟩ : ByteArray) 0 (⟨#[]⟩ : ByteArray) 0 0 0 0 0) u7_5) : gb212 ≠ gb178)); have n9_ := am ((by rw [hg]; exact Nat.ne_of_lt (blk_lt (g := gb182) (o := zo0 (⟨#[]⟩ : ByteArray) 0 (⟨#[]⟩ : ByteArray) 0 0 0 0 0) u7_6) : gb182 ≠ gb212)); have n10_ := am ((by rw [hg]; exact Nat.ne_of_gt (blk_lt (g := gb182) (o := zo0 (⟨#[]⟩ : ByteArray) 0 (⟨#[]⟩ : ByteArray) 0 0 0 0 0) u7_6) : gb212 ≠ gb182)); clear HO_4 BK178 BK182 HB; have HO_4 := n0_; have BK178 := n1_; have BK182 := n2_; have HB := n3_; have BK212 := n4_; have GW212 := n5_; have GE212 := n6_; have NB178_212 := n7_; have NB212_178 := n8_; have NB182_212 := n9_; have NB212_182 := n10_; clear n0_ n1_ n2_ n3_ n4_ n5_ n6_ n7_ n8_ n9_ n10_ hb hbox hg; have hnb133 := NB212_178.out; have hnc133 := NB178_212.out; have hnb134 := NB212_182.out; have hnc134 := NB182_212.out; obtain ⟨hcz135_0, hcz135_1, hfz135_0, hfz135_1⟩ := cf2 BK212.out))
              have n0_ : Aside0 (Kd.R Kd.string 9 ((w132.setCell ⟨gb212, 0, none⟩ (.int .i64 t209)).setCell ⟨gb212, 1, none⟩ (.int .i64 t210)) w.heap.size (fun _ => True) (.slice (some ad208) t179.length co130) t179) := ⟨by (with_reducible repeat (first | apply Kd.R_alloc | apply Kd.R_drewN | apply Kd.R_drew)); exact Kd.R_mono (Kd.R_far (p := ⟨gb212, 1, none⟩) (Kd.R_far (p := ⟨gb212, 0, none⟩) (Kd.R_types HO_4.out BK212.out v7_0) (fun _ hk => hk.2) (.int .i64 t209)) (fun _ hk => hk.2) (.int .i64 t210)) (fun _ hk => trivial)⟩
              have n1_ : Aside0 (((w132.setCell ⟨gb212, 0, none⟩ (.int .i64 t209)).setCell ⟨gb212, 1, none⟩ (.int .i64 t210)).heap[gb178]? = some (.cells #[.string (⟨#[]⟩ : ByteArray), .int .i64 0, .string (⟨#[]⟩ : ByteArray), .int .i64 0, .int .i64 0, .int .i64 0, .int .i64 0, .int .i64 0] 38 (0, 0))) := ⟨by (with_reducible repeat (first | refine bN ?_ _ | refine bD ?_ | refine bA ?_ _)); refine blk_far ?_ NB178_212.out _; (with_reducible repeat (first | refine bN ?_ _ | refine bD ?_ | refine bA ?_ _)); refine blk_far ?_ NB178_212.out _; exact bd BK178.out⟩
              have n2_ : Aside0 (((w132.setCell ⟨gb212, 0, none⟩ (.int .i64 t209)).setCell ⟨gb212, 1, none⟩ (.int .i64 t210)).heap[gb182]? = some (.cells #[.string (⟨#[]⟩ : ByteArray), .int .i64 0, .string (⟨#[]⟩ : ByteArray), .int .i64 0, .int .i64 0, .int .i64 0, .int .i64 0, .int .i64 0] 38 (0, 0))) := ⟨by (with_reducible repeat (first | refine bN ?_ _ | refine bD ?_ | refine bA ?_ _)); refine blk_far ?_ NB182_212.out _; (with_reducible repeat (first | refine bN ?_ _ | refine bD ?_ | refine bA ?_ _)); refine blk_far ?_ NB182_212.out _; exact bd BK182.out⟩
              have n3_ : Aside0 (((w132.setCell ⟨gb212, 0, none⟩ (.int .i64 t209)).setCell ⟨gb212, 1, none⟩ (.int .i64 t210)).heap[gb212]? = some (.cells #[.int .i64 t209, .int .i64 t210] 36 (0, 0))) := ⟨by (with_reducible repeat (first | refine bN ?_ _ | refine bD ?_ | refine bA ?_ _)); refine blk_put (cs := zr4 t209 0) ?_ 1 _ rfl; refine blk_put (cs := zr4 0 0) ?_ 0 _ rfl; exact bd BK212.out⟩
              have n4_ : Aside0 (Below w.heap.size w ((w132.setCell ⟨gb212, 0, none⟩ (.int .i64 t209)).setCell ⟨gb212, 1, none⟩ (.int .i64 t210))) := ⟨s7_1⟩
              (try clear HO_4)
              (try clear BK178)
              (try clear BK182)
              (try clear BK212)
              (try clear HB)
              (try simp only [show ∀ (w_ : World) (n_ : Nat) (a_ : Addr) (v_ : Value), (w_.drewN n_).setCell a_ v_ = (w_.setCell a_ v_).drewN n_ from fun _ _ _ _ => rfl, show ∀ (w_ : World) (a_ : Addr) (v_ : Value), w_.drew.setCell a_ v_ = (w_.setCell a_ v_).drew from fun _ _ _ => rfl])
              generalize ((w132.setCell ⟨gb212, 0, none⟩ (.int .i64 t209)).setCell ⟨gb212, 1, none⟩ (.int .i64 t210)) = w136 at n0_ n1_ n2_ n3_ n4_ ⊢
              have HO_4 := n0_
              have BK178 := n1_
              have BK182 := n2_
              have BK212 := n3_
              have HB := n4_
              clear n0_ n1_ n2_ n3_ n4_
              have n0_ := am (Kd.R_drew HO_4.out)
              have n1_ := am (blk_drew BK178.out)
              have n2_ := am (blk_drew BK182.out)
              have n3_ := am (blk_drew BK212.out)
              have n4_ := am (below_drew1 HB.out)
              clear HO_4 BK178 BK182 BK212 HB
              have HO_4 := n0_
              have BK178 := n1_
              have BK182 := n2_
              have BK212 := n3_
              have HB := n4_
              clear n0_ n1_ n2_ n3_ n4_
              have p213 : 0 ≤ (1 : Int) := (by omega)
              have q213 : 1 < (t179.length : Int) := od u7_24
              obtain ⟨ad213, e213, hx213_0⟩ := Kd.at_string (Kd.R_reads' HO_4.out).2.2 1 p213 q213
              obtain rfl : ad208 = ad213 := (by injection e213)
              (try simp only [show (1 : Int).toNat = 1 from rfl, Nat.reduceMul, Nat.reduceEqDiff, Go.Addr.add, ↓reduceIte] at hx213_0)
              have qi213 : (1 < t179.length) = True := eq_true (by omega)
              (try rw [show ((1 : Int)).toNat = 1 from rfl] at hx213_0)
              replace p213 := eq_true p213
              replace q213 := eq_true q213
              have p214 : 0 ≤ (3 : Int) := (by omega)
              have q214 : 3 < (t179.length : Int) := od u7_24
              obtain ⟨ad214, e214, hx214_0⟩ := Kd.at_string (Kd.R_reads' HO_4.out).2.2 3 p214 q214
              obtain rfl : ad208 = ad214 := (by injection e214)
              (try simp only [show (3 : Int).toNat = 3 from rfl, Nat.reduceMul, Nat.reduceEqDiff, Go.Addr.add, ↓reduceIte] at hx214_0)
              have qi214 : (3 < t179.length) = True := eq_true (by omega)
              (try rw [show ((3 : Int)).toNat = 3 from rfl] at hx214_0)
              replace p214 := eq_true p214
              replace q214 := eq_true q214
              refine start_ (n := 9) (S := fun w' => zc5 w' gb212 t209 t210 (w'.cell? ⟨ad208.block, ad208.off + 1, none⟩ = some (.string (rdOf ByteArray.empty t179 1)) ∧ w'.cell? ⟨ad208.block, ad208.off + 3, none⟩ = some (.string (rdOf ByteArray.empty t179 3)))) (ds := []) mk7_1 (by kernel_rfl) rfl rfl ⟨(blk_cell BK212.out 0).trans rfl, (blk_cell BK212.out 1).trans rfl, hx213_0, hx214_0⟩ (fun hHeld => ?_); refine with_tabW impl_ParseDevice.tab14 impl_ParseDevice.bits14 (fun HT_ HW_ => ?_)
              generalize w136.drew = w137 at HO_4 BK178 BK182 BK212 HB hx213_0 hx214_0 hHeld ⊢
              refine pz 0 109 mk7_3 (any_of HT_.out (by kernel_rfl)) ?_
              refine pz 1 110 mk7_5 (any_of HT_.out (by kernel_rfl)) ?_
              refine pz 3 112 mk7_7 (any_of HT_.out (by kernel_rfl)) ?_
              refine pz 4 113 mk7_9 (any_of HT_.out (by kernel_rfl)) ?_
              refine take_ (i := 2) (N := some 111) (v := ?_) (a' := ?_) mk7_13 rfl rfl (take_ofW HT_.out HW_.out (by kernel_rfl)) (fun _ _ _ h => h) (Or.inl ⟨by rfl, ?_⟩) hHeld ?_ ?_
              rotate_left
              ·rintro w' ⟨s0, s1, s2, s3⟩
               exact gs
              rotate_left
              ·exact ap
              refine take_ (i := 5) (N := some 114) (v := ?_) (a' := ?_) mk7_15 rfl rfl (take_ofW HT_.out HW_.out (by kernel_rfl)) (fun _ _ _ h => h) (Or.inl ⟨by rfl, ?_⟩) hHeld ?_ ?_
              rotate_left
              ·rintro w' ⟨s0, s1, s2, s3⟩
               exact gs
              rotate_left
              ·exact ap
              refine take_ (i := 6) (N := some 115) (v := ?_) (a' := ?_) mk7_17 rfl rfl (take_ofW HT_.out HW_.out (by kernel_rfl)) (fun _ _ _ h => h) (Or.inl ⟨by rfl, ?_⟩) hHeld ?_ ?_
              rotate_left
              ·rintro w' ⟨s0, s1, s2, s3⟩
               exact gs
              rotate_left
              ·exact ap
              refine pz 7 116 mk7_18 (any_of HT_.out (by kernel_rfl)) ?_
              refine one_ (i := 8) (N := none) mk7_22 rfl rfl (one_of HT_.out (by kernel_rfl)) v7_0 (fun K hK => ?_)
              have hs138 : w137.cell? ⟨gb182, 0, none⟩ = some (.string (⟨#[]⟩ : ByteArray)) := (blk_cell BK182.out 0).trans rfl
              have hfs138 := blk_frozen BK182.out 0
              have hns138_0 := NB178_182.out
              have hns138_2 := NB212_182.out
              have hms138_0 := NB182_178.out
              have hms138_2 := NB182_212.out
              have hs139 : w137.cell? ⟨gb182, 1, none⟩ = some (.int .i64 0) := (blk_cell BK182.out 1).trans rfl
              have hfs139 := blk_frozen BK182.out 1
              have hns139_0 := NB178_182.out
              have hns139_2 := NB212_182.out
              have hms139_0 := NB182_178.out
              have hms139_2 := NB182_212.out
              have hs140 : w137.cell? ⟨gb182, 2, none⟩ = some (.string (⟨#[]⟩ : ByteArray)) := (blk_cell BK182.out 2).trans rfl
              have hfs140 := blk_frozen BK182.out 2
              have hns140_0 := NB178_182.out
              have hns140_2 := NB212_182.out
              have hms140_0 := NB182_178.out
              have hms140_2 := NB182_212.out
              have hs141 : w137.cell? ⟨gb182, 3, none⟩ = some (.int .i64 0) := (blk_cell BK182.out 3).trans rfl
              have hfs141 := blk_frozen BK182.out 3
              have hns141_0 := NB178_182.out
              have hns141_2 := NB212_182.out
              have hms141_0 := NB182_178.out
              have hms141_2 := NB182_212.out
              have hs142 : w137.cell? ⟨gb182, 4, none⟩ = some (.int .i64 0) := (blk_cell BK182.out 4).trans rfl
              have hfs142 := blk_frozen BK182.out 4
              have hns142_0 := NB178_182.out
              have hns142_2 := NB212_182.out
              have hms142_0 := NB182_178.out
              have hms142_2 := NB182_212.out
              have hs143 : w137.cell? ⟨gb182, 5, none⟩ = some (.int .i64 0) := (blk_cell BK182.out 5).trans rfl
              have hfs143 := blk_frozen BK182.out 5
              have hns143_0 := NB178_182.out
              have hns143_2 := NB212_182.out
              have hms143_0 := NB182_178.out
              have hms143_2 := NB182_212.out
              have hs144 : w137.cell? ⟨gb182, 6, none⟩ = some (.int .i64 0) := (blk_cell BK182.out 6).trans rfl
              have hfs144 := blk_frozen BK182.out 6
              have hns144_0 := NB178_182.out
              have hns144_2 := NB212_182.out
              have hms144_0 := NB182_178.out
              have hms144_2 := NB182_212.out
              have hs145 : w137.cell? ⟨gb182, 7, none⟩ = some (.int .i64 0) := (blk_cell BK182.out 7).trans rfl
              have hfs145 := blk_frozen BK182.out 7
              have hns145_0 := NB178_182.out
              have hns145_2 := NB212_182.out
              have hms145_0 := NB182_178.out
              have hms145_2 := NB182_212.out
              refine skip_ (w1 := ?_) (by rfl) rfl ?_ ?_
              rotate_left
              ·go_simp
               rfl
              have hne_ : ad208.block ≠ gb182 := Kd.own_blk (Kd.R_ne HO_4.out BK182.out v7_0)
              refine hK.out _ _ ⟨(far8 NB212_182.out hHeld.1), (far8 NB212_182.out hHeld.2.1), (far8 hne_ hHeld.2.2.1), (far8 hne_ hHeld.2.2.2)⟩ (fun hHeld => ?_)
              clear hK K
              refine done_ (done_of HT_.out (by kernel_rfl)) ?_
              have hnb146 := NB178_182.out
              have hnc146 := NB182_178.out
              obtain ⟨hcz147_0, hcz147_1, hcz147_2, hcz147_3, hcz147_4, hcz147_5, hcz147_6, hcz147_7, hfz147_0, hfz147_1, hfz147_2, hfz147_3, hfz147_4, hfz147_5, hfz147_6, hfz147_7⟩ := cf8 BK178.out
              try go_wp2
              refine bodyPost_ret (results_ct rfl _ _ gb178 38 #[.string (⟨#[]⟩ : ByteArray), .int .i64 0, .string (⟨#[]⟩ : ByteArray), .int .i64 0, .int .i64 0, .int .i64 0, .int .i64 0, .int .i64 0] (0, 0) _ rfl u7_2 Tryd.underlying38 rfl (by kernel_rfl)) rfl ?_
              exact ⟨by first | rfl | (simp [*] <;> rfl), s7_1⟩
             ·rw [if_neg c129] at H
              have c129b0 : (a0.toList == ([] : List UInt8)) = false := beq_eq_false_iff_ne.mpr c129
              have c129b1 : (a0.toList != ([] : List UInt8)) = true := bne_iff_ne.mpr c129
              replace H := ob H
              obtain ⟨t215, A1480, H⟩ := H
              replace H : (if t215.toList = a0.toList then (some (rdOf ByteArray.empty t179 1, 3, rdOf ByteArray.empty t179 3, t209, t210, 0, 0, 0, true)) else (some ((⟨#[]⟩ : ByteArray), 0, (⟨#[]⟩ : ByteArray), 0, 0, 0, 0, 0, false))) = some (r1, r2, r3, r4, r5, r6, r7, r8, r9) := H
              have A148 := am A1480
              clear A1480
              by_cases c149 : t215.toList = a0.toList
              ·rw [if_pos c149] at H
               have c149b0 : (t215.toList == a0.toList) = true := beq_iff_eq.mpr c149
               have c149b1 : (t215.toList != a0.toList) = false := bne_eq_false_iff_eq.mpr c149
               clear c149
               simp only [Option.some.injEq, Prod.mk.injEq] at H
               obtain ⟨rfl, rfl, rfl, rfl, rfl, rfl, rfl, rfl, rfl⟩ := H
               obtain ⟨Ao150, co150, eo150⟩ := Kd.R_slice HO_4.out
               subst eo150
               have p208 : 0 ≤ (5 : Int) := (by omega)
               have q208 : 5 < (t179.length : Int) := od u7_24
               obtain ⟨ad208, e208, hx208_0⟩ := Kd.at_string (Kd.R_reads' HO_4.out).2.2 5 p208 q208
               cases e208
               (try simp only [show (5 : Int).toNat = 5 from rfl, Nat.reduceMul, Nat.reduceEqDiff, Go.Addr.add, ↓reduceIte] at hx208_0)
               have qi208 : (5 < t179.length) = True := eq_true (by omega)
               (try rw [show ((5 : Int)).toNat = 5 from rfl] at hx208_0)
               replace p208 := eq_true p208
               replace q208 := eq_true q208
               try go_wp2_with (first | ((with_reducible refine gate_callee (f := 53) rfl ?_); refine goesL_ (some 106) rfl rfl Tryd.func53 (by kernel_rfl) rfl #[.string (rdOf ByteArray.empty t179 5)] rfl u7_13 ?_; (with_reducible refine (impl_ParsePlace.calls kj118 (rdOf ByteArray.empty t179 5) t209 t210 t211 _ A126.out).mono ?_); rintro e w151 ⟨rfl, hb⟩; refine ⟨_, rfl, ?_⟩; have n0_ := am (Kd.R_below u7_9 hb); have n1_ := am (blk_below (g := gb178) (o := zo0 (⟨#[]⟩ : ByteArray) 0 (⟨#[]⟩ : ByteArray) 0 0 0 0 0) u7_5 hb); have n2_ := am (blk_below (g := gb182) (o := zo0 (⟨#[]⟩ : ByteArray) 0 (⟨#[]⟩ : ByteArray) 0 0 0 0 0) u7_6 hb); have n3_ := am (below_step u7_4 hb); clear HO_4 BK178 BK182 HB; have HO_4 := n0_; have BK178 := n1_; have BK182 := n2_; have HB := n3_; clear n0_ n1_ n2_ n3_; (try clear hb); (try clear hb2); (try clear hk); (try clear hi)) | ((with_reducible refine gate_dst (N := 16) rfl ?_); refine box_event ?hg (N := 16) ?hd (cs := #[.int .i64 0, .int .i64 0]) (t := 36) ?hr ?_; (case hd => rfl); (case hg => rfl); (case hr => exact gq); intro gb212 hg w152 hbox hb; have n0_ := am (Kd.R_below u7_9 hb); have n1_ := am (blk_below (g := gb178) (o := zo0 (⟨#[]⟩ : ByteArray) 0 (⟨#[]⟩ : ByteArray) 0 0 0 0 0) u7_5 hb); have n2_ := am (blk_below (g := gb182) (o := zo0 (⟨#[]⟩ : ByteArray) 0 (⟨#[]⟩ : ByteArray) 0 0 0 0 0) u7_6 hb); have n3_ := am (below_step u7_4 hb); have n4_ := am (hbox); have n5_ := bsw w hg (below_size u7_4); have n6_ := bsw w hg (below_size u7_4); have n7_ := am ((by rw [hg]; exact Nat.ne_of_lt (blk_lt (g := gb178) (o := zo0 (⟨#[]⟩ : ByteArray) 0 (⟨#[]⟩ : ByteArray) 0 0 0 0 0) u7_5) : gb178 ≠ gb212)); have n8_ := am ((by rw [hg]; exact Nat.ne_of_gt (blk_lt (g := gb178) (o := zo0 (⟨#[]⟩ : ByteArray) 0 (⟨#[]⟩ : ByteArray) 0 0 0 0 0) u7_5) : gb212 ≠ gb178)); have n9_ := am ((by rw [hg]; exact Nat.ne_of_lt (blk_lt (g := gb182) (o := zo0 (⟨#[]⟩ : ByteArray) 0 (⟨#[]⟩ : ByteArray) 0 0 0 0 0) u7_6) : gb182 ≠ gb212)); have n10_ := am ((by rw [hg]; exact Nat.ne_of_gt (blk_lt (g := gb182) (o := zo0 (⟨#[]⟩ : ByteArray) 0 (⟨#[]⟩ : ByteArray) 0 0 0 0 0) u7_6) : gb212 ≠ gb182)); clear HO_4 BK178 BK182 HB; have HO_4 := n0_; have BK178 := n1_; have BK182 := n2_; have HB := n3_; have BK212 := n4_; have GW212 := n5_; have GE212 := n6_; have NB178_212 := n7_; have NB212_178 := n8_; have NB182_212 := n9_; have NB212_182 := n10_; clear n0_ n1_ n2_ n3_ n4_ n5_ n6_ n7_ n8_ n9_ n10_ hb hbox hg; have hnb153 := NB212_178.out; have hnc153 := NB178_212.out; have hnb154 := NB212_182.out; have hnc154 := NB182_212.out; obtain ⟨hcz155_0, hcz155_1, hfz155_0, hfz155_1⟩ := cf2 BK212.out))
               have n0_ : Aside0 (Kd.R Kd.string 9 ((w152.setCell ⟨gb212, 0, none⟩ (.int .i64 t209)).setCell ⟨gb212, 1, none⟩ (.int .i64 t210)) w.heap.size (fun _ => True) (.slice (some ad208) t179.length co150) t179) := ⟨by (with_reducible repeat (first | apply Kd.R_alloc | apply Kd.R_drewN | apply Kd.R_drew)); exact Kd.R_mono (Kd.R_far (p := ⟨gb212, 1, none⟩) (Kd.R_far (p := ⟨gb212, 0, none⟩) (Kd.R_types HO_4.out BK212.out v7_0) (fun _ hk => hk.2) (.int .i64 t209)) (fun _ hk => hk.2) (.int .i64 t210)) (fun _ hk => trivial)⟩
               have n1_ : Aside0 (((w152.setCell ⟨gb212, 0, none⟩ (.int .i64 t209)).setCell ⟨gb212, 1, none⟩ (.int .i64 t210)).heap[gb178]? = some (.cells #[.string (⟨#[]⟩ : ByteArray), .int .i64 0, .string (⟨#[]⟩ : ByteArray), .int .i64 0, .int .i64 0, .int .i64 0, .int .i64 0, .int .i64 0] 38 (0, 0))) := ⟨by (with_reducible repeat (first | refine bN ?_ _ | refine bD ?_ | refine bA ?_ _)); refine blk_far ?_ NB178_212.out _; (with_reducible repeat (first | refine bN ?_ _ | refine bD ?_ | refine bA ?_ _)); refine blk_far ?_ NB178_212.out _; exact bd BK178.out⟩
               have n2_ : Aside0 (((w152.setCell ⟨gb212, 0, none⟩ (.int .i64 t209)).setCell ⟨gb212, 1, none⟩ (.int .i64 t210)).heap[gb182]? = some (.cells #[.string (⟨#[]⟩ : ByteArray), .int .i64 0, .string (⟨#[]⟩ : ByteArray), .int .i64 0, .int .i64 0, .int .i64 0, .int .i64 0, .int .i64 0] 38 (0, 0))) := ⟨by (with_reducible repeat (first | refine bN ?_ _ | refine bD ?_ | refine bA ?_ _)); refine blk_far ?_ NB182_212.out _; (with_reducible repeat (first | refine bN ?_ _ | refine bD ?_ | refine bA ?_ _)); refine blk_far ?_ NB182_212.out _; exact bd BK182.out⟩
               have n3_ : Aside0 (((w152.setCell ⟨gb212, 0, none⟩ (.int .i64 t209)).setCell ⟨gb212, 1, none⟩ (.int .i64 t210)).heap[gb212]? = some (.cells #[.int .i64 t209, .int .i64 t210] 36 (0, 0))) := ⟨by (with_reducible repeat (first | refine bN ?_ _ | refine bD ?_ | refine bA ?_ _)); refine blk_put (cs := zr4 t209 0) ?_ 1 _ rfl; refine blk_put (cs := zr4 0 0) ?_ 0 _ rfl; exact bd BK212.out⟩
               have n4_ : Aside0 (Below w.heap.size w ((w152.setCell ⟨gb212, 0, none⟩ (.int .i64 t209)).setCell ⟨gb212, 1, none⟩ (.int .i64 t210))) := ⟨s7_1⟩
               (try clear HO_4)
               (try clear BK178)
               (try clear BK182)
               (try clear BK212)
               (try clear HB)
               (try simp only [show ∀ (w_ : World) (n_ : Nat) (a_ : Addr) (v_ : Value), (w_.drewN n_).setCell a_ v_ = (w_.setCell a_ v_).drewN n_ from fun _ _ _ _ => rfl, show ∀ (w_ : World) (a_ : Addr) (v_ : Value), w_.drew.setCell a_ v_ = (w_.setCell a_ v_).drew from fun _ _ _ => rfl])
               generalize ((w152.setCell ⟨gb212, 0, none⟩ (.int .i64 t209)).setCell ⟨gb212, 1, none⟩ (.int .i64 t210)) = w156 at n0_ n1_ n2_ n3_ n4_ ⊢
               have HO_4 := n0_
               have BK178 := n1_
               have BK182 := n2_
               have BK212 := n3_
               have HB := n4_
               clear n0_ n1_ n2_ n3_ n4_
               have n0_ := am (Kd.R_drew HO_4.out)
               have n1_ := am (blk_drew BK178.out)
               have n2_ := am (blk_drew BK182.out)
               have n3_ := am (blk_drew BK212.out)
               have n4_ := am (below_drew1 HB.out)
               clear HO_4 BK178 BK182 BK212 HB
               have HO_4 := n0_
               have BK178 := n1_
               have BK182 := n2_
               have BK212 := n3_
               have HB := n4_
               clear n0_ n1_ n2_ n3_ n4_
               have p213 : 0 ≤ (1 : Int) := (by omega)
               have q213 : 1 < (t179.length : Int) := od u7_24
               obtain ⟨ad213, e213, hx213_0⟩ := Kd.at_string (Kd.R_reads' HO_4.out).2.2 1 p213 q213
               obtain rfl : ad208 = ad213 := (by injection e213)
               (try simp only [show (1 : Int).toNat = 1 from rfl, Nat.reduceMul, Nat.reduceEqDiff, Go.Addr.add, ↓reduceIte] at hx213_0)
               have qi213 : (1 < t179.length) = True := eq_true (by omega)
               (try rw [show ((1 : Int)).toNat = 1 from rfl] at hx213_0)
               replace p213 := eq_true p213
               replace q213 := eq_true q213
               have p214 : 0 ≤ (3 : Int) := (by omega)
               have q214 : 3 < (t179.length : Int) := od u7_24
               obtain ⟨ad214, e214, hx214_0⟩ := Kd.at_string (Kd.R_reads' HO_4.out).2.2 3 p214 q214
               obtain rfl : ad208 = ad214 := (by injection e214)
               (try simp only [show (3 : Int).toNat = 3 from rfl, Nat.reduceMul, Nat.reduceEqDiff, Go.Addr.add, ↓reduceIte] at hx214_0)
               have qi214 : (3 < t179.length) = True := eq_true (by omega)
               (try rw [show ((3 : Int)).toNat = 3 from rfl] at hx214_0)
               replace p214 := eq_true p214
               replace q214 := eq_true q214
               refine start_ (n := 9) (S := fun w' => zc5 w' gb212 t209 t210 (w'.cell? ⟨ad208.block, ad208.off + 1, none⟩ = some (.string (rdOf ByteArray.empty t179 1)) ∧ w'.cell? ⟨ad208.block, ad208.off + 3, none⟩ = some (.string (rdOf ByteArray.empty t179 3)))) (ds := []) mk7_1 (by kernel_rfl) rfl rfl ⟨(blk_cell BK212.out 0).trans rfl, (blk_cell BK212.out 1).trans rfl, hx213_0, hx214_0⟩ (fun hHeld => ?_); refine with_tabW impl_ParseDevice.tab14 impl_ParseDevice.bits14 (fun HT_ HW_ => ?_)
               generalize w156.drew = w157 at HO_4 BK178 BK182 BK212 HB hx213_0 hx214_0 hHeld ⊢
               refine pz 0 109 mk7_3 (any_of HT_.out (by kernel_rfl)) ?_
               refine pz 1 110 mk7_5 (any_of HT_.out (by kernel_rfl)) ?_
               refine pz 3 112 mk7_7 (any_of HT_.out (by kernel_rfl)) ?_
               refine pz 4 113 mk7_9 (any_of HT_.out (by kernel_rfl)) ?_
               refine take_ (i := 2) (N := some 111) (v := ?_) (a' := ?_) mk7_13 rfl rfl (take_ofW HT_.out HW_.out (by kernel_rfl)) (fun _ _ _ h => h) (Or.inl ⟨by rfl, ?_⟩) hHeld ?_ ?_
               rotate_left
               ·rintro w' ⟨s0, s1, s2, s3⟩
                exact gs
               rotate_left
               ·exact ap
               refine take_ (i := 5) (N := some 114) (v := ?_) (a' := ?_) mk7_15 rfl rfl (take_ofW HT_.out HW_.out (by kernel_rfl)) (fun _ _ _ h => h) (Or.inl ⟨by rfl, ?_⟩) hHeld ?_ ?_
               rotate_left
               ·rintro w' ⟨s0, s1, s2, s3⟩
                exact gs
               rotate_left
               ·exact ap
               refine take_ (i := 6) (N := some 115) (v := ?_) (a' := ?_) mk7_17 rfl rfl (take_ofW HT_.out HW_.out (by kernel_rfl)) (fun _ _ _ h => h) (Or.inl ⟨by rfl, ?_⟩) hHeld ?_ ?_
               rotate_left
               ·rintro w' ⟨s0, s1, s2, s3⟩
                exact gs
               rotate_left
               ·exact ap
               refine pz 7 116 mk7_18 (any_of HT_.out (by kernel_rfl)) ?_
               refine one_ (i := 8) (N := none) mk7_22 rfl rfl (one_of HT_.out (by kernel_rfl)) v7_0 (fun K hK => ?_)
               have hs158 : w157.cell? ⟨gb182, 0, none⟩ = some (.string (⟨#[]⟩ : ByteArray)) := (blk_cell BK182.out 0).trans rfl
               have hfs158 := blk_frozen BK182.out 0
               have hns158_0 := NB178_182.out
               have hns158_2 := NB212_182.out
               have hms158_0 := NB182_178.out
               have hms158_2 := NB182_212.out
               have hs159 : w157.cell? ⟨gb182, 1, none⟩ = some (.int .i64 0) := (blk_cell BK182.out 1).trans rfl
               have hfs159 := blk_frozen BK182.out 1
               have hns159_0 := NB178_182.out
               have hns159_2 := NB212_182.out
               have hms159_0 := NB182_178.out
               have hms159_2 := NB182_212.out
               have hs160 : w157.cell? ⟨gb182, 2, none⟩ = some (.string (⟨#[]⟩ : ByteArray)) := (blk_cell BK182.out 2).trans rfl
               have hfs160 := blk_frozen BK182.out 2
               have hns160_0 := NB178_182.out
               have hns160_2 := NB212_182.out
               have hms160_0 := NB182_178.out
               have hms160_2 := NB182_212.out
               have hs161 : w157.cell? ⟨gb182, 3, none⟩ = some (.int .i64 0) := (blk_cell BK182.out 3).trans rfl
               have hfs161 := blk_frozen BK182.out 3
               have hns161_0 := NB178_182.out
               have hns161_2 := NB212_182.out
               have hms161_0 := NB182_178.out
               have hms161_2 := NB182_212.out
               have hs162 : w157.cell? ⟨gb182, 4, none⟩ = some (.int .i64 0) := (blk_cell BK182.out 4).trans rfl
               have hfs162 := blk_frozen BK182.out 4
               have hns162_0 := NB178_182.out
               have hns162_2 := NB212_182.out
               have hms162_0 := NB182_178.out
               have hms162_2 := NB182_212.out
               have hs163 : w157.cell? ⟨gb182, 5, none⟩ = some (.int .i64 0) := (blk_cell BK182.out 5).trans rfl
               have hfs163 := blk_frozen BK182.out 5
               have hns163_0 := NB178_182.out
               have hns163_2 := NB212_182.out
               have hms163_0 := NB182_178.out
               have hms163_2 := NB182_212.out
               have hs164 : w157.cell? ⟨gb182, 6, none⟩ = some (.int .i64 0) := (blk_cell BK182.out 6).trans rfl
               have hfs164 := blk_frozen BK182.out 6
               have hns164_0 := NB178_182.out
               have hns164_2 := NB212_182.out
               have hms164_0 := NB182_178.out
               have hms164_2 := NB182_212.out
               have hs165 : w157.cell? ⟨gb182, 7, none⟩ = some (.int .i64 0) := (blk_cell BK182.out 7).trans rfl
               have hfs165 := blk_frozen BK182.out 7
               have hns165_0 := NB178_182.out
               have hns165_2 := NB212_182.out
               have hms165_0 := NB182_178.out
               have hms165_2 := NB182_212.out
               refine skip_ (w1 := ?_) (by rfl) rfl ?_ ?_
               rotate_left
               ·go_simp
                rfl
               have hne_ : ad208.block ≠ gb182 := Kd.own_blk (Kd.R_ne HO_4.out BK182.out v7_0)
               refine hK.out _ _ ⟨(far8 NB212_182.out hHeld.1), (far8 NB212_182.out hHeld.2.1), (far8 hne_ hHeld.2.2.1), (far8 hne_ hHeld.2.2.2)⟩ (fun hHeld => ?_)
               clear hK K
               refine done_ (done_of HT_.out (by kernel_rfl)) ?_
               have hnb166 := NB182_178.out
               have hnc166 := NB178_182.out
               obtain ⟨hcz167_0, hcz167_1, hcz167_2, hcz167_3, hcz167_4, hcz167_5, hcz167_6, hcz167_7, hfz167_0, hfz167_1, hfz167_2, hfz167_3, hfz167_4, hfz167_5, hfz167_6, hfz167_7⟩ := cf8 BK182.out
               try go_wp2_with (first | (go_at_call 20; (with_reducible refine (impl_FormatDevice.calls kj118 (rdOf ByteArray.empty t179 1) 3 (rdOf ByteArray.empty t179 3) t209 t210 0 0 0 t215 _ A148.out).mono ?_); rintro e w168 ⟨rfl, hb⟩; have n0_ := am (Kd.R_below u7_19 hb); have n1_ := am (blk_below (g := gb178) (o := zo0 (⟨#[]⟩ : ByteArray) 0 (⟨#[]⟩ : ByteArray) 0 0 0 0 0) u7_3 hb); have n2_ := am (blk_below (g := gb182) (o := zo0 (rdOf ByteArray.empty t179 1) 3 (rdOf ByteArray.empty t179 3) t209 t210 0 0 0) u7_11 hb); have n3_ := am (blk_below (g := gb212) (o := zo2 t209 t210) u7_14 hb); have n4_ := am (below_step u7_32 hb); clear HO_4 BK178 BK182 BK212 HB; have HO_4 := n0_; have BK178 := n1_; have BK182 := n2_; have BK212 := n3_; have HB := n4_; clear n0_ n1_ n2_ n3_ n4_; (try clear hb); (try clear hb2); (try clear hk); (try clear hi); obtain ⟨hcz169_0, hcz169_1, hcz169_2, hcz169_3, hcz169_4, hcz169_5, hcz169_6, hcz169_7, hfz169_0, hfz169_1, hfz169_2, hfz169_3, hfz169_4, hfz169_5, hfz169_6, hfz169_7⟩ := cf8 BK182.out; obtain ⟨hcz170_0, hcz170_1, hcz170_2, hcz170_3, hcz170_4, hcz170_5, hcz170_6, hcz170_7, hfz170_0, hfz170_1, hfz170_2, hfz170_3, hfz170_4, hfz170_5, hfz170_6, hfz170_7⟩ := cf8 BK178.out))
               refine bodyPost_ret (results_ct rfl _ _ gb178 38 #[.string (rdOf ByteArray.empty t179 1), .int .i64 3, .string (rdOf ByteArray.empty t179 3), .int .i64 t209, .int .i64 t210, .int .i64 0, .int .i64 0, .int .i64 0] (0, 0) _ rfl (by (with_reducible repeat (first | refine bN ?_ _ | refine bD ?_ | refine bA ?_ _)); refine blk_put (cs := zr6 (rdOf ByteArray.empty t179 1) 3 (rdOf ByteArray.empty t179 3) t209 t210 0 0 0) ?_ 7 _ rfl; refine blk_put (cs := zr6 (rdOf ByteArray.empty t179 1) 3 (rdOf ByteArray.empty t179 3) t209 t210 0 0 0) ?_ 6 _ rfl; refine blk_put (cs := zr6 (rdOf ByteArray.empty t179 1) 3 (rdOf ByteArray.empty t179 3) t209 t210 0 0 0) ?_ 5 _ rfl; refine blk_put (cs := zr6 (rdOf ByteArray.empty t179 1) 3 (rdOf ByteArray.empty t179 3) t209 0 0 0 0) ?_ 4 _ rfl; refine blk_put (cs := zr6 (rdOf ByteArray.empty t179 1) 3 (rdOf ByteArray.empty t179 3) 0 0 0 0 0) ?_ 3 _ rfl; refine blk_put (cs := zr6 (rdOf ByteArray.empty t179 1) 3 (⟨#[]⟩ : ByteArray) 0 0 0 0 0) ?_ 2 _ rfl; (with_reducible repeat (first | refine bN ?_ _ | refine bD ?_ | refine bA ?_ _)); refine blk_put (cs := zr6 (rdOf ByteArray.empty t179 1) 0 (⟨#[]⟩ : ByteArray) 0 0 0 0 0) ?_ 1 _ rfl; (with_reducible repeat (first | refine bN ?_ _ | refine bD ?_ | refine bA ?_ _)); refine blk_put (cs := zr6 (⟨#[]⟩ : ByteArray) 0 (⟨#[]⟩ : ByteArray) 0 0 0 0 0) ?_ 0 _ rfl; exact bd BK178.out) Tryd.underlying38 rfl (by kernel_rfl)) rfl ?_
               exact ⟨by first | rfl | (simp [*] <;> rfl), s7_1⟩
              ·rw [if_neg c149] at H
               have c149b0 : (t215.toList == a0.toList) = false := beq_eq_false_iff_ne.mpr c149
               have c149b1 : (t215.toList != a0.toList) = true := bne_iff_ne.mpr c149
               simp only [Option.some.injEq, Prod.mk.injEq] at H
               obtain ⟨rfl, rfl, rfl, rfl, rfl, rfl, rfl, rfl, rfl⟩ := H
               obtain ⟨Ao171, co171, eo171⟩ := Kd.R_slice HO_4.out
               subst eo171
               have p208 : 0 ≤ (5 : Int) := (by omega)
               have q208 : 5 < (t179.length : Int) := od u7_24
               obtain ⟨ad208, e208, hx208_0⟩ := Kd.at_string (Kd.R_reads' HO_4.out).2.2 5 p208 q208
               cases e208
               (try simp only [show (5 : Int).toNat = 5 from rfl, Nat.reduceMul, Nat.reduceEqDiff, Go.Addr.add, ↓reduceIte] at hx208_0)
               have qi208 : (5 < t179.length) = True := eq_true (by omega)
               (try rw [show ((5 : Int)).toNat = 5 from rfl] at hx208_0)
               replace p208 := eq_true p208
               replace q208 := eq_true q208
               try go_wp2_with (first | ((with_reducible refine gate_callee (f := 53) rfl ?_); refine goesL_ (some 106) rfl rfl Tryd.func53 (by kernel_rfl) rfl #[.string (rdOf ByteArray.empty t179 5)] rfl u7_13 ?_; (with_reducible refine (impl_ParsePlace.calls kj118 (rdOf ByteArray.empty t179 5) t209 t210 t211 _ A126.out).mono ?_); rintro e w172 ⟨rfl, hb⟩; refine ⟨_, rfl, ?_⟩; have n0_ := am (Kd.R_below u7_9 hb); have n1_ := am (blk_below (g := gb178) (o := zo0 (⟨#[]⟩ : ByteArray) 0 (⟨#[]⟩ : ByteArray) 0 0 0 0 0) u7_5 hb); have n2_ := am (blk_below (g := gb182) (o := zo0 (⟨#[]⟩ : ByteArray) 0 (⟨#[]⟩ : ByteArray) 0 0 0 0 0) u7_6 hb); have n3_ := am (below_step u7_4 hb); clear HO_4 BK178 BK182 HB; have HO_4 := n0_; have BK178 := n1_; have BK182 := n2_; have HB := n3_; clear n0_ n1_ n2_ n3_; (try clear hb); (try clear hb2); (try clear hk); (try clear hi)) | ((with_reducible refine gate_dst (N := 16) rfl ?_); refine box_event ?hg (N := 16) ?hd (cs := #[.int .i64 0, .int .i64 0]) (t := 36) ?hr ?_; (case hd => rfl); (case hg => rfl); (case hr => exact gq); intro gb212 hg w173 hbox hb; have n0_ := am (Kd.R_below u7_9 hb); have n1_ := am (blk_below (g := gb178) (o := zo0 (⟨#[]⟩ : ByteArray) 0 (⟨#[]⟩ : ByteArray) 0 0 0 0 0) u7_5 hb); have n2_ := am (blk_below (g := gb182) (o := zo0 (⟨#[]⟩ : ByteArray) 0 (⟨#[]⟩ : ByteArray) 0 0 0 0 0) u7_6 hb); have n3_ := am (below_step u7_4 hb); have n4_ := am (hbox); have n5_ := bsw w hg (below_size u7_4); have n6_ := bsw w hg (below_size u7_4); have n7_ := am ((by rw [hg]; exact Nat.ne_of_lt (blk_lt (g := gb178) (o := zo0 (⟨#[]⟩ : ByteArray) 0 (⟨#[]⟩ : ByteArray) 0 0 0 0 0) u7_5) : gb178 ≠ gb212)); have n8_ := am ((by rw [hg]; exact Nat.ne_of_gt (blk_lt (g := gb178) (o := zo0 (⟨#[]⟩ : ByteArray) 0 (⟨#[]⟩ : ByteArray) 0 0 0 0 0) u7_5) : gb212 ≠ gb178)); have n9_ := am ((by rw [hg]; exact Nat.ne_of_lt (blk_lt (g := gb182) (o := zo0 (⟨#[]⟩ : ByteArray) 0 (⟨#[]⟩ : ByteArray) 0 0 0 0 0) u7_6) : gb182 ≠ gb212)); have n10_ := am ((by rw [hg]; exact Nat.ne_of_gt (blk_lt (g := gb182) (o := zo0 (⟨#[]⟩ : ByteArray) 0 (⟨#[]⟩ : ByteArray) 0 0 0 0 0) u7_6) : gb212 ≠ gb182)); clear HO_4 BK178 BK182 HB; have HO_4 := n0_; have BK178 := n1_; have BK182 := n2_; have HB := n3_; have BK212 := n4_; have GW212 := n5_; have GE212 := n6_; have NB178_212 := n7_; have NB212_178 := n8_; have NB182_212 := n9_; have NB212_182 := n10_; clear n0_ n1_ n2_ n3_ n4_ n5_ n6_ n7_ n8_ n9_ n10_ hb hbox hg; have hnb174 := NB212_178.out; have hnc174 := NB178_212.out; have hnb175 := NB212_182.out; have hnc175 := NB182_212.out; obtain ⟨hcz176_0, hcz176_1, hfz176_0, hfz176_1⟩ := cf2 BK212.out))
               have n0_ : Aside0 (Kd.R Kd.string 9 ((w173.setCell ⟨gb212, 0, none⟩ (.int .i64 t209)).setCell ⟨gb212, 1, none⟩ (.int .i64 t210)) w.heap.size (fun _ => True) (.slice (some ad208) t179.length co171) t179) := ⟨by (with_reducible repeat (first | apply Kd.R_alloc | apply Kd.R_drewN | apply Kd.R_drew)); exact Kd.R_mono (Kd.R_far (p := ⟨gb212, 1, none⟩) (Kd.R_far (p := ⟨gb212, 0, none⟩) (Kd.R_types HO_4.out BK212.out v7_0) (fun _ hk => hk.2) (.int .i64 t209)) (fun _ hk => hk.2) (.int .i64 t210)) (fun _ hk => trivial)⟩
               have n1_ : Aside0 (((w173.setCell ⟨gb212, 0, none⟩ (.int .i64 t209)).setCell ⟨gb212, 1, none⟩ (.int .i64 t210)).heap[gb178]? = some (.cells #[.string (⟨#[]⟩ : ByteArray), .int .i64 0, .string (⟨#[]⟩ : ByteArray), .int .i64 0, .int .i64 0, .int .i64 0, .int .i64 0, .int .i64 0] 38 (0, 0))) := ⟨by (with_reducible repeat (first | refine bN ?_ _ | refine bD ?_ | refine bA ?_ _)); refine blk_far ?_ NB178_212.out _; (with_reducible repeat (first | refine bN ?_ _ | refine bD ?_ | refine bA ?_ _)); refine blk_far ?_ NB178_212.out _; exact bd BK178.out⟩
               have n2_ : Aside0 (((w173.setCell ⟨gb212, 0, none⟩ (.int .i64 t209)).setCell ⟨gb212, 1, none⟩ (.int .i64 t210)).heap[gb182]? = some (.cells #[.string (⟨#[]⟩ : ByteArray), .int .i64 0, .string (⟨#[]⟩ : ByteArray), .int .i64 0, .int .i64 0, .int .i64 0, .int .i64 0, .int .i64 0] 38 (0, 0))) := ⟨by (with_reducible repeat (first | refine bN ?_ _ | refine bD ?_ | refine bA ?_ _)); refine blk_far ?_ NB182_212.out _; (with_reducible repeat (first | refine bN ?_ _ | refine bD ?_ | refine bA ?_ _)); refine blk_far ?_ NB182_212.out _; exact bd BK182.out⟩
               have n3_ : Aside0 (((w173.setCell ⟨gb212, 0, none⟩ (.int .i64 t209)).setCell ⟨gb212, 1, none⟩ (.int .i64 t210)).heap[gb212]? = some (.cells #[.int .i64 t209, .int .i64 t210] 36 (0, 0))) := ⟨by (with_reducible repeat (first | refine bN ?_ _ | refine bD ?_ | refine bA ?_ _)); refine blk_put (cs := zr4 t209 0) ?_ 1 _ rfl; refine blk_put (cs := zr4 0 0) ?_ 0 _ rfl; exact bd BK212.out⟩
               have n4_ : Aside0 (Below w.heap.size w ((w173.setCell ⟨gb212, 0, none⟩ (.int .i64 t209)).setCell ⟨gb212, 1, none⟩ (.int .i64 t210))) := ⟨s7_1⟩
               (try clear HO_4)
               (try clear BK178)
               (try clear BK182)
               (try clear BK212)
               (try clear HB)
               (try simp only [show ∀ (w_ : World) (n_ : Nat) (a_ : Addr) (v_ : Value), (w_.drewN n_).setCell a_ v_ = (w_.setCell a_ v_).drewN n_ from fun _ _ _ _ => rfl, show ∀ (w_ : World) (a_ : Addr) (v_ : Value), w_.drew.setCell a_ v_ = (w_.setCell a_ v_).drew from fun _ _ _ => rfl])
               generalize ((w173.setCell ⟨gb212, 0, none⟩ (.int .i64 t209)).setCell ⟨gb212, 1, none⟩ (.int .i64 t210)) = w177 at n0_ n1_ n2_ n3_ n4_ ⊢
               have HO_4 := n0_
               have BK178 := n1_
               have BK182 := n2_
               have BK212 := n3_
               have HB := n4_
               clear n0_ n1_ n2_ n3_ n4_
               have n0_ := am (Kd.R_drew HO_4.out)
               have n1_ := am (blk_drew BK178.out)
               have n2_ := am (blk_drew BK182.out)
               have n3_ := am (blk_drew BK212.out)
               have n4_ := am (below_drew1 HB.out)
               clear HO_4 BK178 BK182 BK212 HB
               have HO_4 := n0_
               have BK178 := n1_
               have BK182 := n2_
               have BK212 := n3_
               have HB := n4_
               clear n0_ n1_ n2_ n3_ n4_
               have p213 : 0 ≤ (1 : Int) := (by omega)
               have q213 : 1 < (t179.length : Int) := od u7_24
               obtain ⟨ad213, e213, hx213_0⟩ := Kd.at_string (Kd.R_reads' HO_4.out).2.2 1 p213 q213
               obtain rfl : ad208 = ad213 := (by injection e213)
               (try simp only [show (1 : Int).toNat = 1 from rfl, Nat.reduceMul, Nat.reduceEqDiff, Go.Addr.add, ↓reduceIte] at hx213_0)
               have qi213 : (1 < t179.length) = True := eq_true (by omega)
               (try rw [show ((1 : Int)).toNat = 1 from rfl] at hx213_0)
               replace p213 := eq_true p213
               replace q213 := eq_true q213
               have p214 : 0 ≤ (3 : Int) := (by omega)
               have q214 : 3 < (t179.length : Int) := od u7_24
               obtain ⟨ad214, e214, hx214_0⟩ := Kd.at_string (Kd.R_reads' HO_4.out).2.2 3 p214 q214
               obtain rfl : ad208 = ad214 := (by injection e214)
               (try simp only [show (3 : Int).toNat = 3 from rfl, Nat.reduceMul, Nat.reduceEqDiff, Go.Addr.add, ↓reduceIte] at hx214_0)
               have qi214 : (3 < t179.length) = True := eq_true (by omega)
               (try rw [show ((3 : Int)).toNat = 3 from rfl] at hx214_0)
               replace p214 := eq_true p214
               replace q214 := eq_true q214
               refine start_ (n := 9) (S := fun w' => zc5 w' gb212 t209 t210 (w'.cell? ⟨ad208.block, ad208.off + 1, none⟩ = some (.string (rdOf ByteArray.empty t179 1)) ∧ w'.cell? ⟨ad208.block, ad208.off + 3, none⟩ = some (.string (rdOf ByteArray.empty t179 3)))) (ds := []) mk7_1 (by kernel_rfl) rfl rfl ⟨(blk_cell BK212.out 0).trans rfl, (blk_cell BK212.out 1).trans rfl, hx213_0, hx214_0⟩ (fun hHeld => ?_); refine with_tabW impl_ParseDevice.tab14 impl_ParseDevice.bits14 (fun HT_ HW_ => ?_)
               generalize w177.drew = w178 at HO_4 BK178 BK182 BK212 HB hx213_0 hx214_0 hHeld ⊢
               refine pz 0 109 mk7_3 (any_of HT_.out (by kernel_rfl)) ?_
               refine pz 1 110 mk7_5 (any_of HT_.out (by kernel_rfl)) ?_
               refine pz 3 112 mk7_7 (any_of HT_.out (by kernel_rfl)) ?_
               refine pz 4 113 mk7_9 (any_of HT_.out (by kernel_rfl)) ?_
               refine take_ (i := 2) (N := some 111) (v := ?_) (a' := ?_) mk7_13 rfl rfl (take_ofW HT_.out HW_.out (by kernel_rfl)) (fun _ _ _ h => h) (Or.inl ⟨by rfl, ?_⟩) hHeld ?_ ?_
               rotate_left
               ·rintro w' ⟨s0, s1, s2, s3⟩
                exact gs
               rotate_left
               ·exact ap
               refine take_ (i := 5) (N := some 114) (v := ?_) (a' := ?_) mk7_15 rfl rfl (take_ofW HT_.out HW_.out (by kernel_rfl)) (fun _ _ _ h => h) (Or.inl ⟨by rfl, ?_⟩) hHeld ?_ ?_
               rotate_left
               ·rintro w' ⟨s0, s1, s2, s3⟩
                exact gs
               rotate_left
               ·exact ap
               refine take_ (i := 6) (N := some 115) (v := ?_) (a' := ?_) mk7_17 rfl rfl (take_ofW HT_.out HW_.out (by kernel_rfl)) (fun _ _ _ h => h) (Or.inl ⟨by rfl, ?_⟩) hHeld ?_ ?_
               rotate_left
               ·rintro w' ⟨s0, s1, s2, s3⟩
                exact gs
               rotate_left
               ·exact ap
               refine pz 7 116 mk7_18 (any_of HT_.out (by kernel_rfl)) ?_
               refine one_ (i := 8) (N := none) mk7_22 rfl rfl (one_of HT_.out (by kernel_rfl)) v7_0 (fun K hK => ?_)
               have hs179 : w178.cell? ⟨gb182, 0, none⟩ = some (.string (⟨#[]⟩ : ByteArray)) := (blk_cell BK182.out 0).trans rfl
               have hfs179 := blk_frozen BK182.out 0
               have hns179_0 := NB178_182.out
               have hns179_2 := NB212_182.out
               have hms179_0 := NB182_178.out
               have hms179_2 := NB182_212.out
               have hs180 : w178.cell? ⟨gb182, 1, none⟩ = some (.int .i64 0) := (blk_cell BK182.out 1).trans rfl
               have hfs180 := blk_frozen BK182.out 1
               have hns180_0 := NB178_182.out
               have hns180_2 := NB212_182.out
               have hms180_0 := NB182_178.out
               have hms180_2 := NB182_212.out
               have hs181 : w178.cell? ⟨gb182, 2, none⟩ = some (.string (⟨#[]⟩ : ByteArray)) := (blk_cell BK182.out 2).trans rfl
               have hfs181 := blk_frozen BK182.out 2
               have hns181_0 := NB178_182.out
               have hns181_2 := NB212_182.out
               have hms181_0 := NB182_178.out
               have hms181_2 := NB182_212.out
               have hs182 : w178.cell? ⟨gb182, 3, none⟩ = some (.int .i64 0) := (blk_cell BK182.out 3).trans rfl
               have hfs182 := blk_frozen BK182.out 3
               have hns182_0 := NB178_182.out
               have hns182_2 := NB212_182.out
               have hms182_0 := NB182_178.out
               have hms182_2 := NB182_212.out
               have hs183 : w178.cell? ⟨gb182, 4, none⟩ = some (.int .i64 0) := (blk_cell BK182.out 4).trans rfl
               have hfs183 := blk_frozen BK182.out 4
               have hns183_0 := NB178_182.out
               have hns183_2 := NB212_182.out
               have hms183_0 := NB182_178.out
               have hms183_2 := NB182_212.out
               have hs184 : w178.cell? ⟨gb182, 5, none⟩ = some (.int .i64 0) := (blk_cell BK182.out 5).trans rfl
               have hfs184 := blk_frozen BK182.out 5
               have hns184_0 := NB178_182.out
               have hns184_2 := NB212_182.out
               have hms184_0 := NB182_178.out
               have hms184_2 := NB182_212.out
               have hs185 : w178.cell? ⟨gb182, 6, none⟩ = some (.int .i64 0) := (blk_cell BK182.out 6).trans rfl
               have hfs185 := blk_frozen BK182.out 6
               have hns185_0 := NB178_182.out
               have hns185_2 := NB212_182.out
               have hms185_0 := NB182_178.out
               have hms185_2 := NB182_212.out
               have hs186 : w178.cell? ⟨gb182, 7, none⟩ = some (.int .i64 0) := (blk_cell BK182.out 7).trans rfl
               have hfs186 := blk_frozen BK182.out 7
               have hns186_0 := NB178_182.out
               have hns186_2 := NB212_182.out
               have hms186_0 := NB182_178.out
               have hms186_2 := NB182_212.out
               refine skip_ (w1 := ?_) (by rfl) rfl ?_ ?_
               rotate_left
               ·go_simp
                rfl
               have hne_ : ad208.block ≠ gb182 := Kd.own_blk (Kd.R_ne HO_4.out BK182.out v7_0)
               refine hK.out _ _ ⟨(far8 NB212_182.out hHeld.1), (far8 NB212_182.out hHeld.2.1), (far8 hne_ hHeld.2.2.1), (far8 hne_ hHeld.2.2.2)⟩ (fun hHeld => ?_)
               clear hK K
               refine done_ (done_of HT_.out (by kernel_rfl)) ?_
               have hnb187 := NB182_178.out
               have hnc187 := NB178_182.out
               obtain ⟨hcz188_0, hcz188_1, hcz188_2, hcz188_3, hcz188_4, hcz188_5, hcz188_6, hcz188_7, hfz188_0, hfz188_1, hfz188_2, hfz188_3, hfz188_4, hfz188_5, hfz188_6, hfz188_7⟩ := cf8 BK182.out
               try go_wp2_with (first | (go_at_call 20; (with_reducible refine (impl_FormatDevice.calls kj118 (rdOf ByteArray.empty t179 1) 3 (rdOf ByteArray.empty t179 3) t209 t210 0 0 0 t215 _ A148.out).mono ?_); rintro e w189 ⟨rfl, hb⟩; have n0_ := am (Kd.R_below u7_19 hb); have n1_ := am (blk_below (g := gb178) (o := zo0 (⟨#[]⟩ : ByteArray) 0 (⟨#[]⟩ : ByteArray) 0 0 0 0 0) u7_3 hb); have n2_ := am (blk_below (g := gb182) (o := zo0 (rdOf ByteArray.empty t179 1) 3 (rdOf ByteArray.empty t179 3) t209 t210 0 0 0) u7_11 hb); have n3_ := am (blk_below (g := gb212) (o := zo2 t209 t210) u7_14 hb); have n4_ := am (below_step u7_32 hb); clear HO_4 BK178 BK182 BK212 HB; have HO_4 := n0_; have BK178 := n1_; have BK182 := n2_; have BK212 := n3_; have HB := n4_; clear n0_ n1_ n2_ n3_ n4_; (try clear hb); (try clear hb2); (try clear hk); (try clear hi); obtain ⟨hcz190_0, hcz190_1, hcz190_2, hcz190_3, hcz190_4, hcz190_5, hcz190_6, hcz190_7, hfz190_0, hfz190_1, hfz190_2, hfz190_3, hfz190_4, hfz190_5, hfz190_6, hfz190_7⟩ := cf8 BK178.out))
               refine bodyPost_ret (results_ct rfl _ _ gb178 38 #[.string (⟨#[]⟩ : ByteArray), .int .i64 0, .string (⟨#[]⟩ : ByteArray), .int .i64 0, .int .i64 0, .int .i64 0, .int .i64 0, .int .i64 0] (0, 0) _ rfl u7_1 Tryd.underlying38 rfl (by kernel_rfl)) rfl ?_
               exact ⟨by first | rfl | (simp [*] <;> rfl), s7_1⟩
            ·rw [if_neg c128] at H
             exact absurd H (by simp)
           ·rw [if_neg c127] at H
            exact absurd H (by simp)
          ·rw [if_neg c125] at H
           exact absurd H (by simp)
         ·replace c124 := Bool.eq_false_iff.mpr c124
          subst c124
          have H1 : (if a0.toList = ([] : List UInt8) then (some ((⟨#[]⟩ : ByteArray), 0, (⟨#[]⟩ : ByteArray), 0, 0, 0, 0, 0, false)) else ((impl_FormatDevice.f kj118 (⟨#[]⟩ : ByteArray) 0 (⟨#[]⟩ : ByteArray) 0 0 0 0 0).bind fun t216 => (if t216.toList = a0.toList then (some ((⟨#[]⟩ : ByteArray), 0, (⟨#[]⟩ : ByteArray), 0, 0, 0, 0, 0, true)) else (some ((⟨#[]⟩ : ByteArray), 0, (⟨#[]⟩ : ByteArray), 0, 0, 0, 0, 0, false))))) = some (r1, r2, r3, r4, r5, r6, r7, r8, r9) := by rw [if_neg (show ¬ (false = true) by decide)] at H; exact H
          clear H
          have H := H1
          clear H1
          by_cases c191 : a0.toList = ([] : List UInt8)
          ·rw [if_pos c191] at H
           have c191b0 : (a0.toList == ([] : List UInt8)) = true := beq_iff_eq.mpr c191
           have c191b1 : (a0.toList != ([] : List UInt8)) = false := bne_eq_false_iff_eq.mpr c191
           clear c191
           simp only [Option.some.injEq, Prod.mk.injEq] at H
           obtain ⟨rfl, rfl, rfl, rfl, rfl, rfl, rfl, rfl, rfl⟩ := H
           have hnb192 := NB178_182.out
           have hnc192 := NB182_178.out
           obtain ⟨hcz193_0, hcz193_1, hcz193_2, hcz193_3, hcz193_4, hcz193_5, hcz193_6, hcz193_7, hfz193_0, hfz193_1, hfz193_2, hfz193_3, hfz193_4, hfz193_5, hfz193_6, hfz193_7⟩ := cf8 BK178.out
           go_wp2
           refine bodyPost_ret (results_ct rfl _ _ gb178 38 #[.string (⟨#[]⟩ : ByteArray), .int .i64 0, .string (⟨#[]⟩ : ByteArray), .int .i64 0, .int .i64 0, .int .i64 0, .int .i64 0, .int .i64 0] (0, 0) _ rfl u7_1 Tryd.underlying38 rfl (by kernel_rfl)) rfl ?_
           exact ⟨by first | rfl | (simp [*] <;> rfl), s7_2⟩
          ·rw [if_neg c191] at H
           have c191b0 : (a0.toList == ([] : List UInt8)) = false := beq_eq_false_iff_ne.mpr c191
           have c191b1 : (a0.toList != ([] : List UInt8)) = true := bne_iff_ne.mpr c191
           replace H := ob H
           obtain ⟨t216, A1940, H⟩ := H
           replace H : (if t216.toList = a0.toList then (some ((⟨#[]⟩ : ByteArray), 0, (⟨#[]⟩ : ByteArray), 0, 0, 0, 0, 0, true)) else (some ((⟨#[]⟩ : ByteArray), 0, (⟨#[]⟩ : ByteArray), 0, 0, 0, 0, 0, false))) = some (r1, r2, r3, r4, r5, r6, r7, r8, r9) := H
           have A194 := am A1940
           clear A1940
           by_cases c195 : t216.toList = a0.toList
           ·rw [if_pos c195] at H
            have c195b0 : (t216.toList == a0.toList) = true := beq_iff_eq.mpr c195
            have c195b1 : (t216.toList != a0.toList) = false := bne_eq_false_iff_eq.mpr c195
            clear c195
            simp only [Option.some.injEq, Prod.mk.injEq] at H
            obtain ⟨rfl, rfl, rfl, rfl, rfl, rfl, rfl, rfl, rfl⟩ := H
            have hnb196 := NB182_178.out
            have hnc196 := NB178_182.out
            obtain ⟨hcz197_0, hcz197_1, hcz197_2, hcz197_3, hcz197_4, hcz197_5, hcz197_6, hcz197_7, hfz197_0, hfz197_1, hfz197_2, hfz197_3, hfz197_4, hfz197_5, hfz197_6, hfz197_7⟩ := cf8 BK182.out
            go_wp2_with (first | (go_at_call 20; (with_reducible refine (impl_FormatDevice.calls kj118 (⟨#[]⟩ : ByteArray) 0 (⟨#[]⟩ : ByteArray) 0 0 0 0 0 t216 _ A194.out).mono ?_); rintro e w198 ⟨rfl, hb⟩; have n0_ := am (Kd.R_below u7_9 hb); have n1_ := am (blk_below (g := gb178) (o := zo0 (⟨#[]⟩ : ByteArray) 0 (⟨#[]⟩ : ByteArray) 0 0 0 0 0) u7_5 hb); have n2_ := am (blk_below (g := gb182) (o := zo0 (⟨#[]⟩ : ByteArray) 0 (⟨#[]⟩ : ByteArray) 0 0 0 0 0) u7_6 hb); have n3_ := am (below_step u7_4 hb); clear HO_4 BK178 BK182 HB; have HO_4 := n0_; have BK178 := n1_; have BK182 := n2_; have HB := n3_; clear n0_ n1_ n2_ n3_; (try clear hb); (try clear hb2); (try clear hk); (try clear hi); obtain ⟨hcz199_0, hcz199_1, hcz199_2, hcz199_3, hcz199_4, hcz199_5, hcz199_6, hcz199_7, hfz199_0, hfz199_1, hfz199_2, hfz199_3, hfz199_4, hfz199_5, hfz199_6, hfz199_7⟩ := cf8 BK182.out; obtain ⟨hcz200_0, hcz200_1, hcz200_2, hcz200_3, hcz200_4, hcz200_5, hcz200_6, hcz200_7, hfz200_0, hfz200_1, hfz200_2, hfz200_3, hfz200_4, hfz200_5, hfz200_6, hfz200_7⟩ := cf8 BK178.out))
            refine bodyPost_ret (results_ct rfl _ _ gb178 38 #[.string (⟨#[]⟩ : ByteArray), .int .i64 0, .string (⟨#[]⟩ : ByteArray), .int .i64 0, .int .i64 0, .int .i64 0, .int .i64 0, .int .i64 0] (0, 0) _ rfl u7_1 Tryd.underlying38 rfl (by kernel_rfl)) rfl ?_
            exact ⟨by first | rfl | (simp [*] <;> rfl), s7_2⟩
           ·rw [if_neg c195] at H
            have c195b0 : (t216.toList == a0.toList) = false := beq_eq_false_iff_ne.mpr c195
            have c195b1 : (t216.toList != a0.toList) = true := bne_iff_ne.mpr c195
            simp only [Option.some.injEq, Prod.mk.injEq] at H
            obtain ⟨rfl, rfl, rfl, rfl, rfl, rfl, rfl, rfl, rfl⟩ := H
            have hnb201 := NB182_178.out
            have hnc201 := NB178_182.out
            obtain ⟨hcz202_0, hcz202_1, hcz202_2, hcz202_3, hcz202_4, hcz202_5, hcz202_6, hcz202_7, hfz202_0, hfz202_1, hfz202_2, hfz202_3, hfz202_4, hfz202_5, hfz202_6, hfz202_7⟩ := cf8 BK182.out
            go_wp2_with (first | (go_at_call 20; (with_reducible refine (impl_FormatDevice.calls kj118 (⟨#[]⟩ : ByteArray) 0 (⟨#[]⟩ : ByteArray) 0 0 0 0 0 t216 _ A194.out).mono ?_); rintro e w203 ⟨rfl, hb⟩; have n0_ := am (Kd.R_below u7_9 hb); have n1_ := am (blk_below (g := gb178) (o := zo0 (⟨#[]⟩ : ByteArray) 0 (⟨#[]⟩ : ByteArray) 0 0 0 0 0) u7_5 hb); have n2_ := am (blk_below (g := gb182) (o := zo0 (⟨#[]⟩ : ByteArray) 0 (⟨#[]⟩ : ByteArray) 0 0 0 0 0) u7_6 hb); have n3_ := am (below_step u7_4 hb); clear HO_4 BK178 BK182 HB; have HO_4 := n0_; have BK178 := n1_; have BK182 := n2_; have HB := n3_; clear n0_ n1_ n2_ n3_; (try clear hb); (try clear hb2); (try clear hk); (try clear hi); obtain ⟨hcz204_0, hcz204_1, hcz204_2, hcz204_3, hcz204_4, hcz204_5, hcz204_6, hcz204_7, hfz204_0, hfz204_1, hfz204_2, hfz204_3, hfz204_4, hfz204_5, hfz204_6, hfz204_7⟩ := cf8 BK178.out))
            refine bodyPost_ret (results_ct rfl _ _ gb178 38 #[.string (⟨#[]⟩ : ByteArray), .int .i64 0, .string (⟨#[]⟩ : ByteArray), .int .i64 0, .int .i64 0, .int .i64 0, .int .i64 0, .int .i64 0] (0, 0) _ rfl u7_1 Tryd.underlying38 rfl (by kernel_rfl)) rfl ?_
            exact ⟨by first | rfl | (simp [*] <;> rfl), s7_2⟩

end Go.Proofs.YthofcclbkihemaaDoor.MFnExactParseDevice
