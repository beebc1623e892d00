-- Written by a program for this claim.
import Derived.Test.YthofcclbkihemaaDoorMFnDeviceTextx0
import Derived.Test.YthofcclbkihemaaDoorMFnDeviceTextx6
import Derived.Test.YthofcclbkihemaaDoorMFnDeviceTextx7
import Derived.Test.YthofcclbkihemaaDoorMFnDeviceTextx8
namespace Go.Proofs.YthofcclbkihemaaDoor.MFnDeviceText
open Go.RowKit Go.Proofs.YthofcclbkihemaaDoorW.PrintWords Go.Proofs.YthofcclbkihemaaDoorW.PrintLast Go.Proofs.YthofcclbkihemaaDoorW.PrintMore
attribute [local go_sem] max2_int min2_int max_two min_two max_three min_three max_four min_four
set_option linter.unusedVariables false
set_option linter.unusedSimpArgs false
set_option maxHeartbeats 8000000
set_option maxRecDepth 100000

theorem s9_0 {p : Prop} (h : p := by repeat (first | (with_reducible first | exact HB.out | apply below_alloc | apply pw_below_drewN | apply below_drew1 | refine below_set ?_ GE397.out | refine below_set ?_ GE401.out | refine below_set ?_ GE413.out) | exact HB.out)) : p := h
theorem s9_1 {p : Prop} (h : p := by repeat (first | (with_reducible first | exact HB.out | apply below_alloc | apply pw_below_drewN | apply below_drew1 | refine below_set ?_ GE397.out | refine below_set ?_ GE401.out | refine below_set ?_ GE431.out) | exact HB.out)) : p := h
theorem s9_2 {p : Prop} (h : p := by repeat (first | (with_reducible first | exact HB.out | apply below_alloc | apply pw_below_drewN | apply below_drew1 | refine below_set ?_ GE397.out | refine below_set ?_ GE401.out) | exact HB.out)) : p := h
abbrev mk9_0 : Array Bool := #[false, false, false, false, false, false, false, false, false, false, false, false]
abbrev mk9_1 : Array Bool := #[false, false, false, false, false, false, false, false, false]
abbrev mk9_2 : Array Bool := #[true, false, false, false, false, false, false, false, false, false, false, false]
abbrev mk9_3 : Array Bool := #[true, false, false, false, false, false, false, false, false]
abbrev mk9_4 : Array Bool := #[true, true, false, false, false, false, false, false, false, false, false, false]
abbrev mk9_5 : Array Bool := #[true, true, false, false, false, false, false, false, false]
abbrev mk9_6 : Array Bool := #[true, true, false, true, false, false, false, false, false, false, false, false]
abbrev mk9_7 : Array Bool := #[true, true, false, true, false, false, false, false, false]
abbrev mk9_8 : Array Bool := #[true, true, false, true, true, false, false, false, false, false, false, false]
abbrev mk9_9 : Array Bool := #[true, true, false, true, true, false, false, false, false]
abbrev mk9_10 : Array Bool := #[true, true, false, true, true, false, false, true, false, false, false, false]
abbrev mk9_11 : Array Bool := #[true, true, false, true, true, false, false, true, true, false, false, false]
abbrev mk9_12 : Array Bool := #[true, true, false, true, true, false, false, true, true, true, false, false]
abbrev mk9_13 : Array Bool := #[true, true, true, true, true, false, false, false, false]
abbrev mk9_14 : Array Bool := #[true, true, true, true, true, false, false, true, true, true, false, false]
abbrev mk9_15 : Array Bool := #[true, true, true, true, true, true, false, false, false]
abbrev mk9_16 : Array Bool := #[true, true, true, true, true, true, false, true, true, true, false, false]
abbrev mk9_17 : Array Bool := #[true, true, true, true, true, true, true, false, false]
abbrev mk9_18 : Array Bool := #[true, true, true, true, true, true, true, true, false]
abbrev mk9_19 : Array Bool := #[true, true, true, true, true, true, true, true, true, true, false, false]
abbrev mk9_20 : Array Bool := #[true, true, true, true, true, true, true, true, true, true, true, false]
abbrev mk9_21 : Array Bool := #[true, true, true, true, true, true, true, true, true, true, true, true]
abbrev mk9_22 : Array Bool := #[true, true, true, true, true, true, true, true, true]
theorem v9_0 {p : Prop} (h : p := by decide) : p := h
theorem u9_0 {p : Prop} (h : p := by first | exact Kd.own_blk (Kd.R_ne HO_4.out BK401.out v9_0) | (rw [add_block]; exact Kd.own_blk (Kd.R_ne HO_4.out BK401.out v9_0)) | (show (Addr.add _ _).block ≠ _; rw [add_block]; exact Kd.own_blk (Kd.R_ne HO_4.out BK401.out v9_0)) | (dsimp only; exact Kd.own_blk (Kd.R_ne HO_4.out BK401.out v9_0))) : p := h
theorem u9_1 {p : Prop} (h : p := by (with_reducible repeat (first | refine bN ?_ _ | refine bD ?_ | refine bA ?_ _)); refine blk_put (cs := zr6 (⟨#[]⟩ : ByteArray) 0 (⟨#[]⟩ : ByteArray) 0 0 0 0 0) ?_ 7 _ rfl; (with_reducible repeat (first | refine bN ?_ _ | refine bD ?_ | refine bA ?_ _)); refine blk_put (cs := zr6 (⟨#[]⟩ : ByteArray) 0 (⟨#[]⟩ : ByteArray) 0 0 0 0 0) ?_ 6 _ rfl; (with_reducible repeat (first | refine bN ?_ _ | refine bD ?_ | refine bA ?_ _)); refine blk_put (cs := zr6 (⟨#[]⟩ : ByteArray) 0 (⟨#[]⟩ : ByteArray) 0 0 0 0 0) ?_ 5 _ rfl; (with_reducible repeat (first | refine bN ?_ _ | refine bD ?_ | refine bA ?_ _)); refine blk_put (cs := zr6 (⟨#[]⟩ : ByteArray) 0 (⟨#[]⟩ : ByteArray) 0 0 0 0 0) ?_ 4 _ rfl; (with_reducible repeat (first | refine bN ?_ _ | refine bD ?_ | refine bA ?_ _)); refine blk_put (cs := zr6 (⟨#[]⟩ : ByteArray) 0 (⟨#[]⟩ : ByteArray) 0 0 0 0 0) ?_ 3 _ rfl; (with_reducible repeat (first | refine bN ?_ _ | refine bD ?_ | refine bA ?_ _)); refine blk_put (cs := zr6 (⟨#[]⟩ : ByteArray) 0 (⟨#[]⟩ : ByteArray) 0 0 0 0 0) ?_ 2 _ rfl; (with_reducible repeat (first | refine bN ?_ _ | refine bD ?_ | refine bA ?_ _)); refine blk_put (cs := zr6 (⟨#[]⟩ : ByteArray) 0 (⟨#[]⟩ : ByteArray) 0 0 0 0 0) ?_ 1 _ rfl; (with_reducible repeat (first | refine bN ?_ _ | refine bD ?_ | refine bA ?_ _)); refine blk_put (cs := zr6 (⟨#[]⟩ : ByteArray) 0 (⟨#[]⟩ : ByteArray) 0 0 0 0 0) ?_ 0 _ rfl; exact bd BK397.out) : p := h
theorem u9_2 {p : Prop} (h : p := by (with_reducible repeat (first | refine bN ?_ _ | refine bD ?_ | refine bA ?_ _)); refine blk_put (cs := zr6 (⟨#[]⟩ : ByteArray) 0 (⟨#[]⟩ : ByteArray) 0 0 0 0 0) ?_ 7 _ rfl; (with_reducible repeat (first | refine bN ?_ _ | refine bD ?_ | refine bA ?_ _)); refine blk_put (cs := zr6 (⟨#[]⟩ : ByteArray) 0 (⟨#[]⟩ : ByteArray) 0 0 0 0 0) ?_ 6 _ rfl; (with_reducible repeat (first | refine bN ?_ _ | refine bD ?_ | refine bA ?_ _)); refine blk_put (cs := zr6 (⟨#[]⟩ : ByteArray) 0 (⟨#[]⟩ : ByteArray) 0 0 0 0 0) ?_ 5 _ rfl; (with_reducible repeat (first | refine bN ?_ _ | refine bD ?_ | refine bA ?_ _)); refine blk_put (cs := zr6 (⟨#[]⟩ : ByteArray) 0 (⟨#[]⟩ : ByteArray) 0 0 0 0 0) ?_ 4 _ rfl; (with_reducible repeat (first | refine bN ?_ _ | refine bD ?_ | refine bA ?_ _)); refine blk_put (cs := zr6 (⟨#[]⟩ : ByteArray) 0 (⟨#[]⟩ : ByteArray) 0 0 0 0 0) ?_ 3 _ rfl; (with_reducible repeat (first | refine bN ?_ _ | refine bD ?_ | refine bA ?_ _)); refine blk_put (cs := zr6 (⟨#[]⟩ : ByteArray) 0 (⟨#[]⟩ : ByteArray) 0 0 0 0 0) ?_ 2 _ rfl; (with_reducible repeat (first | refine bN ?_ _ | refine bD ?_ | refine bA ?_ _)); refine blk_put (cs := zr6 (⟨#[]⟩ : ByteArray) 0 (⟨#[]⟩ : ByteArray) 0 0 0 0 0) ?_ 1 _ rfl; (with_reducible repeat (first | refine bN ?_ _ | refine bD ?_ | refine bA ?_ _)); refine blk_put (cs := zr6 (⟨#[]⟩ : ByteArray) 0 (⟨#[]⟩ : ByteArray) 0 0 0 0 0) ?_ 0 _ rfl; (with_reducible repeat (first | refine bN ?_ _ | refine bD ?_ | refine bA ?_ _)); refine blk_far ?_ NB397_401.out _; (with_reducible repeat (first | refine bN ?_ _ | refine bD ?_ | refine bA ?_ _)); refine blk_far ?_ NB397_401.out _; (with_reducible repeat (first | refine bN ?_ _ | refine bD ?_ | refine bA ?_ _)); refine blk_far ?_ NB397_401.out _; (with_reducible repeat (first | refine bN ?_ _ | refine bD ?_ | refine bA ?_ _)); refine blk_far ?_ NB397_401.out _; (with_reducible repeat (first | refine bN ?_ _ | refine bD ?_ | refine bA ?_ _)); refine blk_far ?_ NB397_401.out _; (with_reducible repeat (first | refine bN ?_ _ | refine bD ?_ | refine bA ?_ _)); refine blk_far ?_ NB397_401.out _; (with_reducible repeat (first | refine bN ?_ _ | refine bD ?_ | refine bA ?_ _)); refine blk_far ?_ NB397_401.out _; (with_reducible repeat (first | refine bN ?_ _ | refine bD ?_ | refine bA ?_ _)); refine blk_far ?_ NB397_401.out _; exact bd BK397.out) : p := h
theorem u9_3 {p : Prop} (h : p := by (with_reducible repeat (first | refine bN ?_ _ | refine bD ?_ | refine bA ?_ _)); refine blk_far ?_ NB397_401.out _; (with_reducible repeat (first | refine bN ?_ _ | refine bD ?_ | refine bA ?_ _)); refine blk_far ?_ NB397_401.out _; (with_reducible repeat (first | refine bN ?_ _ | refine bD ?_ | refine bA ?_ _)); refine blk_far ?_ NB397_401.out _; (with_reducible repeat (first | refine bN ?_ _ | refine bD ?_ | refine bA ?_ _)); refine blk_far ?_ NB397_401.out _; (with_reducible repeat (first | refine bN ?_ _ | refine bD ?_ | refine bA ?_ _)); refine blk_far ?_ NB397_401.out _; (with_reducible repeat (first | refine bN ?_ _ | refine bD ?_ | refine bA ?_ _)); refine blk_far ?_ NB397_401.out _; (with_reducible repeat (first | refine bN ?_ _ | refine bD ?_ | refine bA ?_ _)); refine blk_far ?_ NB397_401.out _; (with_reducible repeat (first | refine bN ?_ _ | refine bD ?_ | refine bA ?_ _)); refine blk_far ?_ NB397_401.out _; exact bd BK397.out) : p := h
theorem u9_4 {p : Prop} (h : p := by repeat (first | (with_reducible first | exact HB.out | apply below_alloc | apply pw_below_drewN | apply below_drew1 | refine below_set ?_ GE397.out | refine below_set ?_ GE401.out) | exact HB.out)) : p := h
theorem u9_5 {p : Prop} (h : p := by exact bd BK397.out) : p := h
theorem u9_6 {p : Prop} (h : p := by exact bd BK401.out) : p := h
theorem u9_8 {p : Prop} (h : p := by (with_reducible repeat (first | refine bN ?_ _ | refine bD ?_ | refine bA ?_ _)); refine blk_put (cs := zr6 (rdOf ByteArray.empty t398 1) 1 (⟨#[]⟩ : ByteArray) 0 0 0 0 0) ?_ 7 _ rfl; (with_reducible repeat (first | refine bN ?_ _ | refine bD ?_ | refine bA ?_ _)); refine blk_put (cs := zr6 (rdOf ByteArray.empty t398 1) 1 (⟨#[]⟩ : ByteArray) 0 0 0 0 0) ?_ 6 _ rfl; (with_reducible repeat (first | refine bN ?_ _ | refine bD ?_ | refine bA ?_ _)); refine blk_put (cs := zr6 (rdOf ByteArray.empty t398 1) 1 (⟨#[]⟩ : ByteArray) 0 0 0 0 0) ?_ 5 _ rfl; (with_reducible repeat (first | refine bN ?_ _ | refine bD ?_ | refine bA ?_ _)); refine blk_put (cs := zr6 (rdOf ByteArray.empty t398 1) 1 (⟨#[]⟩ : ByteArray) 0 0 0 0 0) ?_ 4 _ rfl; (with_reducible repeat (first | refine bN ?_ _ | refine bD ?_ | refine bA ?_ _)); refine blk_put (cs := zr6 (rdOf ByteArray.empty t398 1) 1 (⟨#[]⟩ : ByteArray) 0 0 0 0 0) ?_ 3 _ rfl; (with_reducible repeat (first | refine bN ?_ _ | refine bD ?_ | refine bA ?_ _)); refine blk_put (cs := zr6 (rdOf ByteArray.empty t398 1) 1 (⟨#[]⟩ : ByteArray) 0 0 0 0 0) ?_ 2 _ rfl; (with_reducible repeat (first | refine bN ?_ _ | refine bD ?_ | refine bA ?_ _)); refine blk_put (cs := zr6 (rdOf ByteArray.empty t398 1) 0 (⟨#[]⟩ : ByteArray) 0 0 0 0 0) ?_ 1 _ rfl; (with_reducible repeat (first | refine bN ?_ _ | refine bD ?_ | refine bA ?_ _)); refine blk_put (cs := zr6 (⟨#[]⟩ : ByteArray) 0 (⟨#[]⟩ : ByteArray) 0 0 0 0 0) ?_ 0 _ rfl; exact bd BK401.out) : p := h
theorem u9_9 {p : Prop} (h : p := by (with_reducible repeat (first | apply Kd.R_alloc | apply Kd.R_drewN | apply Kd.R_drew)); exact HO_4.out) : p := h
theorem u9_10 {p : Prop} (h : p := by (with_reducible repeat (first | refine bN ?_ _ | refine bD ?_ | refine bA ?_ _)); refine blk_put (cs := zr6 (rdOf ByteArray.empty t398 1) 2 (rdOf ByteArray.empty t398 3) t410 t411 t415 t418 0) ?_ 7 _ rfl; refine blk_put (cs := zr6 (rdOf ByteArray.empty t398 1) 2 (rdOf ByteArray.empty t398 3) t410 t411 t415 0 0) ?_ 6 _ rfl; refine blk_put (cs := zr6 (rdOf ByteArray.empty t398 1) 2 (rdOf ByteArray.empty t398 3) t410 t411 0 0 0) ?_ 5 _ rfl; refine blk_put (cs := zr6 (rdOf ByteArray.empty t398 1) 2 (rdOf ByteArray.empty t398 3) t410 0 0 0 0) ?_ 4 _ rfl; refine blk_put (cs := zr6 (rdOf ByteArray.empty t398 1) 2 (rdOf ByteArray.empty t398 3) 0 0 0 0 0) ?_ 3 _ rfl; refine blk_put (cs := zr6 (rdOf ByteArray.empty t398 1) 2 (⟨#[]⟩ : ByteArray) 0 0 0 0 0) ?_ 2 _ rfl; (with_reducible repeat (first | refine bN ?_ _ | refine bD ?_ | refine bA ?_ _)); refine blk_put (cs := zr6 (rdOf ByteArray.empty t398 1) 0 (⟨#[]⟩ : ByteArray) 0 0 0 0 0) ?_ 1 _ rfl; (with_reducible repeat (first | refine bN ?_ _ | refine bD ?_ | refine bA ?_ _)); refine blk_put (cs := zr6 (⟨#[]⟩ : ByteArray) 0 (⟨#[]⟩ : ByteArray) 0 0 0 0 0) ?_ 0 _ rfl; exact bd BK401.out) : p := h
theorem u9_11 {p : Prop} (h : p := by (with_reducible repeat (first | refine bN ?_ _ | refine bD ?_ | refine bA ?_ _)); refine blk_put (cs := zr6 (rdOf ByteArray.empty t398 1) 3 (rdOf ByteArray.empty t398 3) t428 t429 0 0 0) ?_ 7 _ rfl; refine blk_put (cs := zr6 (rdOf ByteArray.empty t398 1) 3 (rdOf ByteArray.empty t398 3) t428 t429 0 0 0) ?_ 6 _ rfl; refine blk_put (cs := zr6 (rdOf ByteArray.empty t398 1) 3 (rdOf ByteArray.empty t398 3) t428 t429 0 0 0) ?_ 5 _ rfl; refine blk_put (cs := zr6 (rdOf ByteArray.empty t398 1) 3 (rdOf ByteArray.empty t398 3) t428 0 0 0 0) ?_ 4 _ rfl; refine blk_put (cs := zr6 (rdOf ByteArray.empty t398 1) 3 (rdOf ByteArray.empty t398 3) 0 0 0 0 0) ?_ 3 _ rfl; refine blk_put (cs := zr6 (rdOf ByteArray.empty t398 1) 3 (⟨#[]⟩ : ByteArray) 0 0 0 0 0) ?_ 2 _ rfl; (with_reducible repeat (first | refine bN ?_ _ | refine bD ?_ | refine bA ?_ _)); refine blk_put (cs := zr6 (rdOf ByteArray.empty t398 1) 0 (⟨#[]⟩ : ByteArray) 0 0 0 0 0) ?_ 1 _ rfl; (with_reducible repeat (first | refine bN ?_ _ | refine bD ?_ | refine bA ?_ _)); refine blk_put (cs := zr6 (⟨#[]⟩ : ByteArray) 0 (⟨#[]⟩ : ByteArray) 0 0 0 0 0) ?_ 0 _ rfl; exact bd BK401.out) : p := h
theorem u9_12 {p : Prop} (h : p := by repeat (first | (with_reducible first | exact HB.out | apply below_alloc | apply pw_below_drewN | apply below_drew1 | refine below_set ?_ GE397.out | refine below_set ?_ GE401.out | refine below_set ?_ GE413.out) | exact HB.out)) : p := h
theorem u9_13 {p : Prop} (h : p := by (try simp only [List.map_toArray, List.map_cons, List.map_nil]); first | done | rfl) : p := h
theorem u9_14 {p : Prop} (h : p := by (with_reducible repeat (first | refine bN ?_ _ | refine bD ?_ | refine bA ?_ _)); refine blk_far ?_ NB431_401.out _; (with_reducible repeat (first | refine bN ?_ _ | refine bD ?_ | refine bA ?_ _)); refine blk_far ?_ NB431_401.out _; (with_reducible repeat (first | refine bN ?_ _ | refine bD ?_ | refine bA ?_ _)); refine blk_far ?_ NB431_401.out _; (with_reducible repeat (first | refine bN ?_ _ | refine bD ?_ | refine bA ?_ _)); refine blk_far ?_ NB431_401.out _; (with_reducible repeat (first | refine bN ?_ _ | refine bD ?_ | refine bA ?_ _)); refine blk_far ?_ NB431_401.out _; (with_reducible repeat (first | refine bN ?_ _ | refine bD ?_ | refine bA ?_ _)); refine blk_far ?_ NB431_401.out _; (with_reducible repeat (first | refine bN ?_ _ | refine bD ?_ | refine bA ?_ _)); refine blk_far ?_ NB431_401.out _; (with_reducible repeat (first | refine bN ?_ _ | refine bD ?_ | refine bA ?_ _)); refine blk_far ?_ NB431_401.out _; exact bd BK431.out) : p := h
theorem u9_15 {p : Prop} (h : p := by (with_reducible repeat (first | refine bN ?_ _ | refine bD ?_ | refine bA ?_ _)); refine blk_far ?_ NB413_401.out _; (with_reducible repeat (first | refine bN ?_ _ | refine bD ?_ | refine bA ?_ _)); refine blk_far ?_ NB413_401.out _; (with_reducible repeat (first | refine bN ?_ _ | refine bD ?_ | refine bA ?_ _)); refine blk_far ?_ NB413_401.out _; (with_reducible repeat (first | refine bN ?_ _ | refine bD ?_ | refine bA ?_ _)); refine blk_far ?_ NB413_401.out _; (with_reducible repeat (first | refine bN ?_ _ | refine bD ?_ | refine bA ?_ _)); refine blk_far ?_ NB413_401.out _; (with_reducible repeat (first | refine bN ?_ _ | refine bD ?_ | refine bA ?_ _)); refine blk_far ?_ NB413_401.out _; (with_reducible repeat (first | refine bN ?_ _ | refine bD ?_ | refine bA ?_ _)); refine blk_far ?_ NB413_401.out _; (with_reducible repeat (first | refine bN ?_ _ | refine bD ?_ | refine bA ?_ _)); refine blk_far ?_ NB413_401.out _; exact bd BK413.out) : p := h
theorem u9_16 {p : Prop} (h : p := by (with_reducible repeat (first | refine bN ?_ _ | refine bD ?_ | refine bA ?_ _)); refine blk_far ?_ NB401_413.out _; (with_reducible repeat (first | refine bN ?_ _ | refine bD ?_ | refine bA ?_ _)); refine blk_far ?_ NB401_413.out _; exact bd BK401.out) : p := h
theorem u9_17 {p : Prop} (h : p := by (with_reducible repeat (first | refine bN ?_ _ | refine bD ?_ | refine bA ?_ _)); refine blk_far ?_ NB397_413.out _; (with_reducible repeat (first | refine bN ?_ _ | refine bD ?_ | refine bA ?_ _)); refine blk_far ?_ NB397_413.out _; exact bd BK397.out) : p := h
theorem u9_18 {p : Prop} (h : p := by (with_reducible repeat (first | apply Kd.R_alloc | apply Kd.R_drewN | apply Kd.R_drew)); exact (Kd.R_mono (Kd.R_far (p := ⟨gb401, 7, none⟩) (Kd.R_far (p := ⟨gb401, 6, none⟩) (Kd.R_far (p := ⟨gb401, 5, none⟩) (Kd.R_far (p := ⟨gb401, 4, none⟩) (Kd.R_far (p := ⟨gb401, 3, none⟩) (Kd.R_far (p := ⟨gb401, 2, none⟩) (Kd.R_far (p := ⟨gb401, 1, none⟩) (Kd.R_far (p := ⟨gb401, 0, none⟩) (Kd.R_types HO_4.out BK401.out v9_0) (fun _ hk => hk.2) (.string (rdOf ByteArray.empty t398 1))) (fun _ hk => hk.2) (.int .i64 2)) (fun _ hk => hk.2) (.string (rdOf ByteArray.empty t398 3))) (fun _ hk => hk.2) (.int .i64 t410)) (fun _ hk => hk.2) (.int .i64 t411)) (fun _ hk => hk.2) (.int .i64 t415)) (fun _ hk => hk.2) (.int .i64 t418)) (fun _ hk => hk.2) (.int .i64 t421)) (fun _ h_ => h_.1))) : p := h
theorem u9_19 {p : Prop} (h : p := by (with_reducible repeat (first | apply Kd.R_alloc | apply Kd.R_drewN | apply Kd.R_drew)); exact (Kd.R_mono (Kd.R_far (p := ⟨gb401, 7, none⟩) (Kd.R_far (p := ⟨gb401, 6, none⟩) (Kd.R_far (p := ⟨gb401, 5, none⟩) (Kd.R_far (p := ⟨gb401, 4, none⟩) (Kd.R_far (p := ⟨gb401, 3, none⟩) (Kd.R_far (p := ⟨gb401, 2, none⟩) (Kd.R_far (p := ⟨gb401, 1, none⟩) (Kd.R_far (p := ⟨gb401, 0, none⟩) (Kd.R_types HO_4.out BK401.out v9_0) (fun _ hk => hk.2) (.string (rdOf ByteArray.empty t398 1))) (fun _ hk => hk.2) (.int .i64 3)) (fun _ hk => hk.2) (.string (rdOf ByteArray.empty t398 3))) (fun _ hk => hk.2) (.int .i64 t428)) (fun _ hk => hk.2) (.int .i64 t429)) (fun _ hk => hk.2) (.int .i64 0)) (fun _ hk => hk.2) (.int .i64 0)) (fun _ hk => hk.2) (.int .i64 0)) (fun _ h_ => h_.1))) : p := h
theorem u9_20 {p : Prop} (h : p := by (with_reducible repeat (first | apply Kd.R_alloc | apply Kd.R_drewN | apply Kd.R_drew)); exact (Kd.R_mono (Kd.R_far (p := ⟨gb401, 7, none⟩) (Kd.R_far (p := ⟨gb401, 6, none⟩) (Kd.R_far (p := ⟨gb401, 5, none⟩) (Kd.R_far (p := ⟨gb401, 4, none⟩) (Kd.R_far (p := ⟨gb401, 3, none⟩) (Kd.R_far (p := ⟨gb401, 2, none⟩) (Kd.R_far (p := ⟨gb401, 1, none⟩) (Kd.R_far (p := ⟨gb401, 0, none⟩) (Kd.R_types HO_4.out BK401.out v9_0) (fun _ hk => hk.2) (.string (rdOf ByteArray.empty t398 1))) (fun _ hk => hk.2) (.int .i64 1)) (fun _ hk => hk.2) (.string (⟨#[]⟩ : ByteArray))) (fun _ hk => hk.2) (.int .i64 0)) (fun _ hk => hk.2) (.int .i64 0)) (fun _ hk => hk.2) (.int .i64 0)) (fun _ hk => hk.2) (.int .i64 0)) (fun _ hk => hk.2) (.int .i64 t404)) (fun _ h_ => h_.1))) : p := h
theorem u9_21 {p : Prop} (h : p := by (with_reducible repeat (first | refine bN ?_ _ | refine bD ?_ | refine bA ?_ _)); refine blk_put (cs := zr4 t410 0) ?_ 1 _ rfl; refine blk_put (cs := zr4 0 0) ?_ 0 _ rfl; exact bd BK413.out) : p := h
theorem u9_22 {p : Prop} (h : p := by repeat (first | (with_reducible first | exact HB.out | apply below_alloc | apply pw_below_drewN | apply below_drew1 | refine below_set ?_ GE397.out) | exact HB.out)) : p := h
theorem u9_23 {p : Prop} (h : p := by (with_reducible repeat (first | apply Kd.R_alloc | apply Kd.R_drewN | apply Kd.R_drew)); exact (Kd.R_mono (Kd.R_far (p := ⟨gb413, 1, none⟩) (Kd.R_far (p := ⟨gb413, 0, none⟩) (Kd.R_types HO_4.out BK413.out v9_0) (fun _ hk => hk.2) (.int .i64 t410)) (fun _ hk => hk.2) (.int .i64 t411)) (fun _ h_ => h_.1))) : p := h
theorem u9_24 {p : Prop} (h : p := by assumption) : p := h
theorem u9_25 {p : Prop} (h : p := by repeat (first | (with_reducible first | exact HB.out | apply below_alloc | apply pw_below_drewN | apply below_drew1) | exact HB.out)) : p := h
theorem u9_26 {p : Prop} (h : p := by first | (rw [add_block]; exact hn417_1) | (show (Addr.add _ _).block ≠ _; rw [add_block]; exact hn417_1) | exact hn417_1) : p := h
theorem u9_27 {p : Prop} (h : p := by first | (rw [add_block]; exact hn417_0) | (show (Addr.add _ _).block ≠ _; rw [add_block]; exact hn417_0) | exact hn417_0) : p := h
theorem u9_28 {p : Prop} (h : p := by first | (rw [add_block]; exact hn414_1) | (show (Addr.add _ _).block ≠ _; rw [add_block]; exact hn414_1) | exact hn414_1) : p := h
theorem u9_29 {p : Prop} (h : p := by first | (rw [add_block]; exact hn414_0) | (show (Addr.add _ _).block ≠ _; rw [add_block]; exact hn414_0) | exact hn414_0) : p := h
theorem u9_30 {p : Prop} (h : p := by exact bd BK413.out) : p := h
theorem u9_31 {p : Prop} (h : p := by first | rfl | (simp; done) | (simp [*]; done)) : p := h
theorem u9_32 {p : Prop} (h : p := by repeat (first | (with_reducible first | exact HB.out | apply below_alloc | apply pw_below_drewN | apply below_drew1 | refine below_set ?_ GE397.out | refine below_set ?_ GE401.out | refine below_set ?_ GE431.out) | exact HB.out)) : p := h
mutual
def impl_ParseDevice.j0 : Nat → ByteArray → List ByteArray → Bool → ByteArray → Int → ByteArray → Int → Int → Int → Int → Int → Option (ByteArray × Int × ByteArray × Int × Int × Int × Int × Int × Bool)
 | 0, _, _, _, _, _, _, _, _, _, _, _ => none
 | k + 1, x0, x4, x21, x402000, x402001, x402002, x402003, x402004, x402005, x402006, x402007 => if x21 = true then (if 3 < (x4.length : Int) then ((impl_ParseMeasure.f k (rdOf ByteArray.empty x4 3)).bind fun bt404 => (if 1 < (x4.length : Int) then (if x0.toList = ([] : List UInt8) then (some ((⟨#[]⟩ : ByteArray), 0, (⟨#[]⟩ : ByteArray), 0, 0, 0, 0, 0, false)) else ((impl_FormatDevice.f k (rdOf ByteArray.empty x4 1) 1 (⟨#[]⟩ : ByteArray) 0 0 0 0 bt404.1).bind fun t407 => (if t407.toList = x0.toList then (some (rdOf ByteArray.empty x4 1, 1, (⟨#[]⟩ : ByteArray), 0, 0, 0, 0, bt404.1, true)) else (some ((⟨#[]⟩ : ByteArray), 0, (⟨#[]⟩ : ByteArray), 0, 0, 0, 0, 0, false))))) else (none))) else (none)) else (if (x4.length : Int) = 12 then (if 0 < (x4.length : Int) then (impl_ParseDevice.j1 k x0 x4 ((rdOf ByteArray.empty x4 0).toList == ([110, 111, 122, 122, 108, 101] : List UInt8)) x402000 x402001 x402002 x402003 x402004 x402005 x402006 x402007) else (none)) else (impl_ParseDevice.j1 k x0 x4 false x402000 x402001 x402002 x402003 x402004 x402005 x402006 x402007))
def impl_ParseDevice.j1 : Nat → ByteArray → List ByteArray → Bool → ByteArray → Int → ByteArray → Int → Int → Int → Int → Int → Option (ByteArray × Int × ByteArray × Int × Int × Int × Int × Int × Bool)
 | 0, _, _, _, _, _, _, _, _, _, _, _ => none
 | k + 1, x0, x4, x43, x402000, x402001, x402002, x402003, x402004, x402005, x402006, x402007 => if x43 = true then (if 5 < (x4.length : Int) then ((impl_ParsePlace.f k (rdOf ByteArray.empty x4 5)).bind fun bt410 => (if 7 < (x4.length : Int) then ((impl_ParseNumber.f k (rdOf ByteArray.empty x4 7)).bind fun bt415 => (if 9 < (x4.length : Int) then ((impl_ParseMeasure.f k (rdOf ByteArray.empty x4 9)).bind fun bt418 => (if 11 < (x4.length : Int) then ((impl_ParseMeasure.f k (rdOf ByteArray.empty x4 11)).bind fun bt421 => (if 1 < (x4.length : Int) then (if 3 < (x4.length : Int) then (if x0.toList = ([] : List UInt8) then (some ((⟨#[]⟩ : ByteArray), 0, (⟨#[]⟩ : ByteArray), 0, 0, 0, 0, 0, false)) else ((impl_FormatDevice.f k (rdOf ByteArray.empty x4 1) 2 (rdOf ByteArray.empty x4 3) bt410.1 bt410.2.1 bt415.1 bt418.1 bt421.1).bind fun t425 => (if t425.toList = x0.toList then (some (rdOf ByteArray.empty x4 1, 2, rdOf ByteArray.empty x4 3, bt410.1, bt410.2.1, bt415.1, bt418.1, bt421.1, true)) else (some ((⟨#[]⟩ : ByteArray), 0, (⟨#[]⟩ : ByteArray), 0, 0, 0, 0, 0, false))))) else (none)) else (none))) else (none))) else (none))) else (none))) else (none)) else (if (x4.length : Int) = 6 then (if 0 < (x4.length : Int) then (impl_ParseDevice.j2 k x0 x4 ((rdOf ByteArray.empty x4 0).toList == ([108, 97, 109, 112] : List UInt8)) x402000 x402001 x402002 x402003 x402004 x402005 x402006 x402007) else (none)) else (impl_ParseDevice.j2 k x0 x4 false x402000 x402001 x402002 x402003 x402004 x402005 x402006 x402007))
def impl_ParseDevice.j2 : Nat → ByteArray → List ByteArray → Bool → ByteArray → Int → ByteArray → Int → Int → Int → Int → Int → Option (ByteArray × Int × ByteArray × Int × Int × Int × Int × Int × Bool)
 | 0, _, _, _, _, _, _, _, _, _, _, _ => none
 | k + 1, x0, x4, x92, x402000, x402001, x402002, x402003, x402004, x402005, x402006, x402007 => if x92 = true then (if 5 < (x4.length : Int) then ((impl_ParsePlace.f k (rdOf ByteArray.empty x4 5)).bind fun bt428 => (if 1 < (x4.length : Int) then (if 3 < (x4.length : Int) then (if x0.toList = ([] : List UInt8) then (some ((⟨#[]⟩ : ByteArray), 0, (⟨#[]⟩ : ByteArray), 0, 0, 0, 0, 0, false)) else ((impl_FormatDevice.f k (rdOf ByteArray.empty x4 1) 3 (rdOf ByteArray.empty x4 3) bt428.1 bt428.2.1 0 0 0).bind fun t434 => (if t434.toList = x0.toList then (some (rdOf ByteArray.empty x4 1, 3, rdOf ByteArray.empty x4 3, bt428.1, bt428.2.1, 0, 0, 0, true)) else (some ((⟨#[]⟩ : ByteArray), 0, (⟨#[]⟩ : ByteArray), 0, 0, 0, 0, 0, false))))) else (none)) else (none))) else (none)) else (if x0.toList = ([] : List UInt8) then (some ((⟨#[]⟩ : ByteArray), 0, (⟨#[]⟩ : ByteArray), 0, 0, 0, 0, 0, false)) else ((impl_FormatDevice.f k x402000 x402001 x402002 x402003 x402004 x402005 x402006 x402007).bind fun t435 => (if t435.toList = x0.toList then (some (x402000, x402001, x402002, x402003, x402004, x402005, x402006, x402007, true)) else (some ((⟨#[]⟩ : ByteArray), 0, (⟨#[]⟩ : ByteArray), 0, 0, 0, 0, 0, false)))))
end
def impl_ParseDevice.f (k : Nat) (a0 : ByteArray) : Option (ByteArray × Int × ByteArray × Int × Int × Int × Int × Int × Bool) := (impl_SplitAt.f a0 (⟨#[32]⟩ : ByteArray)).bind fun t398 => (if (t398.length : Int) = 4 then (if 0 < (t398.length : Int) then (impl_ParseDevice.j0 k a0 t398 ((rdOf ByteArray.empty t398 0).toList == ([112, 117, 109, 112] : List UInt8)) (⟨#[]⟩ : ByteArray) 0 (⟨#[]⟩ : ByteArray) 0 0 0 0 0) else (none)) else (impl_ParseDevice.j0 k a0 t398 false (⟨#[]⟩ : ByteArray) 0 (⟨#[]⟩ : ByteArray) 0 0 0 0 0))
theorem impl_ParseDevice.mono_l : ∀ k, (∀ y0 y1 y2 y3 y4 y5 y6 y7 y8 y9 y10, LeO (impl_ParseDevice.j0 k y0 y1 y2 y3 y4 y5 y6 y7 y8 y9 y10) (impl_ParseDevice.j0 (k + 1) y0 y1 y2 y3 y4 y5 y6 y7 y8 y9 y10)) ∧ (∀ y0 y1 y2 y3 y4 y5 y6 y7 y8 y9 y10, LeO (impl_ParseDevice.j1 k y0 y1 y2 y3 y4 y5 y6 y7 y8 y9 y10) (impl_ParseDevice.j1 (k + 1) y0 y1 y2 y3 y4 y5 y6 y7 y8 y9 y10)) ∧ (∀ y0 y1 y2 y3 y4 y5 y6 y7 y8 y9 y10, LeO (impl_ParseDevice.j2 k y0 y1 y2 y3 y4 y5 y6 y7 y8 y9 y10) (impl_ParseDevice.j2 (k + 1) y0 y1 y2 y3 y4 y5 y6 y7 y8 y9 y10))
 | 0 => ⟨fun _ _ _ _ _ _ _ _ _ _ _ r h => by simp [impl_ParseDevice.j0] at h, fun _ _ _ _ _ _ _ _ _ _ _ r h => by simp [impl_ParseDevice.j1] at h, fun _ _ _ _ _ _ _ _ _ _ _ r h => by simp [impl_ParseDevice.j2] at h⟩
 | k + 1 => by
  obtain ⟨ih0, ih1, ih2⟩ := impl_ParseDevice.mono_l k
  refine ⟨?_, ?_, ?_⟩
  ·intro y0 y1 y2 y3 y4 y5 y6 y7 y8 y9 y10
   unfold impl_ParseDevice.j0
   repeat' first
   | (with_reducible exact ih0 _ _ _ _ _ _ _ _ _ _ _)
   | (with_reducible exact ih1 _ _ _ _ _ _ _ _ _ _ _)
   | (with_reducible exact ih2 _ _ _ _ _ _ _ _ _ _ _)
   | (with_reducible exact impl_FormatDevice.mono _ _ _ _ _ _ _ _ _)
   | (with_reducible exact impl_ParseMeasure.mono _ _)
   | (with_reducible exact impl_ParseNumber.mono _ _)
   | (with_reducible exact impl_ParsePlace.mono _ _)
   | (with_reducible exact LeO.refl _)
   | (with_reducible exact LeO.none _)
   | (with_reducible refine LeO.ite ?_ ?_)
   | (with_reducible refine LeO.bind ?_ (fun _ => ?_))
  ·intro y0 y1 y2 y3 y4 y5 y6 y7 y8 y9 y10
   unfold impl_ParseDevice.j1
   repeat' first
   | (with_reducible exact ih0 _ _ _ _ _ _ _ _ _ _ _)
   | (with_reducible exact ih1 _ _ _ _ _ _ _ _ _ _ _)
   | (with_reducible exact ih2 _ _ _ _ _ _ _ _ _ _ _)
   | (with_reducible exact impl_FormatDevice.mono _ _ _ _ _ _ _ _ _)
   | (with_reducible exact impl_ParseMeasure.mono _ _)
   | (with_reducible exact impl_ParseNumber.mono _ _)
   | (with_reducible exact impl_ParsePlace.mono _ _)
   | (with_reducible exact LeO.refl _)
   | (with_reducible exact LeO.none _)
   | (with_reducible refine LeO.ite ?_ ?_)
   | (with_reducible refine LeO.bind ?_ (fun _ => ?_))
  ·intro y0 y1 y2 y3 y4 y5 y6 y7 y8 y9 y10
   unfold impl_ParseDevice.j2
   repeat' first
   | (with_reducible exact ih0 _ _ _ _ _ _ _ _ _ _ _)
   | (with_reducible exact ih1 _ _ _ _ _ _ _ _ _ _ _)
   | (with_reducible exact ih2 _ _ _ _ _ _ _ _ _ _ _)
   | (with_reducible exact impl_FormatDevice.mono _ _ _ _ _ _ _ _ _)
   | (with_reducible exact impl_ParseMeasure.mono _ _)
   | (with_reducible exact impl_ParseNumber.mono _ _)
   | (with_reducible exact impl_ParsePlace.mono _ _)
   | (with_reducible exact LeO.refl _)
   | (with_reducible exact LeO.none _)
   | (with_reducible refine LeO.ite ?_ ?_)
   | (with_reducible refine LeO.bind ?_ (fun _ => ?_))
theorem impl_ParseDevice.mono : ∀ a0 k, LeO (impl_ParseDevice.f k a0) (impl_ParseDevice.f (k + 1) a0) := by
 intro a0 k
 obtain ⟨ih0, ih1, ih2⟩ := impl_ParseDevice.mono_l k
 unfold impl_ParseDevice.f
 repeat' first
   | (with_reducible exact ih0 _ _ _ _ _ _ _ _ _ _ _)
   | (with_reducible exact ih1 _ _ _ _ _ _ _ _ _ _ _)
   | (with_reducible exact ih2 _ _ _ _ _ _ _ _ _ _ _)
   | (with_reducible exact impl_FormatDevice.mono _ _ _ _ _ _ _ _ _)
   | (with_reducible exact impl_ParseMeasure.mono _ _)
   | (with_reducible exact impl_ParseNumber.mono _ _)
   | (with_reducible exact impl_ParsePlace.mono _ _)
   | (with_reducible exact LeO.refl _)
   | (with_reducible exact LeO.none _)
   | (with_reducible refine LeO.ite ?_ ?_)
   | (with_reducible refine LeO.bind ?_ (fun _ => ?_))
def impl_ParseDevice.T11 : Bool × List (List Nat × List Nat) := (true, [([], []), ([0], [0]), ([1], [1]), ([], []), ([3], [3]), ([4], [4]), ([], []), ([], []), ([], []), ([], []), ([2, 5, 6, 7, 8, 9], [2, 5, 6, 7, 8, 9]), ([10, 0, 1, 2, 3, 4, 5, 6, 7, 8, 9, 10], [10])])
def impl_ParseDevice.B11 : List Nat := [0, 1, 3, 0, 8, 24, 0, 0, 0, 0, 1023, 2047]
theorem impl_ParseDevice.tab11 : rtab .any (opsOf Tryd.f19 11) = impl_ParseDevice.T11 := by kernel_rfl
theorem impl_ParseDevice.bits11 : waitsOk impl_ParseDevice.T11.2 impl_ParseDevice.B11 = true := by kernel_rfl
def impl_ParseDevice.T14 : Bool × List (List Nat × List Nat) := (true, [([], []), ([0], [0]), ([1], [1]), ([], []), ([3], [3]), ([4], [4]), ([], []), ([2, 5, 6], [2, 5, 6]), ([7, 0, 1, 2, 3, 4, 5, 6, 7], [7])])
def impl_ParseDevice.B14 : List Nat := [0, 1, 3, 0, 8, 24, 0, 127, 255]
theorem impl_ParseDevice.tab14 : rtab .any (opsOf Tryd.f19 14) = impl_ParseDevice.T14 := by kernel_rfl
theorem impl_ParseDevice.bits14 : waitsOk impl_ParseDevice.T14.2 impl_ParseDevice.B14 = true := by kernel_rfl
theorem impl_ParseDevice.calls (k : Nat) (a0 : ByteArray) (r1 : ByteArray) (r2 : Int) (r3 : ByteArray) (r4 : Int) (r5 : Int) (r6 : Int) (r7 : Int) (r8 : Int) (r9 : Bool) (w : World) (h : impl_ParseDevice.f k a0 = some (r1, r2, r3, r4, r5, r6, r7, r8, r9)) (hT : Ty.TabP w := by first | exact hT | exact Ty.TabP.below hT (by repeat (first | (with_reducible first | exact HB.out | apply below_alloc | apply pw_below_drewN | apply below_drew1 | refine below_set ?_ (Aside0.out u9_24)) | exact HB.out)) | (repeat (first | exact hT | apply Ty.TabP.drewN))) :
  Calls Tryd.prog 19 #[.string a0] w fun e w' => e = .returned (.tuple #[.agg #[.string r1, .int .i64 r2, .string r3, .int .i64 r4, .int .i64 r5, .int .i64 r6, .int .i64 r7, .int .i64 r8], .bool r9]) ∧ Below w.heap.size w w' := by
 have hu38 := Tryd.underlying38
 have hu36 := Tryd.underlying36
 have HB := am (Below.refl w.heap.size w)
 have H : ((impl_SplitAt.f a0 (⟨#[32]⟩ : ByteArray)).bind fun t398 => (if (t398.length : Int) = 4 then (if 0 < (t398.length : Int) then (impl_ParseDevice.j0 k a0 t398 ((rdOf ByteArray.empty t398 0).toList == ([112, 117, 109, 112] : List UInt8)) (⟨#[]⟩ : ByteArray) 0 (⟨#[]⟩ : ByteArray) 0 0 0 0 0) else (none)) else (impl_ParseDevice.j0 k a0 t398 false (⟨#[]⟩ : ByteArray) 0 (⟨#[]⟩ : ByteArray) 0 0 0 0 0))) = some (r1, r2, r3, r4, r5, r6, r7, r8, r9) := h
 clear h
 replace H := ob H
 obtain ⟨t398, A20, H⟩ := H
 replace H : (if (t398.length : Int) = 4 then (if 0 < (t398.length : Int) then (impl_ParseDevice.j0 k a0 t398 ((rdOf ByteArray.empty t398 0).toList == ([112, 117, 109, 112] : List UInt8)) (⟨#[]⟩ : ByteArray) 0 (⟨#[]⟩ : ByteArray) 0 0 0 0 0) else (none)) else (impl_ParseDevice.j0 k a0 t398 false (⟨#[]⟩ : ByteArray) 0 (⟨#[]⟩ : ByteArray) 0 0 0 0 0)) = some (r1, r2, r3, r4, r5, r6, r7, r8, r9) := H
 have A2 := am A20
 clear A20
 have HC3 := am H
 clear H
 go_enter Tryd.func19, Tryd.ntmps19
 go_upto_region 3 with (first | ((with_reducible refine gate_dst (N := 2) rfl ?_); refine box_event ?hg (N := 2) ?hd (cs := #[.string (⟨#[]⟩ : ByteArray), .int .i64 0, .string (⟨#[]⟩ : ByteArray), .int .i64 0, .int .i64 0, .int .i64 0, .int .i64 0, .int .i64 0]) (t := 38) ?hr ?_; (case hd => rfl); (case hg => rfl); (case hr => exact gq); intro gb397 hg w4 hbox hb; have n0_ := am (below_step u9_25 hb); have n1_ := am (hbox); have n2_ := bsw w hg (below_size u9_25); have n3_ := bsw w hg (below_size u9_25); clear HB; have HB := n0_; have BK397 := n1_; have GW397 := n2_; have GE397 := n3_; clear n0_ n1_ n2_ n3_ hb hbox hg) | ((with_reducible refine gate_callee (f := 36) rfl ?_); refine goesL_ (some 19) rfl rfl Tryd.func36 (by kernel_rfl) rfl #[.string a0, .string (⟨#[32]⟩ : ByteArray)] rfl u9_13 ?_; (with_reducible refine (impl_SplitAt.calls a0 (⟨#[32]⟩ : ByteArray) t398 _ A2.out).mono ?_); rintro e w5 ⟨v399, rfl, ho0, hb⟩; refine ⟨_, rfl, ?_⟩; have n0_ := am (Kd.R_lower ho0 (below_size u9_22)); have n1_ := am (blk_below (g := gb397) (o := zo3 (⟨#[]⟩ : ByteArray) 0 (⟨#[]⟩ : ByteArray) 0 0 0 0 0) u9_5 hb); have n2_ := am (below_step u9_22 hb); clear BK397 HB; have HO400 := n0_; have BK397 := n1_; have HB := n2_; clear n0_ n1_ n2_; (try clear hb); (try clear hb2); (try clear hk); (try clear hi); (try clear ho0)) | ((with_reducible refine gate_dst (N := 5) rfl ?_); refine box_event ?hg (N := 5) ?hd (cs := #[.string (⟨#[]⟩ : ByteArray), .int .i64 0, .string (⟨#[]⟩ : ByteArray), .int .i64 0, .int .i64 0, .int .i64 0, .int .i64 0, .int .i64 0]) (t := 38) ?hr ?_; (case hd => rfl); (case hg => rfl); (case hr => exact gq); intro gb401 hg w6 hbox hb; have n0_ := am (Kd.R_below (by (with_reducible repeat (first | apply Kd.R_alloc | apply Kd.R_drewN | apply Kd.R_drew)); exact HO400.out) hb); have n1_ := am (blk_below (g := gb397) (o := zo3 (⟨#[]⟩ : ByteArray) 0 (⟨#[]⟩ : ByteArray) 0 0 0 0 0) u9_5 hb); have n2_ := am (below_step u9_22 hb); have n3_ := am (hbox); have n4_ := bsw w hg (below_size u9_22); have n5_ := bsw w hg (below_size u9_22); have n6_ := am ((by rw [hg]; exact Nat.ne_of_lt (blk_lt (g := gb397) (o := zo3 (⟨#[]⟩ : ByteArray) 0 (⟨#[]⟩ : ByteArray) 0 0 0 0 0) u9_5) : gb397 ≠ gb401)); have n7_ := am ((by rw [hg]; exact Nat.ne_of_gt (blk_lt (g := gb397) (o := zo3 (⟨#[]⟩ : ByteArray) 0 (⟨#[]⟩ : ByteArray) 0 0 0 0 0) u9_5) : gb401 ≠ gb397)); clear HO400 BK397 HB; have HO400 := n0_; have BK397 := n1_; have HB := n2_; have BK401 := n3_; have GW401 := n4_; have GE401 := n5_; have NB397_401 := n6_; have NB401_397 := n7_; clear n0_ n1_ n2_ n3_ n4_ n5_ n6_ n7_ hb hbox hg; have hnb7 := NB401_397.out; have hnc7 := NB397_401.out; obtain ⟨hcz8_0, hcz8_1, hcz8_2, hcz8_3, hcz8_4, hcz8_5, hcz8_6, hcz8_7, hfz8_0, hfz8_1, hfz8_2, hfz8_3, hfz8_4, hfz8_5, hfz8_6, hfz8_7⟩ := cf8 BK401.out))
 (try simp only [Act.put, List.setIfInBounds_toArray, List.set_cons_zero, List.set_cons_succ])
 go_cut [21] (fun v21 wc => ∃ (kq : Nat) (x21_2 : Bool), v21 = .bool x21_2 ∧ Aside0 (impl_ParseDevice.j0 kq a0 t398 x21_2 (⟨#[]⟩ : ByteArray) 0 (⟨#[]⟩ : ByteArray) 0 0 0 0 0 = some (r1, r2, r3, r4, r5, r6, r7, r8, r9)) ∧ Aside0 (kq ≤ k) ∧ Aside0 (Kd.R Kd.string 9 wc w.heap.size (fun _ => True) v399 t398) ∧ Aside0 (wc.heap[gb397]? = some (.cells #[.string (⟨#[]⟩ : ByteArray), .int .i64 0, .string (⟨#[]⟩ : ByteArray), .int .i64 0, .int .i64 0, .int .i64 0, .int .i64 0, .int .i64 0] 38 (0, 0))) ∧ Aside0 (wc.heap[gb401]? = some (.cells #[.string (⟨#[]⟩ : ByteArray), .int .i64 0, .string (⟨#[]⟩ : ByteArray), .int .i64 0, .int .i64 0, .int .i64 0, .int .i64 0, .int .i64 0] 38 (0, 0))) ∧ Aside0 (Below w.heap.size w wc))
 case first =>
  have H := HC3.out
  clear HC3
  by_cases c9 : (t398.length : Int) = 4
  ·rw [if_pos c9] at H
   have c9b0 : ((t398.length : Int) == 4) = true := beq_iff_eq.mpr c9
   have c9b1 : ((t398.length : Int) != 4) = false := bne_eq_false_iff_eq.mpr c9
   clear c9
   (first | rw [c9b0] | (simp only [i64_w, i32_w]; rw [c9b0]) | skip)
   by_cases c10 : 0 < (t398.length : Int)
   ·rw [if_pos c10] at H
    have c10b0 : decide (0 < (t398.length : Int)) = true := decide_eq_true c10
    have c10b1 : decide (0 < t398.length) = true := decide_eq_true (by omega)
    clear c10
    have H' := am H
    clear H
    obtain ⟨Ao11, co11, eo11⟩ := Kd.R_slice HO400.out
    subst eo11
    have p402 : 0 ≤ (0 : Int) := (by omega)
    have q402 : 0 < (t398.length : Int) := od u9_24
    obtain ⟨ad402, e402, hx402_0⟩ := Kd.at_string (Kd.R_reads' HO400.out).2.2 0 p402 q402
    cases e402
    have qi402 : (0 < t398.length) = True := eq_true (by omega)
    (try rw [show ((0 : Int)).toNat = 0 from rfl] at hx402_0)
    (try rw [Addr.add_zero'] at hx402_0)
    have hn402_0 : ad402.block ≠ gb401 := Kd.own_blk (Kd.R_ne HO400.out BK401.out v9_0)
    have hn402_1 : ad402.block ≠ gb401 := Kd.own_blk (Kd.R_ne HO400.out BK401.out v9_0)
    have hn402_2 : ad402.block ≠ gb401 := Kd.own_blk (Kd.R_ne HO400.out BK401.out v9_0)
    have hn402_3 : ad402.block ≠ gb401 := Kd.own_blk (Kd.R_ne HO400.out BK401.out v9_0)
    have hn402_4 : ad402.block ≠ gb401 := Kd.own_blk (Kd.R_ne HO400.out BK401.out v9_0)
    have hn402_5 : ad402.block ≠ gb401 := Kd.own_blk (Kd.R_ne HO400.out BK401.out v9_0)
    have hn402_6 : ad402.block ≠ gb401 := Kd.own_blk (Kd.R_ne HO400.out BK401.out v9_0)
    have hn402_7 : ad402.block ≠ gb401 := Kd.own_blk (Kd.R_ne HO400.out BK401.out v9_0)
    replace hx402_0 := (cell_far (p := ⟨gb401, 0, none⟩) (by first | (rw [add_block]; exact hn402_0) | (show (Addr.add _ _).block ≠ _; rw [add_block]; exact hn402_0) | exact hn402_0) (.string (⟨#[]⟩ : ByteArray))).trans hx402_0
    replace hx402_0 := (cell_far (p := ⟨gb401, 1, none⟩) (by first | (rw [add_block]; exact hn402_1) | (show (Addr.add _ _).block ≠ _; rw [add_block]; exact hn402_1) | exact hn402_1) (.int .i64 0)).trans hx402_0
    replace hx402_0 := (cell_far (p := ⟨gb401, 2, none⟩) (by first | (rw [add_block]; exact hn402_2) | (show (Addr.add _ _).block ≠ _; rw [add_block]; exact hn402_2) | exact hn402_2) (.string (⟨#[]⟩ : ByteArray))).trans hx402_0
    replace hx402_0 := (cell_far (p := ⟨gb401, 3, none⟩) (by first | (rw [add_block]; exact hn402_3) | (show (Addr.add _ _).block ≠ _; rw [add_block]; exact hn402_3) | exact hn402_3) (.int .i64 0)).trans hx402_0
    replace hx402_0 := (cell_far (p := ⟨gb401, 4, none⟩) (by first | (rw [add_block]; exact hn402_4) | (show (Addr.add _ _).block ≠ _; rw [add_block]; exact hn402_4) | exact hn402_4) (.int .i64 0)).trans hx402_0
    replace hx402_0 := (cell_far (p := ⟨gb401, 5, none⟩) (by first | (rw [add_block]; exact hn402_5) | (show (Addr.add _ _).block ≠ _; rw [add_block]; exact hn402_5) | exact hn402_5) (.int .i64 0)).trans hx402_0
    replace hx402_0 := (cell_far (p := ⟨gb401, 6, none⟩) (by first | (rw [add_block]; exact hn402_6) | (show (Addr.add _ _).block ≠ _; rw [add_block]; exact hn402_6) | exact hn402_6) (.int .i64 0)).trans hx402_0
    replace hx402_0 := (cell_far (p := ⟨gb401, 7, none⟩) (by first | (rw [add_block]; exact hn402_7) | (show (Addr.add _ _).block ≠ _; rw [add_block]; exact hn402_7) | exact hn402_7) (.int .i64 0)).trans hx402_0
    clear hn402_0 hn402_1 hn402_2 hn402_3 hn402_4 hn402_5 hn402_6 hn402_7
    replace p402 := eq_true p402
    replace q402 := eq_true q402
    go_wp2
    go_meet
    case rel => exact ⟨_, (((rdOf ByteArray.empty t398 0).toList == ([112, 117, 109, 112] : List UInt8))), u9_31, H', ⟨by first | omega | exact Nat.le_refl _⟩, ⟨by (with_reducible repeat (first | apply Kd.R_alloc | apply Kd.R_drewN | apply Kd.R_drew)); exact Kd.R_mono (Kd.R_far (p := ⟨gb401, 7, none⟩) (Kd.R_far (p := ⟨gb401, 6, none⟩) (Kd.R_far (p := ⟨gb401, 5, none⟩) (Kd.R_far (p := ⟨gb401, 4, none⟩) (Kd.R_far (p := ⟨gb401, 3, none⟩) (Kd.R_far (p := ⟨gb401, 2, none⟩) (Kd.R_far (p := ⟨gb401, 1, none⟩) (Kd.R_far (p := ⟨gb401, 0, none⟩) (Kd.R_types HO400.out BK401.out v9_0) (fun _ hk => hk.2) (.string (⟨#[]⟩ : ByteArray))) (fun _ hk => hk.2) (.int .i64 0)) (fun _ hk => hk.2) (.string (⟨#[]⟩ : ByteArray))) (fun _ hk => hk.2) (.int .i64 0)) (fun _ hk => hk.2) (.int .i64 0)) (fun _ hk => hk.2) (.int .i64 0)) (fun _ hk => hk.2) (.int .i64 0)) (fun _ hk => hk.2) (.int .i64 0)) (fun _ hk => trivial)⟩, ⟨by (with_reducible repeat (first | refine bN ?_ _ | refine bD ?_ | refine bA ?_ _)); refine blk_far ?_ NB397_401.out _; (with_reducible repeat (first | refine bN ?_ _ | refine bD ?_ | refine bA ?_ _)); refine blk_far ?_ NB397_401.out _; (with_reducible repeat (first | refine bN ?_ _ | refine bD ?_ | refine bA ?_ _)); refine blk_far ?_ NB397_401.out _; (with_reducible repeat (first | refine bN ?_ _ | refine bD ?_ | refine bA ?_ _)); refine blk_far ?_ NB397_401.out _; (with_reducible repeat (first | refine bN ?_ _ | refine bD ?_ | refine bA ?_ _)); refine blk_far ?_ NB397_401.out _; (with_reducible repeat (first | refine bN ?_ _ | refine bD ?_ | refine bA ?_ _)); refine blk_far ?_ NB397_401.out _; (with_reducible repeat (first | refine bN ?_ _ | refine bD ?_ | refine bA ?_ _)); refine blk_far ?_ NB397_401.out _; (with_reducible repeat (first | refine bN ?_ _ | refine bD ?_ | refine bA ?_ _)); refine blk_far ?_ NB397_401.out _; exact bd BK397.out⟩, ⟨by (with_reducible repeat (first | refine bN ?_ _ | refine bD ?_ | refine bA ?_ _)); refine blk_put (cs := zr6 (⟨#[]⟩ : ByteArray) 0 (⟨#[]⟩ : ByteArray) 0 0 0 0 0) ?_ 7 _ rfl; (with_reducible repeat (first | refine bN ?_ _ | refine bD ?_ | refine bA ?_ _)); refine blk_put (cs := zr6 (⟨#[]⟩ : ByteArray) 0 (⟨#[]⟩ : ByteArray) 0 0 0 0 0) ?_ 6 _ rfl; (with_reducible repeat (first | refine bN ?_ _ | refine bD ?_ | refine bA ?_ _)); refine blk_put (cs := zr6 (⟨#[]⟩ : ByteArray) 0 (⟨#[]⟩ : ByteArray) 0 0 0 0 0) ?_ 5 _ rfl; (with_reducible repeat (first | refine bN ?_ _ | refine bD ?_ | refine bA ?_ _)); refine blk_put (cs := zr6 (⟨#[]⟩ : ByteArray) 0 (⟨#[]⟩ : ByteArray) 0 0 0 0 0) ?_ 4 _ rfl; (with_reducible repeat (first | refine bN ?_ _ | refine bD ?_ | refine bA ?_ _)); refine blk_put (cs := zr6 (⟨#[]⟩ : ByteArray) 0 (⟨#[]⟩ : ByteArray) 0 0 0 0 0) ?_ 3 _ rfl; (with_reducible repeat (first | refine bN ?_ _ | refine bD ?_ | refine bA ?_ _)); refine blk_put (cs := zr6 (⟨#[]⟩ : ByteArray) 0 (⟨#[]⟩ : ByteArray) 0 0 0 0 0) ?_ 2 _ rfl; (with_reducible repeat (first | refine bN ?_ _ | refine bD ?_ | refine bA ?_ _)); refine blk_put (cs := zr6 (⟨#[]⟩ : ByteArray) 0 (⟨#[]⟩ : ByteArray) 0 0 0 0 0) ?_ 1 _ rfl; (with_reducible repeat (first | refine bN ?_ _ | refine bD ?_ | refine bA ?_ _)); refine blk_put (cs := zr6 (⟨#[]⟩ : ByteArray) 0 (⟨#[]⟩ : ByteArray) 0 0 0 0 0) ?_ 0 _ rfl; exact bd BK401.out⟩, ⟨s9_2⟩⟩
   ·rw [if_neg c10] at H
    exact absurd H (by simp)
  ·rw [if_neg c9] at H
   have c9b0 : ((t398.length : Int) == 4) = false := beq_eq_false_iff_ne.mpr c9
   have c9b1 : ((t398.length : Int) != 4) = true := bne_iff_ne.mpr c9
   (first | rw [c9b0] | (simp only [i64_w, i32_w]; rw [c9b0]) | skip)
   have H' := am H
   clear H
   obtain ⟨Ao12, co12, eo12⟩ := Kd.R_slice HO400.out
   subst eo12
   go_wp2
   go_meet
   case rel => exact ⟨_, (false), u9_31, H', ⟨by first | omega | exact Nat.le_refl _⟩, ⟨by (with_reducible repeat (first | apply Kd.R_alloc | apply Kd.R_drewN | apply Kd.R_drew)); exact Kd.R_mono (Kd.R_far (p := ⟨gb401, 7, none⟩) (Kd.R_far (p := ⟨gb401, 6, none⟩) (Kd.R_far (p := ⟨gb401, 5, none⟩) (Kd.R_far (p := ⟨gb401, 4, none⟩) (Kd.R_far (p := ⟨gb401, 3, none⟩) (Kd.R_far (p := ⟨gb401, 2, none⟩) (Kd.R_far (p := ⟨gb401, 1, none⟩) (Kd.R_far (p := ⟨gb401, 0, none⟩) (Kd.R_types HO400.out BK401.out v9_0) (fun _ hk => hk.2) (.string (⟨#[]⟩ : ByteArray))) (fun _ hk => hk.2) (.int .i64 0)) (fun _ hk => hk.2) (.string (⟨#[]⟩ : ByteArray))) (fun _ hk => hk.2) (.int .i64 0)) (fun _ hk => hk.2) (.int .i64 0)) (fun _ hk => hk.2) (.int .i64 0)) (fun _ hk => hk.2) (.int .i64 0)) (fun _ hk => hk.2) (.int .i64 0)) (fun _ hk => trivial)⟩, ⟨by (with_reducible repeat (first | refine bN ?_ _ | refine bD ?_ | refine bA ?_ _)); refine blk_far ?_ NB397_401.out _; (with_reducible repeat (first | refine bN ?_ _ | refine bD ?_ | refine bA ?_ _)); refine blk_far ?_ NB397_401.out _; (with_reducible repeat (first | refine bN ?_ _ | refine bD ?_ | refine bA ?_ _)); refine blk_far ?_ NB397_401.out _; (with_reducible repeat (first | refine bN ?_ _ | refine bD ?_ | refine bA ?_ _)); refine blk_far ?_ NB397_401.out _; (with_reducible repeat (first | refine bN ?_ _ | refine bD ?_ | refine bA ?_ _)); refine blk_far ?_ NB397_401.out _; (with_reducible repeat (first | refine bN ?_ _ | refine bD ?_ | refine bA ?_ _)); refine blk_far ?_ NB397_401.out _; (with_reducible repeat (first | refine bN ?_ _ | refine bD ?_ | refine bA ?_ _)); refine blk_far ?_ NB397_401.out _; (with_reducible repeat (first | refine bN ?_ _ | refine bD ?_ | refine bA ?_ _)); refine blk_far ?_ NB397_401.out _; exact bd BK397.out⟩, ⟨by (with_reducible repeat (first | refine bN ?_ _ | refine bD ?_ | refine bA ?_ _)); refine blk_put (cs := zr6 (⟨#[]⟩ : ByteArray) 0 (⟨#[]⟩ : ByteArray) 0 0 0 0 0) ?_ 7 _ rfl; (with_reducible repeat (first | refine bN ?_ _ | refine bD ?_ | refine bA ?_ _)); refine blk_put (cs := zr6 (⟨#[]⟩ : ByteArray) 0 (⟨#[]⟩ : ByteArray) 0 0 0 0 0) ?_ 6 _ rfl; (with_reducible repeat (first | refine bN ?_ _ | refine bD ?_ | refine bA ?_ _)); refine blk_put (cs := zr6 (⟨#[]⟩ : ByteArray) 0 (⟨#[]⟩ : ByteArray) 0 0 0 0 0) ?_ 5 _ rfl; (with_reducible repeat (first | refine bN ?_ _ | refine bD ?_ | refine bA ?_ _)); refine blk_put (cs := zr6 (⟨#[]⟩ : ByteArray) 0 (⟨#[]⟩ : ByteArray) 0 0 0 0 0) ?_ 4 _ rfl; (with_reducible repeat (first | refine bN ?_ _ | refine bD ?_ | refine bA ?_ _)); refine blk_put (cs := zr6 (⟨#[]⟩ : ByteArray) 0 (⟨#[]⟩ : ByteArray) 0 0 0 0 0) ?_ 3 _ rfl; (with_reducible repeat (first | refine bN ?_ _ | refine bD ?_ | refine bA ?_ _)); refine blk_put (cs := zr6 (⟨#[]⟩ : ByteArray) 0 (⟨#[]⟩ : ByteArray) 0 0 0 0 0) ?_ 2 _ rfl; (with_reducible repeat (first | refine bN ?_ _ | refine bD ?_ | refine bA ?_ _)); refine blk_put (cs := zr6 (⟨#[]⟩ : ByteArray) 0 (⟨#[]⟩ : ByteArray) 0 0 0 0 0) ?_ 1 _ rfl; (with_reducible repeat (first | refine bN ?_ _ | refine bD ?_ | refine bA ?_ _)); refine blk_put (cs := zr6 (⟨#[]⟩ : ByteArray) 0 (⟨#[]⟩ : ByteArray) 0 0 0 0 0) ?_ 0 _ rfl; exact bd BK401.out⟩, ⟨s9_2⟩⟩
 case rest =>
  clear HC3
  try clear c1
  try clear p2
  try clear c3
  try clear p4
  try clear q4
  try clear hx4
  try clear qi4
  try clear c7
  try clear c9
  try clear c9b0
  try clear c9b1
  try clear c10
  try clear c10b0
  try clear c10b1
  try clear hcz8_0
  try clear hcz8_1
  try clear hcz8_2
  try clear hcz8_3
  try clear hcz8_4
  try clear hcz8_5
  try clear hcz8_6
  try clear hcz8_7
  try clear hfz8_0
  try clear hfz8_1
  try clear hfz8_2
  try clear hfz8_3
  try clear hfz8_4
  try clear hfz8_5
  try clear hfz8_6
  try clear hfz8_7
  try clear hx402_0
  try clear p402
  try clear q402
  obtain ⟨kq, x21_2, rfl, HA, HJ2, HO_4, BK397, BK401, HB⟩ := hcut
  cases kq with
  | zero => exact absurd HA.out (by simp [impl_ParseDevice.j0])
  | succ kj2 =>
   have H := HA.out
   clear HA
   simp only [impl_ParseDevice.j0] at H
   by_cases c13 : x21_2 = true
   ·subst c13
    have H1 : (if 3 < (t398.length : Int) then ((impl_ParseMeasure.f kj2 (rdOf ByteArray.empty t398 3)).bind fun bt404 => (if 1 < (t398.length : Int) then (if a0.toList = ([] : List UInt8) then (some ((⟨#[]⟩ : ByteArray), 0, (⟨#[]⟩ : ByteArray), 0, 0, 0, 0, 0, false)) else ((impl_FormatDevice.f kj2 (rdOf ByteArray.empty t398 1) 1 (⟨#[]⟩ : ByteArray) 0 0 0 0 bt404.1).bind fun t407 => (if t407.toList = a0.toList then (some (rdOf ByteArray.empty t398 1, 1, (⟨#[]⟩ : ByteArray), 0, 0, 0, 0, bt404.1, true)) else (some ((⟨#[]⟩ : ByteArray), 0, (⟨#[]⟩ : ByteArray), 0, 0, 0, 0, 0, false))))) else (none))) else (none)) = some (r1, r2, r3, r4, r5, r6, r7, r8, r9) := by rw [if_pos rfl] at H; exact H
    clear H
    have H := H1
    clear H1
    by_cases c14 : 3 < (t398.length : Int)
    ·rw [if_pos c14] at H
     have c14b0 : decide (3 < (t398.length : Int)) = true := decide_eq_true c14
     have c14b1 : decide (3 < t398.length) = true := decide_eq_true (by omega)
     clear c14
     replace H := ob H
     obtain ⟨⟨t404, t405⟩, A150, H⟩ := H
     replace H : (if 1 < (t398.length : Int) then (if a0.toList = ([] : List UInt8) then (some ((⟨#[]⟩ : ByteArray), 0, (⟨#[]⟩ : ByteArray), 0, 0, 0, 0, 0, false)) else ((impl_FormatDevice.f kj2 (rdOf ByteArray.empty t398 1) 1 (⟨#[]⟩ : ByteArray) 0 0 0 0 t404).bind fun t407 => (if t407.toList = a0.toList then (some (rdOf ByteArray.empty t398 1, 1, (⟨#[]⟩ : ByteArray), 0, 0, 0, 0, t404, true)) else (some ((⟨#[]⟩ : ByteArray), 0, (⟨#[]⟩ : ByteArray), 0, 0, 0, 0, 0, false))))) else (none)) = some (r1, r2, r3, r4, r5, r6, r7, r8, r9) := H
     have A15 := am A150
     clear A150
     by_cases c16 : 1 < (t398.length : Int)
     ·rw [if_pos c16] at H
      have c16b0 : decide (1 < (t398.length : Int)) = true := decide_eq_true c16
      have c16b1 : decide (1 < t398.length) = true := decide_eq_true (by omega)
      clear c16
      by_cases c17 : a0.toList = ([] : List UInt8)
      ·rw [if_pos c17] at H
       have c17b0 : (a0.toList == ([] : List UInt8)) = true := beq_iff_eq.mpr c17
       have c17b1 : (a0.toList != ([] : List UInt8)) = false := bne_eq_false_iff_eq.mpr c17
       clear c17
       simp only [Option.some.injEq, Prod.mk.injEq] at H
       obtain ⟨rfl, rfl, rfl, rfl, rfl, rfl, rfl, rfl, rfl⟩ := H
       obtain ⟨Ao18, co18, eo18⟩ := Kd.R_slice HO_4.out
       subst eo18
       have p403 : 0 ≤ (3 : Int) := (by omega)
       have q403 : 3 < (t398.length : Int) := od u9_24
       obtain ⟨ad403, e403, hx403_0⟩ := Kd.at_string (Kd.R_reads' HO_4.out).2.2 3 p403 q403
       cases e403
       (try simp only [show (3 : Int).toNat = 3 from rfl, Nat.reduceMul, Nat.reduceEqDiff, Go.Addr.add, ↓reduceIte] at hx403_0)
       have qi403 : (3 < t398.length) = True := eq_true (by omega)
       (try rw [show ((3 : Int)).toNat = 3 from rfl] at hx403_0)
       replace p403 := eq_true p403
       replace q403 := eq_true q403
       go_wp2_with (first | ((with_reducible refine gate_callee (f := 38) rfl ?_); refine goesL_ (some 35) rfl rfl Tryd.func38 (by kernel_rfl) rfl #[.string (rdOf ByteArray.empty t398 3)] rfl u9_13 ?_; (with_reducible refine (impl_ParseMeasure.calls kj2 (rdOf ByteArray.empty t398 3) t404 t405 _ A15.out).mono ?_); rintro e w19 ⟨rfl, hb⟩; refine ⟨_, rfl, ?_⟩; have n0_ := am (Kd.R_below u9_9 hb); have n1_ := am (blk_below (g := gb397) (o := zo3 (⟨#[]⟩ : ByteArray) 0 (⟨#[]⟩ : ByteArray) 0 0 0 0 0) u9_5 hb); have n2_ := am (blk_below (g := gb401) (o := zo3 (⟨#[]⟩ : ByteArray) 0 (⟨#[]⟩ : ByteArray) 0 0 0 0 0) u9_6 hb); have n3_ := am (below_step u9_4 hb); clear HO_4 BK397 BK401 HB; have HO_4 := n0_; have BK397 := n1_; have BK401 := n2_; have HB := n3_; clear n0_ n1_ n2_ n3_; (try clear hb); (try clear hb2); (try clear hk); (try clear hi); have p406 : 0 ≤ (1 : Int) := (by omega); have q406 : 1 < (t398.length : Int) := od u9_24; obtain ⟨ad406, e406, hx406_0⟩ := Kd.at_string (Kd.R_reads' HO_4.out).2.2 1 p406 q406; obtain rfl : ad403 = ad406 := (by injection e406); (try simp only [show (1 : Int).toNat = 1 from rfl, Nat.reduceMul, Nat.reduceEqDiff, Go.Addr.add, ↓reduceIte] at hx406_0); have qi406 : (1 < t398.length) = True := eq_true (by omega); (try rw [show ((1 : Int)).toNat = 1 from rfl] at hx406_0); replace p406 := eq_true p406; replace q406 := eq_true q406; have hnb20 := NB401_397.out; have hnc20 := NB397_401.out; obtain ⟨hcz21_0, hcz21_1, hcz21_2, hcz21_3, hcz21_4, hcz21_5, hcz21_6, hcz21_7, hfz21_0, hfz21_1, hfz21_2, hfz21_3, hfz21_4, hfz21_5, hfz21_6, hfz21_7⟩ := cf8 BK401.out; obtain ⟨hcz22_0, hcz22_1, hcz22_2, hcz22_3, hcz22_4, hcz22_5, hcz22_6, hcz22_7, hfz22_0, hfz22_1, hfz22_2, hfz22_3, hfz22_4, hfz22_5, hfz22_6, hfz22_7⟩ := cf8 BK397.out))
       refine bodyPost_ret (results_ct rfl _ _ gb397 38 #[.string (⟨#[]⟩ : ByteArray), .int .i64 0, .string (⟨#[]⟩ : ByteArray), .int .i64 0, .int .i64 0, .int .i64 0, .int .i64 0, .int .i64 0] (0, 0) _ rfl u9_2 Tryd.underlying38 rfl (by kernel_rfl)) rfl ?_
       exact ⟨by first | rfl | (simp [*] <;> rfl), s9_2⟩
      ·rw [if_neg c17] at H
       have c17b0 : (a0.toList == ([] : List UInt8)) = false := beq_eq_false_iff_ne.mpr c17
       have c17b1 : (a0.toList != ([] : List UInt8)) = true := bne_iff_ne.mpr c17
       replace H := ob H
       obtain ⟨t407, A230, H⟩ := H
       replace H : (if t407.toList = a0.toList then (some (rdOf ByteArray.empty t398 1, 1, (⟨#[]⟩ : ByteArray), 0, 0, 0, 0, t404, true)) else (some ((⟨#[]⟩ : ByteArray), 0, (⟨#[]⟩ : ByteArray), 0, 0, 0, 0, 0, false))) = some (r1, r2, r3, r4, r5, r6, r7, r8, r9) := H
       have A23 := am A230
       clear A230
       by_cases c24 : t407.toList = a0.toList
       ·rw [if_pos c24] at H
        have c24b0 : (t407.toList == a0.toList) = true := beq_iff_eq.mpr c24
        have c24b1 : (t407.toList != a0.toList) = false := bne_eq_false_iff_eq.mpr c24
        clear c24
        simp only [Option.some.injEq, Prod.mk.injEq] at H
        obtain ⟨rfl, rfl, rfl, rfl, rfl, rfl, rfl, rfl, rfl⟩ := H
        obtain ⟨Ao25, co25, eo25⟩ := Kd.R_slice HO_4.out
        subst eo25
        have p403 : 0 ≤ (3 : Int) := (by omega)
        have q403 : 3 < (t398.length : Int) := od u9_24
        obtain ⟨ad403, e403, hx403_0⟩ := Kd.at_string (Kd.R_reads' HO_4.out).2.2 3 p403 q403
        cases e403
        (try simp only [show (3 : Int).toNat = 3 from rfl, Nat.reduceMul, Nat.reduceEqDiff, Go.Addr.add, ↓reduceIte] at hx403_0)
        have qi403 : (3 < t398.length) = True := eq_true (by omega)
        (try rw [show ((3 : Int)).toNat = 3 from rfl] at hx403_0)
        replace p403 := eq_true p403
        replace q403 := eq_true q403
        go_wp2_with (first | ((with_reducible refine gate_callee (f := 38) rfl ?_); refine goesL_ (some 35) rfl rfl Tryd.func38 (by kernel_rfl) rfl #[.string (rdOf ByteArray.empty t398 3)] rfl u9_13 ?_; (with_reducible refine (impl_ParseMeasure.calls kj2 (rdOf ByteArray.empty t398 3) t404 t405 _ A15.out).mono ?_); rintro e w26 ⟨rfl, hb⟩; refine ⟨_, rfl, ?_⟩; have n0_ := am (Kd.R_below u9_9 hb); have n1_ := am (blk_below (g := gb397) (o := zo3 (⟨#[]⟩ : ByteArray) 0 (⟨#[]⟩ : ByteArray) 0 0 0 0 0) u9_5 hb); have n2_ := am (blk_below (g := gb401) (o := zo3 (⟨#[]⟩ : ByteArray) 0 (⟨#[]⟩ : ByteArray) 0 0 0 0 0) u9_6 hb); have n3_ := am (below_step u9_4 hb); clear HO_4 BK397 BK401 HB; have HO_4 := n0_; have BK397 := n1_; have BK401 := n2_; have HB := n3_; clear n0_ n1_ n2_ n3_; (try clear hb); (try clear hb2); (try clear hk); (try clear hi); have p406 : 0 ≤ (1 : Int) := (by omega); have q406 : 1 < (t398.length : Int) := od u9_24; obtain ⟨ad406, e406, hx406_0⟩ := Kd.at_string (Kd.R_reads' HO_4.out).2.2 1 p406 q406; obtain rfl : ad403 = ad406 := (by injection e406); (try simp only [show (1 : Int).toNat = 1 from rfl, Nat.reduceMul, Nat.reduceEqDiff, Go.Addr.add, ↓reduceIte] at hx406_0); have qi406 : (1 < t398.length) = True := eq_true (by omega); (try rw [show ((1 : Int)).toNat = 1 from rfl] at hx406_0); replace p406 := eq_true p406; replace q406 := eq_true q406; have hnb27 := NB401_397.out; have hnc27 := NB397_401.out; obtain ⟨hcz28_0, hcz28_1, hcz28_2, hcz28_3, hcz28_4, hcz28_5, hcz28_6, hcz28_7, hfz28_0, hfz28_1, hfz28_2, hfz28_3, hfz28_4, hfz28_5, hfz28_6, hfz28_7⟩ := cf8 BK401.out) | (go_at_call 20; (with_reducible refine (impl_FormatDevice.calls kj2 (rdOf ByteArray.empty t398 1) 1 (⟨#[]⟩ : ByteArray) 0 0 0 0 t404 t407 _ A23.out).mono ?_); rintro e w29 ⟨rfl, hb⟩; have n0_ := am (Kd.R_below u9_20 hb); have n1_ := am (blk_below (g := gb397) (o := zo3 (⟨#[]⟩ : ByteArray) 0 (⟨#[]⟩ : ByteArray) 0 0 0 0 0) u9_3 hb); have n2_ := am (blk_below (g := gb401) (o := zo3 (rdOf ByteArray.empty t398 1) 1 (⟨#[]⟩ : ByteArray) 0 0 0 0 t404) u9_8 hb); have n3_ := am (below_step u9_4 hb); clear HO_4 BK397 BK401 HB; have HO_4 := n0_; have BK397 := n1_; have BK401 := n2_; have HB := n3_; clear n0_ n1_ n2_ n3_; (try clear hb); (try clear hb2); (try clear hk); (try clear hi); obtain ⟨hcz30_0, hcz30_1, hcz30_2, hcz30_3, hcz30_4, hcz30_5, hcz30_6, hcz30_7, hfz30_0, hfz30_1, hfz30_2, hfz30_3, hfz30_4, hfz30_5, hfz30_6, hfz30_7⟩ := cf8 BK401.out; obtain ⟨hcz31_0, hcz31_1, hcz31_2, hcz31_3, hcz31_4, hcz31_5, hcz31_6, hcz31_7, hfz31_0, hfz31_1, hfz31_2, hfz31_3, hfz31_4, hfz31_5, hfz31_6, hfz31_7⟩ := cf8 BK397.out))
        refine bodyPost_ret (results_ct rfl _ _ gb397 38 #[.string (rdOf ByteArray.empty t398 1), .int .i64 1, .string (⟨#[]⟩ : ByteArray), .int .i64 0, .int .i64 0, .int .i64 0, .int .i64 0, .int .i64 t404] (0, 0) _ rfl (by (with_reducible repeat (first | refine bN ?_ _ | refine bD ?_ | refine bA ?_ _)); refine blk_put (cs := zr6 (rdOf ByteArray.empty t398 1) 1 (⟨#[]⟩ : ByteArray) 0 0 0 0 0) ?_ 7 _ rfl; (with_reducible repeat (first | refine bN ?_ _ | refine bD ?_ | refine bA ?_ _)); refine blk_put (cs := zr6 (rdOf ByteArray.empty t398 1) 1 (⟨#[]⟩ : ByteArray) 0 0 0 0 0) ?_ 6 _ rfl; (with_reducible repeat (first | refine bN ?_ _ | refine bD ?_ | refine bA ?_ _)); refine blk_put (cs := zr6 (rdOf ByteArray.empty t398 1) 1 (⟨#[]⟩ : ByteArray) 0 0 0 0 0) ?_ 5 _ rfl; (with_reducible repeat (first | refine bN ?_ _ | refine bD ?_ | refine bA ?_ _)); refine blk_put (cs := zr6 (rdOf ByteArray.empty t398 1) 1 (⟨#[]⟩ : ByteArray) 0 0 0 0 0) ?_ 4 _ rfl; (with_reducible repeat (first | refine bN ?_ _ | refine bD ?_ | refine bA ?_ _)); refine blk_put (cs := zr6 (rdOf ByteArray.empty t398 1) 1 (⟨#[]⟩ : ByteArray) 0 0 0 0 0) ?_ 3 _ rfl; (with_reducible repeat (first | refine bN ?_ _ | refine bD ?_ | refine bA ?_ _)); refine blk_put (cs := zr6 (rdOf ByteArray.empty t398 1) 1 (⟨#[]⟩ : ByteArray) 0 0 0 0 0) ?_ 2 _ rfl; (with_reducible repeat (first | refine bN ?_ _ | refine bD ?_ | refine bA ?_ _)); refine blk_put (cs := zr6 (rdOf ByteArray.empty t398 1) 0 (⟨#[]⟩ : ByteArray) 0 0 0 0 0) ?_ 1 _ rfl; (with_reducible repeat (first | refine bN ?_ _ | refine bD ?_ | refine bA ?_ _)); refine blk_put (cs := zr6 (⟨#[]⟩ : ByteArray) 0 (⟨#[]⟩ : ByteArray) 0 0 0 0 0) ?_ 0 _ rfl; exact bd BK397.out) Tryd.underlying38 rfl (by kernel_rfl)) rfl ?_
        exact ⟨by first | rfl | (simp [*] <;> rfl), s9_2⟩
       ·rw [if_neg c24] at H
        have c24b0 : (t407.toList == a0.toList) = false := beq_eq_false_iff_ne.mpr c24
        have c24b1 : (t407.toList != a0.toList) = true := bne_iff_ne.mpr c24
        simp only [Option.some.injEq, Prod.mk.injEq] at H
        obtain ⟨rfl, rfl, rfl, rfl, rfl, rfl, rfl, rfl, rfl⟩ := H
        obtain ⟨Ao32, co32, eo32⟩ := Kd.R_slice HO_4.out
        subst eo32
        have p403 : 0 ≤ (3 : Int) := (by omega)
        have q403 : 3 < (t398.length : Int) := od u9_24
        obtain ⟨ad403, e403, hx403_0⟩ := Kd.at_string (Kd.R_reads' HO_4.out).2.2 3 p403 q403
        cases e403
        (try simp only [show (3 : Int).toNat = 3 from rfl, Nat.reduceMul, Nat.reduceEqDiff, Go.Addr.add, ↓reduceIte] at hx403_0)
        have qi403 : (3 < t398.length) = True := eq_true (by omega)
        (try rw [show ((3 : Int)).toNat = 3 from rfl] at hx403_0)
        replace p403 := eq_true p403
        replace q403 := eq_true q403
        go_wp2_with (first | ((with_reducible refine gate_callee (f := 38) rfl ?_); refine goesL_ (some 35) rfl rfl Tryd.func38 (by kernel_rfl) rfl #[.string (rdOf ByteArray.empty t398 3)] rfl u9_13 ?_; (with_reducible refine (impl_ParseMeasure.calls kj2 (rdOf ByteArray.empty t398 3) t404 t405 _ A15.out).mono ?_); rintro e w33 ⟨rfl, hb⟩; refine ⟨_, rfl, ?_⟩; have n0_ := am (Kd.R_below u9_9 hb); have n1_ := am (blk_below (g := gb397) (o := zo3 (⟨#[]⟩ : ByteArray) 0 (⟨#[]⟩ : ByteArray) 0 0 0 0 0) u9_5 hb); have n2_ := am (blk_below (g := gb401) (o := zo3 (⟨#[]⟩ : ByteArray) 0 (⟨#[]⟩ : ByteArray) 0 0 0 0 0) u9_6 hb); have n3_ := am (below_step u9_4 hb); clear HO_4 BK397 BK401 HB; have HO_4 := n0_; have BK397 := n1_; have BK401 := n2_; have HB := n3_; clear n0_ n1_ n2_ n3_; (try clear hb); (try clear hb2); (try clear hk); (try clear hi); have p406 : 0 ≤ (1 : Int) := (by omega); have q406 : 1 < (t398.length : Int) := od u9_24; obtain ⟨ad406, e406, hx406_0⟩ := Kd.at_string (Kd.R_reads' HO_4.out).2.2 1 p406 q406; obtain rfl : ad403 = ad406 := (by injection e406); (try simp only [show (1 : Int).toNat = 1 from rfl, Nat.reduceMul, Nat.reduceEqDiff, Go.Addr.add, ↓reduceIte] at hx406_0); have qi406 : (1 < t398.length) = True := eq_true (by omega); (try rw [show ((1 : Int)).toNat = 1 from rfl] at hx406_0); replace p406 := eq_true p406; replace q406 := eq_true q406; have hnb34 := NB401_397.out; have hnc34 := NB397_401.out; obtain ⟨hcz35_0, hcz35_1, hcz35_2, hcz35_3, hcz35_4, hcz35_5, hcz35_6, hcz35_7, hfz35_0, hfz35_1, hfz35_2, hfz35_3, hfz35_4, hfz35_5, hfz35_6, hfz35_7⟩ := cf8 BK401.out) | (go_at_call 20; (with_reducible refine (impl_FormatDevice.calls kj2 (rdOf ByteArray.empty t398 1) 1 (⟨#[]⟩ : ByteArray) 0 0 0 0 t404 t407 _ A23.out).mono ?_); rintro e w36 ⟨rfl, hb⟩; have n0_ := am (Kd.R_below u9_20 hb); have n1_ := am (blk_below (g := gb397) (o := zo3 (⟨#[]⟩ : ByteArray) 0 (⟨#[]⟩ : ByteArray) 0 0 0 0 0) u9_3 hb); have n2_ := am (blk_below (g := gb401) (o := zo3 (rdOf ByteArray.empty t398 1) 1 (⟨#[]⟩ : ByteArray) 0 0 0 0 t404) u9_8 hb); have n3_ := am (below_step u9_4 hb); clear HO_4 BK397 BK401 HB; have HO_4 := n0_; have BK397 := n1_; have BK401 := n2_; have HB := n3_; clear n0_ n1_ n2_ n3_; (try clear hb); (try clear hb2); (try clear hk); (try clear hi); obtain ⟨hcz37_0, hcz37_1, hcz37_2, hcz37_3, hcz37_4, hcz37_5, hcz37_6, hcz37_7, hfz37_0, hfz37_1, hfz37_2, hfz37_3, hfz37_4, hfz37_5, hfz37_6, hfz37_7⟩ := cf8 BK397.out))
        refine bodyPost_ret (results_ct rfl _ _ gb397 38 #[.string (⟨#[]⟩ : ByteArray), .int .i64 0, .string (⟨#[]⟩ : ByteArray), .int .i64 0, .int .i64 0, .int .i64 0, .int .i64 0, .int .i64 0] (0, 0) _ rfl u9_1 Tryd.underlying38 rfl (by kernel_rfl)) rfl ?_
        exact ⟨by first | rfl | (simp [*] <;> rfl), s9_2⟩
     ·rw [if_neg c16] at H
      exact absurd H (by simp)
    ·rw [if_neg c14] at H
     exact absurd H (by simp)
   ·replace c13 := Bool.eq_false_iff.mpr c13
    subst c13
    have H1 : (if (t398.length : Int) = 12 then (if 0 < (t398.length : Int) then (impl_ParseDevice.j1 kj2 a0 t398 ((rdOf ByteArray.empty t398 0).toList == ([110, 111, 122, 122, 108, 101] : List UInt8)) (⟨#[]⟩ : ByteArray) 0 (⟨#[]⟩ : ByteArray) 0 0 0 0 0) else (none)) else (impl_ParseDevice.j1 kj2 a0 t398 false (⟨#[]⟩ : ByteArray) 0 (⟨#[]⟩ : ByteArray) 0 0 0 0 0)) = some (r1, r2, r3, r4, r5, r6, r7, r8, r9) := by rw [if_neg (show ¬ (false = true) by decide)] at H; exact H
    clear H
    have H := H1
    clear H1
    have HC38 := am H
    clear H
    go_upto_region 6 with (fail)
    go_cut [43] (fun v43 wc => ∃ (kq : Nat) (x43_37 : Bool), v43 = .bool x43_37 ∧ Aside0 (impl_ParseDevice.j1 kq a0 t398 x43_37 (⟨#[]⟩ : ByteArray) 0 (⟨#[]⟩ : ByteArray) 0 0 0 0 0 = some (r1, r2, r3, r4, r5, r6, r7, r8, r9)) ∧ Aside0 (kq ≤ kj2) ∧ Aside0 (Kd.R Kd.string 9 wc w.heap.size (fun _ => True) v399 t398) ∧ Aside0 (wc.heap[gb397]? = some (.cells #[.string (⟨#[]⟩ : ByteArray), .int .i64 0, .string (⟨#[]⟩ : ByteArray), .int .i64 0, .int .i64 0, .int .i64 0, .int .i64 0, .int .i64 0] 38 (0, 0))) ∧ Aside0 (wc.heap[gb401]? = some (.cells #[.string (⟨#[]⟩ : ByteArray), .int .i64 0, .string (⟨#[]⟩ : ByteArray), .int .i64 0, .int .i64 0, .int .i64 0, .int .i64 0, .int .i64 0] 38 (0, 0))) ∧ Aside0 (Below w.heap.size w wc))
    case first =>
     have H := HC38.out
     clear HC38
     by_cases c39 : (t398.length : Int) = 12
     ·rw [if_pos c39] at H
      have c39b0 : ((t398.length : Int) == 12) = true := beq_iff_eq.mpr c39
      have c39b1 : ((t398.length : Int) != 12) = false := bne_eq_false_iff_eq.mpr c39
      clear c39
      (first | rw [c39b0] | (simp only [i64_w, i32_w]; rw [c39b0]) | skip)
      by_cases c40 : 0 < (t398.length : Int)
      ·rw [if_pos c40] at H
       have c40b0 : decide (0 < (t398.length : Int)) = true := decide_eq_true c40
       have c40b1 : decide (0 < t398.length) = true := decide_eq_true (by omega)
       clear c40
       have H' := am H
       clear H
       obtain ⟨Ao41, co41, eo41⟩ := Kd.R_slice HO_4.out
       subst eo41
       have p408 : 0 ≤ (0 : Int) := (by omega)
       have q408 : 0 < (t398.length : Int) := od u9_24
       obtain ⟨ad408, e408, hx408_0⟩ := Kd.at_string (Kd.R_reads' HO_4.out).2.2 0 p408 q408
       cases e408
       have qi408 : (0 < t398.length) = True := eq_true (by omega)
       (try rw [show ((0 : Int)).toNat = 0 from rfl] at hx408_0)
       (try rw [Addr.add_zero'] at hx408_0)
       replace p408 := eq_true p408
       replace q408 := eq_true q408
       go_wp2
       go_meet
       case rel => exact ⟨_, (((rdOf ByteArray.empty t398 0).toList == ([110, 111, 122, 122, 108, 101] : List UInt8))), u9_31, H', ⟨by have := HJ2.out; first | omega | exact Nat.le_refl _⟩, ⟨by (with_reducible repeat (first | apply Kd.R_alloc | apply Kd.R_drewN | apply Kd.R_drew)); exact HO_4.out⟩, ⟨bd BK397.out⟩, ⟨bd BK401.out⟩, ⟨s9_2⟩⟩
      ·rw [if_neg c40] at H
       exact absurd H (by simp)
     ·rw [if_neg c39] at H
      have c39b0 : ((t398.length : Int) == 12) = false := beq_eq_false_iff_ne.mpr c39
      have c39b1 : ((t398.length : Int) != 12) = true := bne_iff_ne.mpr c39
      (first | rw [c39b0] | (simp only [i64_w, i32_w]; rw [c39b0]) | skip)
      have H' := am H
      clear H
      obtain ⟨Ao42, co42, eo42⟩ := Kd.R_slice HO_4.out
      subst eo42
      go_wp2
      go_meet
      case rel => exact ⟨_, (false), u9_31, H', ⟨by have := HJ2.out; first | omega | exact Nat.le_refl _⟩, ⟨by (with_reducible repeat (first | apply Kd.R_alloc | apply Kd.R_drewN | apply Kd.R_drew)); exact HO_4.out⟩, ⟨bd BK397.out⟩, ⟨bd BK401.out⟩, ⟨s9_2⟩⟩
    case rest =>
     clear HC38
     try clear c1
     try clear c2
     try clear p2
     try clear c3
     try clear c4
     try clear p4
     try clear q4
     try clear hx4
     try clear qi4
     try clear c7
     try clear c9
     try clear c9b0
     try clear c9b1
     try clear c10
     try clear c10b0
     try clear c10b1
     try clear c13
     try clear c14
     try clear c14b0
     try clear c14b1
     try clear c16
     try clear c16b0
     try clear c16b1
     try clear c17
     try clear c17b0
     try clear c17b1
     try clear c19
     try clear c20
     try clear c24
     try clear c24b0
     try clear c24b1
     try clear c27
     try clear c34
     try clear c36
     try clear c38
     try clear c39
     try clear c39b0
     try clear c39b1
     try clear c40
     try clear c40b0
     try clear c40b1
     try clear p40
     try clear q40
     try clear hx40
     try clear qi40
     try clear hcz21_0
     try clear hcz21_1
     try clear hcz21_2
     try clear hcz21_3
     try clear hcz21_4
     try clear hcz21_5
     try clear hcz21_6
     try clear hcz21_7
     try clear hcz22_0
     try clear hcz22_1
     try clear hcz22_2
     try clear hcz22_3
     try clear hcz22_4
     try clear hcz22_5
     try clear hcz22_6
     try clear hcz22_7
     try clear hcz28_0
     try clear hcz28_1
     try clear hcz28_2
     try clear hcz28_3
     try clear hcz28_4
     try clear hcz28_5
     try clear hcz28_6
     try clear hcz28_7
     try clear hcz30_0
     try clear hcz30_1
     try clear hcz30_2
     try clear hcz30_3
     try clear hcz30_4
     try clear hcz30_5
     try clear hcz30_6
     try clear hcz30_7
     try clear hcz31_0
     try clear hcz31_1
     try clear hcz31_2
     try clear hcz31_3
     try clear hcz31_4
     try clear hcz31_5
     try clear hcz31_6
     try clear hcz31_7
     try clear hcz35_0
     try clear hcz35_1
     try clear hcz35_2
     try clear hcz35_3
     try clear hcz35_4
     try clear hcz35_5
     try clear hcz35_6
     try clear hcz35_7
     try clear hcz37_0
     try clear hcz37_1
     try clear hcz37_2
     try clear hcz37_3
     try clear hcz37_4
     try clear hcz37_5
     try clear hcz37_6
     try clear hcz37_7
     try clear hcz8_0
     try clear hcz8_1
     try clear hcz8_2
     try clear hcz8_3
     try clear hcz8_4
     try clear hcz8_5
     try clear hcz8_6
     try clear hcz8_7
     try clear hfz21_0
     try clear hfz21_1
     try clear hfz21_2
     try clear hfz21_3
     try clear hfz21_4
     try clear hfz21_5
     try clear hfz21_6
     try clear hfz21_7
     try clear hfz22_0
     try clear hfz22_1
     try clear hfz22_2
     try clear hfz22_3
     try clear hfz22_4
     try clear hfz22_5
     try clear hfz22_6
     try clear hfz22_7
     try clear hfz28_0
     try clear hfz28_1
     try clear hfz28_2
     try clear hfz28_3
     try clear hfz28_4
     try clear hfz28_5
     try clear hfz28_6
     try clear hfz28_7
     try clear hfz30_0
     try clear hfz30_1
     try clear hfz30_2
     try clear hfz30_3
     try clear hfz30_4
     try clear hfz30_5
     try clear hfz30_6
     try clear hfz30_7
     try clear hfz31_0
     try clear hfz31_1
     try clear hfz31_2
     try clear hfz31_3
     try clear hfz31_4
     try clear hfz31_5
     try clear hfz31_6
     try clear hfz31_7
     try clear hfz35_0
     try clear hfz35_1
     try clear hfz35_2
     try clear hfz35_3
     try clear hfz35_4
     try clear hfz35_5
     try clear hfz35_6
     try clear hfz35_7
     try clear hfz37_0
     try clear hfz37_1
     try clear hfz37_2
     try clear hfz37_3
     try clear hfz37_4
     try clear hfz37_5
     try clear hfz37_6
     try clear hfz37_7
     try clear hfz8_0
     try clear hfz8_1
     try clear hfz8_2
     try clear hfz8_3
     try clear hfz8_4
     try clear hfz8_5
     try clear hfz8_6
     try clear hfz8_7
     try clear hx402_0
     try clear hx403_0
     try clear hx406_0
     try clear hx408_0
     try clear p2
     try clear p4
     try clear p402
     try clear p403
     try clear p406
     try clear p408
     try clear q4
     try clear q402
     try clear q403
     try clear q406
     try clear q408
     obtain ⟨kq, x43_37, rfl, HA, HJ37, HO_4, BK397, BK401, HB⟩ := hcut
     cases kq with
     | zero => exact absurd HA.out (by simp [impl_ParseDevice.j1])
     | succ kj37 =>
      have H := HA.out
      clear HA
      simp only [impl_ParseDevice.j1] at H
      by_cases c43 : x43_37 = true
      ·subst c43
       have H1 : (if 5 < (t398.length : Int) then ((impl_ParsePlace.f kj37 (rdOf ByteArray.empty t398 5)).bind fun bt410 => (if 7 < (t398.length : Int) then ((impl_ParseNumber.f kj37 (rdOf ByteArray.empty t398 7)).bind fun bt415 => (if 9 < (t398.length : Int) then ((impl_ParseMeasure.f kj37 (rdOf ByteArray.empty t398 9)).bind fun bt418 => (if 11 < (t398.length : Int) then ((impl_ParseMeasure.f kj37 (rdOf ByteArray.empty t398 11)).bind fun bt421 => (if 1 < (t398.length : Int) then (if 3 < (t398.length : Int) then (if a0.toList = ([] : List UInt8) then (some ((⟨#[]⟩ : ByteArray), 0, (⟨#[]⟩ : ByteArray), 0, 0, 0, 0, 0, false)) else ((impl_FormatDevice.f kj37 (rdOf ByteArray.empty t398 1) 2 (rdOf ByteArray.empty t398 3) bt410.1 bt410.2.1 bt415.1 bt418.1 bt421.1).bind fun t425 => (if t425.toList = a0.toList then (some (rdOf ByteArray.empty t398 1, 2, rdOf ByteArray.empty t398 3, bt410.1, bt410.2.1, bt415.1, bt418.1, bt421.1, true)) else (some ((⟨#[]⟩ : ByteArray), 0, (⟨#[]⟩ : ByteArray), 0, 0, 0, 0, 0, false))))) else (none)) else (none))) else (none))) else (none))) else (none))) else (none)) = some (r1, r2, r3, r4, r5, r6, r7, r8, r9) := by rw [if_pos rfl] at H; exact H
       clear H
       have H := H1
       clear H1
       by_cases c44 : 5 < (t398.length : Int)
       ·rw [if_pos c44] at H
        have c44b0 : decide (5 < (t398.length : Int)) = true := decide_eq_true c44
        have c44b1 : decide (5 < t398.length) = true := decide_eq_true (by omega)
        clear c44
        replace H := ob H
        obtain ⟨⟨t410, t411, t412⟩, A450, H⟩ := H
        replace H : (if 7 < (t398.length : Int) then ((impl_ParseNumber.f kj37 (rdOf ByteArray.empty t398 7)).bind fun bt415 => (if 9 < (t398.length : Int) then ((impl_ParseMeasure.f kj37 (rdOf ByteArray.empty t398 9)).bind fun bt418 => (if 11 < (t398.length : Int) then ((impl_ParseMeasure.f kj37 (rdOf ByteArray.empty t398 11)).bind fun bt421 => (if 1 < (t398.length : Int) then (if 3 < (t398.length : Int) then (if a0.toList = ([] : List UInt8) then (some ((⟨#[]⟩ : ByteArray), 0, (⟨#[]⟩ : ByteArray), 0, 0, 0, 0, 0, false)) else ((impl_FormatDevice.f kj37 (rdOf ByteArray.empty t398 1) 2 (rdOf ByteArray.empty t398 3) t410 t411 bt415.1 bt418.1 bt421.1).bind fun t425 => (if t425.toList = a0.toList then (some (rdOf ByteArray.empty t398 1, 2, rdOf ByteArray.empty t398 3, t410, t411, bt415.1, bt418.1, bt421.1, true)) else (some ((⟨#[]⟩ : ByteArray), 0, (⟨#[]⟩ : ByteArray), 0, 0, 0, 0, 0, false))))) else (none)) else (none))) else (none))) else (none))) else (none)) = some (r1, r2, r3, r4, r5, r6, r7, r8, r9) := H
        have A45 := am A450
        clear A450
        by_cases c46 : 7 < (t398.length : Int)
        ·rw [if_pos c46] at H
         have c46b0 : decide (7 < (t398.length : Int)) = true := decide_eq_true c46
         have c46b1 : decide (7 < t398.length) = true := decide_eq_true (by omega)
         clear c46
         replace H := ob H
         obtain ⟨⟨t415, t416⟩, A470, H⟩ := H
         replace H : (if 9 < (t398.length : Int) then ((impl_ParseMeasure.f kj37 (rdOf ByteArray.empty t398 9)).bind fun bt418 => (if 11 < (t398.length : Int) then ((impl_ParseMeasure.f kj37 (rdOf ByteArray.empty t398 11)).bind fun bt421 => (if 1 < (t398.length : Int) then (if 3 < (t398.length : Int) then (if a0.toList = ([] : List UInt8) then (some ((⟨#[]⟩ : ByteArray), 0, (⟨#[]⟩ : ByteArray), 0, 0, 0, 0, 0, false)) else ((impl_FormatDevice.f kj37 (rdOf ByteArray.empty t398 1) 2 (rdOf ByteArray.empty t398 3) t410 t411 t415 bt418.1 bt421.1).bind fun t425 => (if t425.toList = a0.toList then (some (rdOf ByteArray.empty t398 1, 2, rdOf ByteArray.empty t398 3, t410, t411, t415, bt418.1, bt421.1, true)) else (some ((⟨#[]⟩ : ByteArray), 0, (⟨#[]⟩ : ByteArray), 0, 0, 0, 0, 0, false))))) else (none)) else (none))) else (none))) else (none)) = some (r1, r2, r3, r4, r5, r6, r7, r8, r9) := H
         have A47 := am A470
         clear A470
         by_cases c48 : 9 < (t398.length : Int)
         ·rw [if_pos c48] at H
          have c48b0 : decide (9 < (t398.length : Int)) = true := decide_eq_true c48
          have c48b1 : decide (9 < t398.length) = true := decide_eq_true (by omega)
          clear c48
          replace H := ob H
          obtain ⟨⟨t418, t419⟩, A490, H⟩ := H
          replace H : (if 11 < (t398.length : Int) then ((impl_ParseMeasure.f kj37 (rdOf ByteArray.empty t398 11)).bind fun bt421 => (if 1 < (t398.length : Int) then (if 3 < (t398.length : Int) then (if a0.toList = ([] : List UInt8) then (some ((⟨#[]⟩ : ByteArray), 0, (⟨#[]⟩ : ByteArray), 0, 0, 0, 0, 0, false)) else ((impl_FormatDevice.f kj37 (rdOf ByteArray.empty t398 1) 2 (rdOf ByteArray.empty t398 3) t410 t411 t415 t418 bt421.1).bind fun t425 => (if t425.toList = a0.toList then (some (rdOf ByteArray.empty t398 1, 2, rdOf ByteArray.empty t398 3, t410, t411, t415, t418, bt421.1, true)) else (some ((⟨#[]⟩ : ByteArray), 0, (⟨#[]⟩ : ByteArray), 0, 0, 0, 0, 0, false))))) else (none)) else (none))) else (none)) = some (r1, r2, r3, r4, r5, r6, r7, r8, r9) := H
          have A49 := am A490
          clear A490
          by_cases c50 : 11 < (t398.length : Int)
          ·rw [if_pos c50] at H
           have c50b0 : decide (11 < (t398.length : Int)) = true := decide_eq_true c50
           have c50b1 : decide (11 < t398.length) = true := decide_eq_true (by omega)
           clear c50
           replace H := ob H
           obtain ⟨⟨t421, t422⟩, A510, H⟩ := H
           replace H : (if 1 < (t398.length : Int) then (if 3 < (t398.length : Int) then (if a0.toList = ([] : List UInt8) then (some ((⟨#[]⟩ : ByteArray), 0, (⟨#[]⟩ : ByteArray), 0, 0, 0, 0, 0, false)) else ((impl_FormatDevice.f kj37 (rdOf ByteArray.empty t398 1) 2 (rdOf ByteArray.empty t398 3) t410 t411 t415 t418 t421).bind fun t425 => (if t425.toList = a0.toList then (some (rdOf ByteArray.empty t398 1, 2, rdOf ByteArray.empty t398 3, t410, t411, t415, t418, t421, true)) else (some ((⟨#[]⟩ : ByteArray), 0, (⟨#[]⟩ : ByteArray), 0, 0, 0, 0, 0, false))))) else (none)) else (none)) = some (r1, r2, r3, r4, r5, r6, r7, r8, r9) := H
           have A51 := am A510
           clear A510
           by_cases c52 : 1 < (t398.length : Int)
           ·rw [if_pos c52] at H
            have c52b0 : decide (1 < (t398.length : Int)) = true := decide_eq_true c52
            have c52b1 : decide (1 < t398.length) = true := decide_eq_true (by omega)
            clear c52
            by_cases c53 : 3 < (t398.length : Int)
            ·rw [if_pos c53] at H
             have c53b0 : decide (3 < (t398.length : Int)) = true := decide_eq_true c53
             have c53b1 : decide (3 < t398.length) = true := decide_eq_true (by omega)
             clear c53
             by_cases c54 : a0.toList = ([] : List UInt8)
             ·rw [if_pos c54] at H
              have c54b0 : (a0.toList == ([] : List UInt8)) = true := beq_iff_eq.mpr c54
              have c54b1 : (a0.toList != ([] : List UInt8)) = false := bne_eq_false_iff_eq.mpr c54
              clear c54
              simp only [Option.some.injEq, Prod.mk.injEq] at H
              obtain ⟨rfl, rfl, rfl, rfl, rfl, rfl, rfl, rfl, rfl⟩ := H
              obtain ⟨Ao55, co55, eo55⟩ := Kd.R_slice HO_4.out
              subst eo55
              have p409 : 0 ≤ (5 : Int) := (by omega)
              have q409 : 5 < (t398.length : Int) := od u9_24
              obtain ⟨ad409, e409, hx409_0⟩ := Kd.at_string (Kd.R_reads' HO_4.out).2.2 5 p409 q409
              cases e409
              (try simp only [show (5 : Int).toNat = 5 from rfl, Nat.reduceMul, Nat.reduceEqDiff, Go.Addr.add, ↓reduceIte] at hx409_0)
              have qi409 : (5 < t398.length) = True := eq_true (by omega)
              (try rw [show ((5 : Int)).toNat = 5 from rfl] at hx409_0)
              replace p409 := eq_true p409
              replace q409 := eq_true q409
              try go_wp2_with (first | ((with_reducible refine gate_callee (f := 53) rfl ?_); refine goesL_ (some 57) rfl rfl Tryd.func53 (by kernel_rfl) rfl #[.string (rdOf ByteArray.empty t398 5)] rfl u9_13 ?_; (with_reducible refine (impl_ParsePlace.calls kj37 (rdOf ByteArray.empty t398 5) t410 t411 t412 _ A45.out).mono ?_); rintro e w56 ⟨rfl, hb⟩; refine ⟨_, rfl, ?_⟩; have n0_ := am (Kd.R_below u9_9 hb); have n1_ := am (blk_below (g := gb397) (o := zo3 (⟨#[]⟩ : ByteArray) 0 (⟨#[]⟩ : ByteArray) 0 0 0 0 0) u9_5 hb); have n2_ := am (blk_below (g := gb401) (o := zo3 (⟨#[]⟩ : ByteArray) 0 (⟨#[]⟩ : ByteArray) 0 0 0 0 0) u9_6 hb); have n3_ := am (below_step u9_4 hb); clear HO_4 BK397 BK401 HB; have HO_4 := n0_; have BK397 := n1_; have BK401 := n2_; have HB := n3_; clear n0_ n1_ n2_ n3_; (try clear hb); (try clear hb2); (try clear hk); (try clear hi)) | ((with_reducible refine gate_dst (N := 8) rfl ?_); refine box_event ?hg (N := 8) ?hd (cs := #[.int .i64 0, .int .i64 0]) (t := 36) ?hr ?_; (case hd => rfl); (case hg => rfl); (case hr => exact gq); intro gb413 hg w57 hbox hb; have n0_ := am (Kd.R_below u9_9 hb); have n1_ := am (blk_below (g := gb397) (o := zo3 (⟨#[]⟩ : ByteArray) 0 (⟨#[]⟩ : ByteArray) 0 0 0 0 0) u9_5 hb); have n2_ := am (blk_below (g := gb401) (o := zo3 (⟨#[]⟩ : ByteArray) 0 (⟨#[]⟩ : ByteArray) 0 0 0 0 0) u9_6 hb); have n3_ := am (below_step u9_4 hb); have n4_ := am (hbox); have n5_ := bsw w hg (below_size u9_4); have n6_ := bsw w hg (below_size u9_4); have n7_ := am ((by rw [hg]; exact Nat.ne_of_lt (blk_lt (g := gb397) (o := zo3 (⟨#[]⟩ : ByteArray) 0 (⟨#[]⟩ : ByteArray) 0 0 0 0 0) u9_5) : gb397 ≠ gb413)); have n8_ := am ((by rw [hg]; exact Nat.ne_of_gt (blk_lt (g := gb397) (o := zo3 (⟨#[]⟩ : ByteArray) 0 (⟨#[]⟩ : ByteArray) 0 0 0 0 0) u9_5) : gb413 ≠ gb397)); have n9_ := am ((by rw [hg]; exact Nat.ne_of_lt (blk_lt (g := gb401) (o := zo3 (⟨#[]⟩ : ByteArray) 0 (⟨#[]⟩ : ByteArray) 0 0 0 0 0) u9_6) : gb401 ≠ gb413)); have n10_ := am ((by rw [hg]; exact Nat.ne_of_gt (blk_lt (g := gb401) (o := zo3 (⟨#[]⟩ : ByteArray) 0 (⟨#[]⟩ : ByteArray) 0 0 0 0 0) u9_6) : gb413 ≠ gb401)); clear HO_4 BK397 BK401 HB; have HO_4 := n0_; have BK397 := n1_; have BK401 := n2_; have HB := n3_; have BK413 := n4_; have GW413 := n5_; have GE413 := n6_; have NB397_413 := n7_; have NB413_397 := n8_; have NB401_413 := n9_; have NB413_401 := n10_; clear n0_ n1_ n2_ n3_ n4_ n5_ n6_ n7_ n8_ n9_ n10_ hb hbox hg; have hnb58 := NB413_397.out; have hnc58 := NB397_413.out; have hnb59 := NB413_401.out; have hnc59 := NB401_413.out; obtain ⟨hcz60_0, hcz60_1, hfz60_0, hfz60_1⟩ := cf2 BK413.out; have p414 : 0 ≤ (7 : Int) := (by omega); have q414 : 7 < (t398.length : Int) := od u9_24; obtain ⟨ad414, e414, hx414_0⟩ := Kd.at_string (Kd.R_reads' HO_4.out).2.2 7 p414 q414; obtain rfl : ad409 = ad414 := (by injection e414); (try simp only [show (7 : Int).toNat = 7 from rfl, Nat.reduceMul, Nat.reduceEqDiff, Go.Addr.add, ↓reduceIte] at hx414_0); have qi414 : (7 < t398.length) = True := eq_true (by omega); (try rw [show ((7 : Int)).toNat = 7 from rfl] at hx414_0); have hn414_0 : ad409.block ≠ gb413 := Kd.own_blk (Kd.R_ne HO_4.out BK413.out v9_0); have hn414_1 : ad409.block ≠ gb413 := Kd.own_blk (Kd.R_ne HO_4.out BK413.out v9_0); replace hx414_0 := (cell_far (p := ⟨gb413, 0, none⟩) u9_29 (.int .i64 t410)).trans hx414_0; replace hx414_0 := (cell_far (p := ⟨gb413, 1, none⟩) u9_28 (.int .i64 t411)).trans hx414_0; clear hn414_0 hn414_1; replace p414 := eq_true p414; replace q414 := eq_true q414) | ((with_reducible refine gate_callee (f := 37) rfl ?_); refine goesL_ (some 64) rfl rfl Tryd.func37 (by kernel_rfl) rfl #[.string (rdOf ByteArray.empty t398 7)] rfl u9_13 ?_; (with_reducible refine (impl_ParseNumber.calls kj37 (rdOf ByteArray.empty t398 7) t415 t416 _ A47.out).mono ?_); rintro e w' ⟨rfl, ⟨nd, rfl⟩⟩; refine ⟨_, rfl, ?_⟩; have p417 : 0 ≤ (9 : Int) := (by omega); have q417 : 9 < (t398.length : Int) := od u9_24; obtain ⟨ad417, e417, hx417_0⟩ := Kd.at_string (Kd.R_reads' HO_4.out).2.2 9 p417 q417; obtain rfl : ad409 = ad417 := (by injection e417); (try simp only [show (9 : Int).toNat = 9 from rfl, Nat.reduceMul, Nat.reduceEqDiff, Go.Addr.add, ↓reduceIte] at hx417_0); have qi417 : (9 < t398.length) = True := eq_true (by omega); (try rw [show ((9 : Int)).toNat = 9 from rfl] at hx417_0); have hn417_0 : ad409.block ≠ gb413 := Kd.own_blk (Kd.R_ne HO_4.out BK413.out v9_0); have hn417_1 : ad409.block ≠ gb413 := Kd.own_blk (Kd.R_ne HO_4.out BK413.out v9_0); replace hx417_0 := (cell_far (p := ⟨gb413, 0, none⟩) u9_27 (.int .i64 t410)).trans hx417_0; replace hx417_0 := (cell_far (p := ⟨gb413, 1, none⟩) u9_26 (.int .i64 t411)).trans hx417_0; clear hn417_0 hn417_1; replace p417 := eq_true p417; replace q417 := eq_true q417) | ((with_reducible refine gate_callee (f := 38) rfl ?_); refine goesL_ (some 71) rfl rfl Tryd.func38 (by kernel_rfl) rfl #[.string (rdOf ByteArray.empty t398 9)] rfl u9_13 ?_; (with_reducible refine (impl_ParseMeasure.calls kj37 (rdOf ByteArray.empty t398 9) t418 t419 _ A49.out).mono ?_); rintro e w61 ⟨rfl, hb⟩; refine ⟨_, rfl, ?_⟩; have n0_ := am (Kd.R_below u9_23 hb); have n1_ := am (blk_below (g := gb397) (o := zo3 (⟨#[]⟩ : ByteArray) 0 (⟨#[]⟩ : ByteArray) 0 0 0 0 0) u9_17 hb); have n2_ := am (blk_below (g := gb401) (o := zo3 (⟨#[]⟩ : ByteArray) 0 (⟨#[]⟩ : ByteArray) 0 0 0 0 0) u9_16 hb); have n3_ := am (blk_below (g := gb413) (o := zo1 t410 t411) u9_21 hb); have n4_ := am (below_step u9_12 hb); clear HO_4 BK397 BK401 BK413 HB; have HO_4 := n0_; have BK397 := n1_; have BK401 := n2_; have BK413 := n3_; have HB := n4_; clear n0_ n1_ n2_ n3_ n4_; (try clear hb); (try clear hb2); (try clear hk); (try clear hi); have p420 : 0 ≤ (11 : Int) := (by omega); have q420 : 11 < (t398.length : Int) := od u9_24; obtain ⟨ad420, e420, hx420_0⟩ := Kd.at_string (Kd.R_reads' HO_4.out).2.2 11 p420 q420; obtain rfl : ad409 = ad420 := (by injection e420); (try simp only [show (11 : Int).toNat = 11 from rfl, Nat.reduceMul, Nat.reduceEqDiff, Go.Addr.add, ↓reduceIte] at hx420_0); have qi420 : (11 < t398.length) = True := eq_true (by omega); (try rw [show ((11 : Int)).toNat = 11 from rfl] at hx420_0); replace p420 := eq_true p420; replace q420 := eq_true q420) | ((with_reducible refine gate_callee (f := 38) rfl ?_); refine goesL_ (some 78) rfl rfl Tryd.func38 (by kernel_rfl) rfl #[.string (rdOf ByteArray.empty t398 11)] rfl u9_13 ?_; (with_reducible refine (impl_ParseMeasure.calls kj37 (rdOf ByteArray.empty t398 11) t421 t422 _ A51.out).mono ?_); rintro e w62 ⟨rfl, hb⟩; refine ⟨_, rfl, ?_⟩; have n0_ := am (Kd.R_below u9_9 hb); have n1_ := am (blk_below (g := gb397) (o := zo3 (⟨#[]⟩ : ByteArray) 0 (⟨#[]⟩ : ByteArray) 0 0 0 0 0) u9_5 hb); have n2_ := am (blk_below (g := gb401) (o := zo3 (⟨#[]⟩ : ByteArray) 0 (⟨#[]⟩ : ByteArray) 0 0 0 0 0) u9_6 hb); have n3_ := am (blk_below (g := gb413) (o := zo1 t410 t411) u9_30 hb); have n4_ := am (below_step u9_12 hb); clear HO_4 BK397 BK401 BK413 HB; have HO_4 := n0_; have BK397 := n1_; have BK401 := n2_; have BK413 := n3_; have HB := n4_; clear n0_ n1_ n2_ n3_ n4_; (try clear hb); (try clear hb2); (try clear hk); (try clear hi)))
              have n0_ := am (Kd.R_drew HO_4.out)
              have n1_ := am (blk_drew BK397.out)
              have n2_ := am (blk_drew BK401.out)
              have n3_ := am (blk_drew BK413.out)
              have n4_ := am (below_drew1 HB.out)
              clear HO_4 BK397 BK401 BK413 HB
              have HO_4 := n0_
              have BK397 := n1_
              have BK401 := n2_
              have BK413 := n3_
              have HB := n4_
              clear n0_ n1_ n2_ n3_ n4_
              have p423 : 0 ≤ (1 : Int) := (by omega)
              have q423 : 1 < (t398.length : Int) := od u9_24
              obtain ⟨ad423, e423, hx423_0⟩ := Kd.at_string (Kd.R_reads' HO_4.out).2.2 1 p423 q423
              obtain rfl : ad409 = ad423 := (by injection e423)
              (try simp only [show (1 : Int).toNat = 1 from rfl, Nat.reduceMul, Nat.reduceEqDiff, Go.Addr.add, ↓reduceIte] at hx423_0)
              have qi423 : (1 < t398.length) = True := eq_true (by omega)
              (try rw [show ((1 : Int)).toNat = 1 from rfl] at hx423_0)
              replace p423 := eq_true p423
              replace q423 := eq_true q423
              have p424 : 0 ≤ (3 : Int) := (by omega)
              have q424 : 3 < (t398.length : Int) := od u9_24
              obtain ⟨ad424, e424, hx424_0⟩ := Kd.at_string (Kd.R_reads' HO_4.out).2.2 3 p424 q424
              obtain rfl : ad409 = ad424 := (by injection e424)
              (try simp only [show (3 : Int).toNat = 3 from rfl, Nat.reduceMul, Nat.reduceEqDiff, Go.Addr.add, ↓reduceIte] at hx424_0)
              have qi424 : (3 < t398.length) = True := eq_true (by omega)
              (try rw [show ((3 : Int)).toNat = 3 from rfl] at hx424_0)
              replace p424 := eq_true p424
              replace q424 := eq_true q424
              refine start_ (n := 12) (S := fun w' => zc9 w' gb413 t410 t411 (w'.cell? ⟨ad409.block, ad409.off + 1, none⟩ = some (.string (rdOf ByteArray.empty t398 1)) ∧ w'.cell? ⟨ad409.block, ad409.off + 3, none⟩ = some (.string (rdOf ByteArray.empty t398 3)))) (ds := []) mk9_0 (by kernel_rfl) rfl rfl ⟨(blk_cell BK413.out 0).trans rfl, (blk_cell BK413.out 1).trans rfl, hx423_0, hx424_0⟩ (fun hHeld => ?_); refine with_tabW impl_ParseDevice.tab11 impl_ParseDevice.bits11 (fun HT_ HW_ => ?_)
              generalize w62.drew = w63 at HO_4 BK397 BK401 BK413 HB hx423_0 hx424_0 hHeld ⊢
              refine pz 0 81 mk9_2 (any_of HT_.out (by kernel_rfl)) ?_
              refine pz 1 82 mk9_4 (any_of HT_.out (by kernel_rfl)) ?_
              refine pz 3 84 mk9_6 (any_of HT_.out (by kernel_rfl)) ?_
              refine pz 4 85 mk9_8 (any_of HT_.out (by kernel_rfl)) ?_
              refine pz 7 88 mk9_10 (any_of HT_.out (by kernel_rfl)) ?_
              refine pz 8 89 mk9_11 (any_of HT_.out (by kernel_rfl)) ?_
              refine pz 9 90 mk9_12 (any_of HT_.out (by kernel_rfl)) ?_
              refine take_ (i := 2) (N := some 83) (v := ?_) (a' := ?_) mk9_14 rfl rfl (take_ofW HT_.out HW_.out (by kernel_rfl)) (fun _ _ _ h => h) (Or.inl ⟨by rfl, ?_⟩) hHeld ?_ ?_
              rotate_left
              ·rintro w' ⟨s0, s1, s2, s3⟩
               exact gs
              rotate_left
              ·exact ap
              refine take_ (i := 5) (N := some 86) (v := ?_) (a' := ?_) mk9_16 rfl rfl (take_ofW HT_.out HW_.out (by kernel_rfl)) (fun _ _ _ h => h) (Or.inl ⟨by rfl, ?_⟩) hHeld ?_ ?_
              rotate_left
              ·rintro w' ⟨s0, s1, s2, s3⟩
               exact gs
              rotate_left
              ·exact ap
              refine take_ (i := 6) (N := some 87) (v := ?_) (a' := ?_) mk9_19 rfl rfl (take_ofW HT_.out HW_.out (by kernel_rfl)) (fun _ _ _ h => h) (Or.inl ⟨by rfl, ?_⟩) hHeld ?_ ?_
              rotate_left
              ·rintro w' ⟨s0, s1, s2, s3⟩
               exact gs
              rotate_left
              ·exact ap
              refine pz 10 91 mk9_20 (any_of HT_.out (by kernel_rfl)) ?_
              refine one_ (i := 11) (N := none) mk9_21 rfl rfl (one_of HT_.out (by kernel_rfl)) v9_0 (fun K hK => ?_)
              have hs64 : w63.cell? ⟨gb401, 0, none⟩ = some (.string (⟨#[]⟩ : ByteArray)) := (blk_cell BK401.out 0).trans rfl
              have hfs64 := blk_frozen BK401.out 0
              have hns64_0 := NB397_401.out
              have hns64_2 := NB413_401.out
              have hms64_0 := NB401_397.out
              have hms64_2 := NB401_413.out
              have hs65 : w63.cell? ⟨gb401, 1, none⟩ = some (.int .i64 0) := (blk_cell BK401.out 1).trans rfl
              have hfs65 := blk_frozen BK401.out 1
              have hns65_0 := NB397_401.out
              have hns65_2 := NB413_401.out
              have hms65_0 := NB401_397.out
              have hms65_2 := NB401_413.out
              have hs66 : w63.cell? ⟨gb401, 2, none⟩ = some (.string (⟨#[]⟩ : ByteArray)) := (blk_cell BK401.out 2).trans rfl
              have hfs66 := blk_frozen BK401.out 2
              have hns66_0 := NB397_401.out
              have hns66_2 := NB413_401.out
              have hms66_0 := NB401_397.out
              have hms66_2 := NB401_413.out
              have hs67 : w63.cell? ⟨gb401, 3, none⟩ = some (.int .i64 0) := (blk_cell BK401.out 3).trans rfl
              have hfs67 := blk_frozen BK401.out 3
              have hns67_0 := NB397_401.out
              have hns67_2 := NB413_401.out
              have hms67_0 := NB401_397.out
              have hms67_2 := NB401_413.out
              have hs68 : w63.cell? ⟨gb401, 4, none⟩ = some (.int .i64 0) := (blk_cell BK401.out 4).trans rfl
              have hfs68 := blk_frozen BK401.out 4
              have hns68_0 := NB397_401.out
              have hns68_2 := NB413_401.out
              have hms68_0 := NB401_397.out
              have hms68_2 := NB401_413.out
              have hs69 : w63.cell? ⟨gb401, 5, none⟩ = some (.int .i64 0) := (blk_cell BK401.out 5).trans rfl
              have hfs69 := blk_frozen BK401.out 5
              have hns69_0 := NB397_401.out
              have hns69_2 := NB413_401.out
              have hms69_0 := NB401_397.out
              have hms69_2 := NB401_413.out
              have hs70 : w63.cell? ⟨gb401, 6, none⟩ = some (.int .i64 0) := (blk_cell BK401.out 6).trans rfl
              have hfs70 := blk_frozen BK401.out 6
              have hns70_0 := NB397_401.out
              have hns70_2 := NB413_401.out
              have hms70_0 := NB401_397.out
              have hms70_2 := NB401_413.out
              have hs71 : w63.cell? ⟨gb401, 7, none⟩ = some (.int .i64 0) := (blk_cell BK401.out 7).trans rfl
              have hfs71 := blk_frozen BK401.out 7
              have hns71_0 := NB397_401.out
              have hns71_2 := NB413_401.out
              have hms71_0 := NB401_397.out
              have hms71_2 := NB401_413.out
              refine skip_ (w1 := ?_) (by rfl) rfl ?_ ?_
              rotate_left
              ·go_simp
               rfl
              have hne_ : ad409.block ≠ gb401 := Kd.own_blk (Kd.R_ne HO_4.out BK401.out v9_0)
              refine hK.out _ _ ⟨(far8 NB413_401.out hHeld.1), (far8 NB413_401.out hHeld.2.1), (far8 hne_ hHeld.2.2.1), (far8 hne_ hHeld.2.2.2)⟩ (fun hHeld => ?_)
              clear hK K
              refine done_ (done_of HT_.out (by kernel_rfl)) ?_
              have hnb72 := NB397_401.out
              have hnc72 := NB401_397.out
              obtain ⟨hcz73_0, hcz73_1, hcz73_2, hcz73_3, hcz73_4, hcz73_5, hcz73_6, hcz73_7, hfz73_0, hfz73_1, hfz73_2, hfz73_3, hfz73_4, hfz73_5, hfz73_6, hfz73_7⟩ := cf8 BK397.out
              try go_wp2
              refine bodyPost_ret (results_ct rfl _ _ gb397 38 #[.string (⟨#[]⟩ : ByteArray), .int .i64 0, .string (⟨#[]⟩ : ByteArray), .int .i64 0, .int .i64 0, .int .i64 0, .int .i64 0, .int .i64 0] (0, 0) _ rfl u9_2 Tryd.underlying38 rfl (by kernel_rfl)) rfl ?_
              exact ⟨by first | rfl | (simp [*] <;> rfl), s9_0⟩
             ·rw [if_neg c54] at H
              have c54b0 : (a0.toList == ([] : List UInt8)) = false := beq_eq_false_iff_ne.mpr c54
              have c54b1 : (a0.toList != ([] : List UInt8)) = true := bne_iff_ne.mpr c54
              replace H := ob H
              obtain ⟨t425, A740, H⟩ := H
              replace H : (if t425.toList = a0.toList then (some (rdOf ByteArray.empty t398 1, 2, rdOf ByteArray.empty t398 3, t410, t411, t415, t418, t421, true)) else (some ((⟨#[]⟩ : ByteArray), 0, (⟨#[]⟩ : ByteArray), 0, 0, 0, 0, 0, false))) = some (r1, r2, r3, r4, r5, r6, r7, r8, r9) := H
              have A74 := am A740
              clear A740
              by_cases c75 : t425.toList = a0.toList
              ·rw [if_pos c75] at H
               have c75b0 : (t425.toList == a0.toList) = true := beq_iff_eq.mpr c75
               have c75b1 : (t425.toList != a0.toList) = false := bne_eq_false_iff_eq.mpr c75
               clear c75
               simp only [Option.some.injEq, Prod.mk.injEq] at H
               obtain ⟨rfl, rfl, rfl, rfl, rfl, rfl, rfl, rfl, rfl⟩ := H
               obtain ⟨Ao76, co76, eo76⟩ := Kd.R_slice HO_4.out
               subst eo76
               have p409 : 0 ≤ (5 : Int) := (by omega)
               have q409 : 5 < (t398.length : Int) := od u9_24
               obtain ⟨ad409, e409, hx409_0⟩ := Kd.at_string (Kd.R_reads' HO_4.out).2.2 5 p409 q409
               cases e409
               (try simp only [show (5 : Int).toNat = 5 from rfl, Nat.reduceMul, Nat.reduceEqDiff, Go.Addr.add, ↓reduceIte] at hx409_0)
               have qi409 : (5 < t398.length) = True := eq_true (by omega)
               (try rw [show ((5 : Int)).toNat = 5 from rfl] at hx409_0)
               replace p409 := eq_true p409
               replace q409 := eq_true q409
               try go_wp2_with (first | ((with_reducible refine gate_callee (f := 53) rfl ?_); refine goesL_ (some 57) rfl rfl Tryd.func53 (by kernel_rfl) rfl #[.string (rdOf ByteArray.empty t398 5)] rfl u9_13 ?_; (with_reducible refine (impl_ParsePlace.calls kj37 (rdOf ByteArray.empty t398 5) t410 t411 t412 _ A45.out).mono ?_); rintro e w77 ⟨rfl, hb⟩; refine ⟨_, rfl, ?_⟩; have n0_ := am (Kd.R_below u9_9 hb); have n1_ := am (blk_below (g := gb397) (o := zo3 (⟨#[]⟩ : ByteArray) 0 (⟨#[]⟩ : ByteArray) 0 0 0 0 0) u9_5 hb); have n2_ := am (blk_below (g := gb401) (o := zo3 (⟨#[]⟩ : ByteArray) 0 (⟨#[]⟩ : ByteArray) 0 0 0 0 0) u9_6 hb); have n3_ := am (below_step u9_4 hb); clear HO_4 BK397 BK401 HB; have HO_4 := n0_; have BK397 := n1_; have BK401 := n2_; have HB := n3_; clear n0_ n1_ n2_ n3_; (try clear hb); (try clear hb2); (try clear hk); (try clear hi)) | ((with_reducible refine gate_dst (N := 8) rfl ?_); refine box_event ?hg (N := 8) ?hd (cs := #[.int .i64 0, .int .i64 0]) (t := 36) ?hr ?_; (case hd => rfl); (case hg => rfl); (case hr => exact gq); intro gb413 hg w78 hbox hb; have n0_ := am (Kd.R_below u9_9 hb); have n1_ := am (blk_below (g := gb397) (o := zo3 (⟨#[]⟩ : ByteArray) 0 (⟨#[]⟩ : ByteArray) 0 0 0 0 0) u9_5 hb); have n2_ := am (blk_below (g := gb401) (o := zo3 (⟨#[]⟩ : ByteArray) 0 (⟨#[]⟩ : ByteArray) 0 0 0 0 0) u9_6 hb); have n3_ := am (below_step u9_4 hb); have n4_ := am (hbox); have n5_ := bsw w hg (below_size u9_4); have n6_ := bsw w hg (below_size u9_4); have n7_ := am ((by rw [hg]; exact Nat.ne_of_lt (blk_lt (g := gb397) (o := zo3 (⟨#[]⟩ : ByteArray) 0 (⟨#[]⟩ : ByteArray) 0 0 0 0 0) u9_5) : gb397 ≠ gb413)); have n8_ := am ((by rw [hg]; exact Nat.ne_of_gt (blk_lt (g := gb397) (o := zo3 (⟨#[]⟩ : ByteArray) 0 (⟨#[]⟩ : ByteArray) 0 0 0 0 0) u9_5) : gb413 ≠ gb397)); have n9_ := am ((by rw [hg]; exact Nat.ne_of_lt (blk_lt (g := gb401) (o := zo3 (⟨#[]⟩ : ByteArray) 0 (⟨#[]⟩ : ByteArray) 0 0 0 0 0) u9_6) : gb401 ≠ gb413)); have n10_ := am ((by rw [hg]; exact Nat.ne_of_gt (blk_lt (g := gb401) (o := zo3 (⟨#[]⟩ : ByteArray) 0 (⟨#[]⟩ : ByteArray) 0 0 0 0 0) u9_6) : gb413 ≠ gb401)); clear HO_4 BK397 BK401 HB; have HO_4 := n0_; have BK397 := n1_; have BK401 := n2_; have HB := n3_; have BK413 := n4_; have GW413 := n5_; have GE413 := n6_; have NB397_413 := n7_; have NB413_397 := n8_; have NB401_413 := n9_; have NB413_401 := n10_; clear n0_ n1_ n2_ n3_ n4_ n5_ n6_ n7_ n8_ n9_ n10_ hb hbox hg; have hnb79 := NB413_397.out; have hnc79 := NB397_413.out; have hnb80 := NB413_401.out; have hnc80 := NB401_413.out; obtain ⟨hcz81_0, hcz81_1, hfz81_0, hfz81_1⟩ := cf2 BK413.out; have p414 : 0 ≤ (7 : Int) := (by omega); have q414 : 7 < (t398.length : Int) := od u9_24; obtain ⟨ad414, e414, hx414_0⟩ := Kd.at_string (Kd.R_reads' HO_4.out).2.2 7 p414 q414; obtain rfl : ad409 = ad414 := (by injection e414); (try simp only [show (7 : Int).toNat = 7 from rfl, Nat.reduceMul, Nat.reduceEqDiff, Go.Addr.add, ↓reduceIte] at hx414_0); have qi414 : (7 < t398.length) = True := eq_true (by omega); (try rw [show ((7 : Int)).toNat = 7 from rfl] at hx414_0); have hn414_0 : ad409.block ≠ gb413 := Kd.own_blk (Kd.R_ne HO_4.out BK413.out v9_0); have hn414_1 : ad409.block ≠ gb413 := Kd.own_blk (Kd.R_ne HO_4.out BK413.out v9_0); replace hx414_0 := (cell_far (p := ⟨gb413, 0, none⟩) u9_29 (.int .i64 t410)).trans hx414_0; replace hx414_0 := (cell_far (p := ⟨gb413, 1, none⟩) u9_28 (.int .i64 t411)).trans hx414_0; clear hn414_0 hn414_1; replace p414 := eq_true p414; replace q414 := eq_true q414) | ((with_reducible refine gate_callee (f := 37) rfl ?_); refine goesL_ (some 64) rfl rfl Tryd.func37 (by kernel_rfl) rfl #[.string (rdOf ByteArray.empty t398 7)] rfl u9_13 ?_; (with_reducible refine (impl_ParseNumber.calls kj37 (rdOf ByteArray.empty t398 7) t415 t416 _ A47.out).mono ?_); rintro e w' ⟨rfl, ⟨nd, rfl⟩⟩; refine ⟨_, rfl, ?_⟩; have p417 : 0 ≤ (9 : Int) := (by omega); have q417 : 9 < (t398.length : Int) := od u9_24; obtain ⟨ad417, e417, hx417_0⟩ := Kd.at_string (Kd.R_reads' HO_4.out).2.2 9 p417 q417; obtain rfl : ad409 = ad417 := (by injection e417); (try simp only [show (9 : Int).toNat = 9 from rfl, Nat.reduceMul, Nat.reduceEqDiff, Go.Addr.add, ↓reduceIte] at hx417_0); have qi417 : (9 < t398.length) = True := eq_true (by omega); (try rw [show ((9 : Int)).toNat = 9 from rfl] at hx417_0); have hn417_0 : ad409.block ≠ gb413 := Kd.own_blk (Kd.R_ne HO_4.out BK413.out v9_0); have hn417_1 : ad409.block ≠ gb413 := Kd.own_blk (Kd.R_ne HO_4.out BK413.out v9_0); replace hx417_0 := (cell_far (p := ⟨gb413, 0, none⟩) u9_27 (.int .i64 t410)).trans hx417_0; replace hx417_0 := (cell_far (p := ⟨gb413, 1, none⟩) u9_26 (.int .i64 t411)).trans hx417_0; clear hn417_0 hn417_1; replace p417 := eq_true p417; replace q417 := eq_true q417) | ((with_reducible refine gate_callee (f := 38) rfl ?_); refine goesL_ (some 71) rfl rfl Tryd.func38 (by kernel_rfl) rfl #[.string (rdOf ByteArray.empty t398 9)] rfl u9_13 ?_; (with_reducible refine (impl_ParseMeasure.calls kj37 (rdOf ByteArray.empty t398 9) t418 t419 _ A49.out).mono ?_); rintro e w82 ⟨rfl, hb⟩; refine ⟨_, rfl, ?_⟩; have n0_ := am (Kd.R_below u9_23 hb); have n1_ := am (blk_below (g := gb397) (o := zo3 (⟨#[]⟩ : ByteArray) 0 (⟨#[]⟩ : ByteArray) 0 0 0 0 0) u9_17 hb); have n2_ := am (blk_below (g := gb401) (o := zo3 (⟨#[]⟩ : ByteArray) 0 (⟨#[]⟩ : ByteArray) 0 0 0 0 0) u9_16 hb); have n3_ := am (blk_below (g := gb413) (o := zo1 t410 t411) u9_21 hb); have n4_ := am (below_step u9_12 hb); clear HO_4 BK397 BK401 BK413 HB; have HO_4 := n0_; have BK397 := n1_; have BK401 := n2_; have BK413 := n3_; have HB := n4_; clear n0_ n1_ n2_ n3_ n4_; (try clear hb); (try clear hb2); (try clear hk); (try clear hi); have p420 : 0 ≤ (11 : Int) := (by omega); have q420 : 11 < (t398.length : Int) := od u9_24; obtain ⟨ad420, e420, hx420_0⟩ := Kd.at_string (Kd.R_reads' HO_4.out).2.2 11 p420 q420; obtain rfl : ad409 = ad420 := (by injection e420); (try simp only [show (11 : Int).toNat = 11 from rfl, Nat.reduceMul, Nat.reduceEqDiff, Go.Addr.add, ↓reduceIte] at hx420_0); have qi420 : (11 < t398.length) = True := eq_true (by omega); (try rw [show ((11 : Int)).toNat = 11 from rfl] at hx420_0); replace p420 := eq_true p420; replace q420 := eq_true q420) | ((with_reducible refine gate_callee (f := 38) rfl ?_); refine goesL_ (some 78) rfl rfl Tryd.func38 (by kernel_rfl) rfl #[.string (rdOf ByteArray.empty t398 11)] rfl u9_13 ?_; (with_reducible refine (impl_ParseMeasure.calls kj37 (rdOf ByteArray.empty t398 11) t421 t422 _ A51.out).mono ?_); rintro e w83 ⟨rfl, hb⟩; refine ⟨_, rfl, ?_⟩; have n0_ := am (Kd.R_below u9_9 hb); have n1_ := am (blk_below (g := gb397) (o := zo3 (⟨#[]⟩ : ByteArray) 0 (⟨#[]⟩ : ByteArray) 0 0 0 0 0) u9_5 hb); have n2_ := am (blk_below (g := gb401) (o := zo3 (⟨#[]⟩ : ByteArray) 0 (⟨#[]⟩ : ByteArray) 0 0 0 0 0) u9_6 hb); have n3_ := am (blk_below (g := gb413) (o := zo1 t410 t411) u9_30 hb); have n4_ := am (below_step u9_12 hb); clear HO_4 BK397 BK401 BK413 HB; have HO_4 := n0_; have BK397 := n1_; have BK401 := n2_; have BK413 := n3_; have HB := n4_; clear n0_ n1_ n2_ n3_ n4_; (try clear hb); (try clear hb2); (try clear hk); (try clear hi)))
               have n0_ := am (Kd.R_drew HO_4.out)
               have n1_ := am (blk_drew BK397.out)
               have n2_ := am (blk_drew BK401.out)
               have n3_ := am (blk_drew BK413.out)
               have n4_ := am (below_drew1 HB.out)
               clear HO_4 BK397 BK401 BK413 HB
               have HO_4 := n0_
               have BK397 := n1_
               have BK401 := n2_
               have BK413 := n3_
               have HB := n4_
               clear n0_ n1_ n2_ n3_ n4_
               have p423 : 0 ≤ (1 : Int) := (by omega)
               have q423 : 1 < (t398.length : Int) := od u9_24
               obtain ⟨ad423, e423, hx423_0⟩ := Kd.at_string (Kd.R_reads' HO_4.out).2.2 1 p423 q423
               obtain rfl : ad409 = ad423 := (by injection e423)
               (try simp only [show (1 : Int).toNat = 1 from rfl, Nat.reduceMul, Nat.reduceEqDiff, Go.Addr.add, ↓reduceIte] at hx423_0)
               have qi423 : (1 < t398.length) = True := eq_true (by omega)
               (try rw [show ((1 : Int)).toNat = 1 from rfl] at hx423_0)
               replace p423 := eq_true p423
               replace q423 := eq_true q423
               have p424 : 0 ≤ (3 : Int) := (by omega)
               have q424 : 3 < (t398.length : Int) := od u9_24
               obtain ⟨ad424, e424, hx424_0⟩ := Kd.at_string (Kd.R_reads' HO_4.out).2.2 3 p424 q424
               obtain rfl : ad409 = ad424 := (by injection e424)
               (try simp only [show (3 : Int).toNat = 3 from rfl, Nat.reduceMul, Nat.reduceEqDiff, Go.Addr.add, ↓reduceIte] at hx424_0)
               have qi424 : (3 < t398.length) = True := eq_true (by omega)
               (try rw [show ((3 : Int)).toNat = 3 from rfl] at hx424_0)
               replace p424 := eq_true p424
               replace q424 := eq_true q424
               refine start_ (n := 12) (S := fun w' => zc9 w' gb413 t410 t411 (w'.cell? ⟨ad409.block, ad409.off + 1, none⟩ = some (.string (rdOf ByteArray.empty t398 1)) ∧ w'.cell? ⟨ad409.block, ad409.off + 3, none⟩ = some (.string (rdOf ByteArray.empty t398 3)))) (ds := []) mk9_0 (by kernel_rfl) rfl rfl ⟨(blk_cell BK413.out 0).trans rfl, (blk_cell BK413.out 1).trans rfl, hx423_0, hx424_0⟩ (fun hHeld => ?_); refine with_tabW impl_ParseDevice.tab11 impl_ParseDevice.bits11 (fun HT_ HW_ => ?_)
               generalize w83.drew = w84 at HO_4 BK397 BK401 BK413 HB hx423_0 hx424_0 hHeld ⊢
               refine pz 0 81 mk9_2 (any_of HT_.out (by kernel_rfl)) ?_
               refine pz 1 82 mk9_4 (any_of HT_.out (by kernel_rfl)) ?_
               refine pz 3 84 mk9_6 (any_of HT_.out (by kernel_rfl)) ?_
               refine pz 4 85 mk9_8 (any_of HT_.out (by kernel_rfl)) ?_
               refine pz 7 88 mk9_10 (any_of HT_.out (by kernel_rfl)) ?_
               refine pz 8 89 mk9_11 (any_of HT_.out (by kernel_rfl)) ?_
               refine pz 9 90 mk9_12 (any_of HT_.out (by kernel_rfl)) ?_
               refine take_ (i := 2) (N := some 83) (v := ?_) (a' := ?_) mk9_14 rfl rfl (take_ofW HT_.out HW_.out (by kernel_rfl)) (fun _ _ _ h => h) (Or.inl ⟨by rfl, ?_⟩) hHeld ?_ ?_
               rotate_left
               ·rintro w' ⟨s0, s1, s2, s3⟩
                exact gs
               rotate_left
               ·exact ap
               refine take_ (i := 5) (N := some 86) (v := ?_) (a' := ?_) mk9_16 rfl rfl (take_ofW HT_.out HW_.out (by kernel_rfl)) (fun _ _ _ h => h) (Or.inl ⟨by rfl, ?_⟩) hHeld ?_ ?_
               rotate_left
               ·rintro w' ⟨s0, s1, s2, s3⟩
                exact gs
               rotate_left
               ·exact ap
               refine take_ (i := 6) (N := some 87) (v := ?_) (a' := ?_) mk9_19 rfl rfl (take_ofW HT_.out HW_.out (by kernel_rfl)) (fun _ _ _ h => h) (Or.inl ⟨by rfl, ?_⟩) hHeld ?_ ?_
               rotate_left
               ·rintro w' ⟨s0, s1, s2, s3⟩
                exact gs
               rotate_left
               ·exact ap
               refine pz 10 91 mk9_20 (any_of HT_.out (by kernel_rfl)) ?_
               refine one_ (i := 11) (N := none) mk9_21 rfl rfl (one_of HT_.out (by kernel_rfl)) v9_0 (fun K hK => ?_)
               have hs85 : w84.cell? ⟨gb401, 0, none⟩ = some (.string (⟨#[]⟩ : ByteArray)) := (blk_cell BK401.out 0).trans rfl
               have hfs85 := blk_frozen BK401.out 0
               have hns85_0 := NB397_401.out
               have hns85_2 := NB413_401.out
               have hms85_0 := NB401_397.out
               have hms85_2 := NB401_413.out
               have hs86 : w84.cell? ⟨gb401, 1, none⟩ = some (.int .i64 0) := (blk_cell BK401.out 1).trans rfl
               have hfs86 := blk_frozen BK401.out 1
               have hns86_0 := NB397_401.out
               have hns86_2 := NB413_401.out
               have hms86_0 := NB401_397.out
               have hms86_2 := NB401_413.out
               have hs87 : w84.cell? ⟨gb401, 2, none⟩ = some (.string (⟨#[]⟩ : ByteArray)) := (blk_cell BK401.out 2).trans rfl
               have hfs87 := blk_frozen BK401.out 2
               have hns87_0 := NB397_401.out
               have hns87_2 := NB413_401.out
               have hms87_0 := NB401_397.out
               have hms87_2 := NB401_413.out
               have hs88 : w84.cell? ⟨gb401, 3, none⟩ = some (.int .i64 0) := (blk_cell BK401.out 3).trans rfl
               have hfs88 := blk_frozen BK401.out 3
               have hns88_0 := NB397_401.out
               have hns88_2 := NB413_401.out
               have hms88_0 := NB401_397.out
               have hms88_2 := NB401_413.out
               have hs89 : w84.cell? ⟨gb401, 4, none⟩ = some (.int .i64 0) := (blk_cell BK401.out 4).trans rfl
               have hfs89 := blk_frozen BK401.out 4
               have hns89_0 := NB397_401.out
               have hns89_2 := NB413_401.out
               have hms89_0 := NB401_397.out
               have hms89_2 := NB401_413.out
               have hs90 : w84.cell? ⟨gb401, 5, none⟩ = some (.int .i64 0) := (blk_cell BK401.out 5).trans rfl
               have hfs90 := blk_frozen BK401.out 5
               have hns90_0 := NB397_401.out
               have hns90_2 := NB413_401.out
               have hms90_0 := NB401_397.out
               have hms90_2 := NB401_413.out
               have hs91 : w84.cell? ⟨gb401, 6, none⟩ = some (.int .i64 0) := (blk_cell BK401.out 6).trans rfl
               have hfs91 := blk_frozen BK401.out 6
               have hns91_0 := NB397_401.out
               have hns91_2 := NB413_401.out
               have hms91_0 := NB401_397.out
               have hms91_2 := NB401_413.out
               have hs92 : w84.cell? ⟨gb401, 7, none⟩ = some (.int .i64 0) := (blk_cell BK401.out 7).trans rfl
               have hfs92 := blk_frozen BK401.out 7
               have hns92_0 := NB397_401.out
               have hns92_2 := NB413_401.out
               have hms92_0 := NB401_397.out
               have hms92_2 := NB401_413.out
               refine skip_ (w1 := ?_) (by rfl) rfl ?_ ?_
               rotate_left
               ·go_simp
                rfl
               have hne_ : ad409.block ≠ gb401 := Kd.own_blk (Kd.R_ne HO_4.out BK401.out v9_0)
               refine hK.out _ _ ⟨(far8 NB413_401.out hHeld.1), (far8 NB413_401.out hHeld.2.1), (far8 hne_ hHeld.2.2.1), (far8 hne_ hHeld.2.2.2)⟩ (fun hHeld => ?_)
               clear hK K
               refine done_ (done_of HT_.out (by kernel_rfl)) ?_
               have hnb93 := NB401_397.out
               have hnc93 := NB397_401.out
               obtain ⟨hcz94_0, hcz94_1, hcz94_2, hcz94_3, hcz94_4, hcz94_5, hcz94_6, hcz94_7, hfz94_0, hfz94_1, hfz94_2, hfz94_3, hfz94_4, hfz94_5, hfz94_6, hfz94_7⟩ := cf8 BK401.out
               try go_wp2_with (first | (go_at_call 20; (with_reducible refine (impl_FormatDevice.calls kj37 (rdOf ByteArray.empty t398 1) 2 (rdOf ByteArray.empty t398 3) t410 t411 t415 t418 t421 t425 _ A74.out).mono ?_); rintro e w95 ⟨rfl, hb⟩; have n0_ := am (Kd.R_below u9_18 hb); have n1_ := am (blk_below (g := gb397) (o := zo3 (⟨#[]⟩ : ByteArray) 0 (⟨#[]⟩ : ByteArray) 0 0 0 0 0) u9_3 hb); have n2_ := am (blk_below (g := gb401) (o := zo3 (rdOf ByteArray.empty t398 1) 2 (rdOf ByteArray.empty t398 3) t410 t411 t415 t418 t421) u9_10 hb); have n3_ := am (blk_below (g := gb413) (o := zo1 t410 t411) u9_15 hb); have n4_ := am (below_step u9_12 hb); clear HO_4 BK397 BK401 BK413 HB; have HO_4 := n0_; have BK397 := n1_; have BK401 := n2_; have BK413 := n3_; have HB := n4_; clear n0_ n1_ n2_ n3_ n4_; (try clear hb); (try clear hb2); (try clear hk); (try clear hi); obtain ⟨hcz96_0, hcz96_1, hcz96_2, hcz96_3, hcz96_4, hcz96_5, hcz96_6, hcz96_7, hfz96_0, hfz96_1, hfz96_2, hfz96_3, hfz96_4, hfz96_5, hfz96_6, hfz96_7⟩ := cf8 BK401.out; obtain ⟨hcz97_0, hcz97_1, hcz97_2, hcz97_3, hcz97_4, hcz97_5, hcz97_6, hcz97_7, hfz97_0, hfz97_1, hfz97_2, hfz97_3, hfz97_4, hfz97_5, hfz97_6, hfz97_7⟩ := cf8 BK397.out))
               refine bodyPost_ret (results_ct rfl _ _ gb397 38 #[.string (rdOf ByteArray.empty t398 1), .int .i64 2, .string (rdOf ByteArray.empty t398 3), .int .i64 t410, .int .i64 t411, .int .i64 t415, .int .i64 t418, .int .i64 t421] (0, 0) _ rfl (by (with_reducible repeat (first | refine bN ?_ _ | refine bD ?_ | refine bA ?_ _)); refine blk_put (cs := zr6 (rdOf ByteArray.empty t398 1) 2 (rdOf ByteArray.empty t398 3) t410 t411 t415 t418 0) ?_ 7 _ rfl; refine blk_put (cs := zr6 (rdOf ByteArray.empty t398 1) 2 (rdOf ByteArray.empty t398 3) t410 t411 t415 0 0) ?_ 6 _ rfl; refine blk_put (cs := zr6 (rdOf ByteArray.empty t398 1) 2 (rdOf ByteArray.empty t398 3) t410 t411 0 0 0) ?_ 5 _ rfl; refine blk_put (cs := zr6 (rdOf ByteArray.empty t398 1) 2 (rdOf ByteArray.empty t398 3) t410 0 0 0 0) ?_ 4 _ rfl; refine blk_put (cs := zr6 (rdOf ByteArray.empty t398 1) 2 (rdOf ByteArray.empty t398 3) 0 0 0 0 0) ?_ 3 _ rfl; refine blk_put (cs := zr6 (rdOf ByteArray.empty t398 1) 2 (⟨#[]⟩ : ByteArray) 0 0 0 0 0) ?_ 2 _ rfl; (with_reducible repeat (first | refine bN ?_ _ | refine bD ?_ | refine bA ?_ _)); refine blk_put (cs := zr6 (rdOf ByteArray.empty t398 1) 0 (⟨#[]⟩ : ByteArray) 0 0 0 0 0) ?_ 1 _ rfl; (with_reducible repeat (first | refine bN ?_ _ | refine bD ?_ | refine bA ?_ _)); refine blk_put (cs := zr6 (⟨#[]⟩ : ByteArray) 0 (⟨#[]⟩ : ByteArray) 0 0 0 0 0) ?_ 0 _ rfl; exact bd BK397.out) Tryd.underlying38 rfl (by kernel_rfl)) rfl ?_
               exact ⟨by first | rfl | (simp [*] <;> rfl), s9_0⟩
              ·rw [if_neg c75] at H
               have c75b0 : (t425.toList == a0.toList) = false := beq_eq_false_iff_ne.mpr c75
               have c75b1 : (t425.toList != a0.toList) = true := bne_iff_ne.mpr c75
               simp only [Option.some.injEq, Prod.mk.injEq] at H
               obtain ⟨rfl, rfl, rfl, rfl, rfl, rfl, rfl, rfl, rfl⟩ := H
               obtain ⟨Ao98, co98, eo98⟩ := Kd.R_slice HO_4.out
               subst eo98
               have p409 : 0 ≤ (5 : Int) := (by omega)
               have q409 : 5 < (t398.length : Int) := od u9_24
               obtain ⟨ad409, e409, hx409_0⟩ := Kd.at_string (Kd.R_reads' HO_4.out).2.2 5 p409 q409
               cases e409
               (try simp only [show (5 : Int).toNat = 5 from rfl, Nat.reduceMul, Nat.reduceEqDiff, Go.Addr.add, ↓reduceIte] at hx409_0)
               have qi409 : (5 < t398.length) = True := eq_true (by omega)
               (try rw [show ((5 : Int)).toNat = 5 from rfl] at hx409_0)
               replace p409 := eq_true p409
               replace q409 := eq_true q409
               try go_wp2_with (first | ((with_reducible refine gate_callee (f := 53) rfl ?_); refine goesL_ (some 57) rfl rfl Tryd.func53 (by kernel_rfl) rfl #[.string (rdOf ByteArray.empty t398 5)] rfl u9_13 ?_; (with_reducible refine (impl_ParsePlace.calls kj37 (rdOf ByteArray.empty t398 5) t410 t411 t412 _ A45.out).mono ?_); rintro e w99 ⟨rfl, hb⟩; refine ⟨_, rfl, ?_⟩; have n0_ := am (Kd.R_below u9_9 hb); have n1_ := am (blk_below (g := gb397) (o := zo3 (⟨#[]⟩ : ByteArray) 0 (⟨#[]⟩ : ByteArray) 0 0 0 0 0) u9_5 hb); have n2_ := am (blk_below (g := gb401) (o := zo3 (⟨#[]⟩ : ByteArray) 0 (⟨#[]⟩ : ByteArray) 0 0 0 0 0) u9_6 hb); have n3_ := am (below_step u9_4 hb); clear HO_4 BK397 BK401 HB; have HO_4 := n0_; have BK397 := n1_; have BK401 := n2_; have HB := n3_; clear n0_ n1_ n2_ n3_; (try clear hb); (try clear hb2); (try clear hk); (try clear hi)) | ((with_reducible refine gate_dst (N := 8) rfl ?_); refine box_event ?hg (N := 8) ?hd (cs := #[.int .i64 0, .int .i64 0]) (t := 36) ?hr ?_; (case hd => rfl); (case hg => rfl); (case hr => exact gq); intro gb413 hg w100 hbox hb; have n0_ := am (Kd.R_below u9_9 hb); have n1_ := am (blk_below (g := gb397) (o := zo3 (⟨#[]⟩ : ByteArray) 0 (⟨#[]⟩ : ByteArray) 0 0 0 0 0) u9_5 hb); have n2_ := am (blk_below (g := gb401) (o := zo3 (⟨#[]⟩ : ByteArray) 0 (⟨#[]⟩ : ByteArray) 0 0 0 0 0) u9_6 hb); have n3_ := am (below_step u9_4 hb); have n4_ := am (hbox); have n5_ := bsw w hg (below_size u9_4); have n6_ := bsw w hg (below_size u9_4); have n7_ := am ((by rw [hg]; exact Nat.ne_of_lt (blk_lt (g := gb397) (o := zo3 (⟨#[]⟩ : ByteArray) 0 (⟨#[]⟩ : ByteArray) 0 0 0 0 0) u9_5) : gb397 ≠ gb413)); have n8_ := am ((by rw [hg]; exact Nat.ne_of_gt (blk_lt (g := gb397) (o := zo3 (⟨#[]⟩ : ByteArray) 0 (⟨#[]⟩ : ByteArray) 0 0 0 0 0) u9_5) : gb413 ≠ gb397)); have n9_ := am ((by rw [hg]; exact Nat.ne_of_lt (blk_lt (g := gb401) (o := zo3 (⟨#[]⟩ : ByteArray) 0 (⟨#[]⟩ : ByteArray) 0 0 0 0 0) u9_6) : gb401 ≠ gb413)); have n10_ := am ((by rw [hg]; exact Nat.ne_of_gt (blk_lt (g := gb401) (o := zo3 (⟨#[]⟩ : ByteArray) 0 (⟨#[]⟩ : ByteArray) 0 0 0 0 0) u9_6) : gb413 ≠ gb401)); clear HO_4 BK397 BK401 HB; have HO_4 := n0_; have BK397 := n1_; have BK401 := n2_; have HB := n3_; have BK413 := n4_; have GW413 := n5_; have GE413 := n6_; have NB397_413 := n7_; have NB413_397 := n8_; have NB401_413 := n9_; have NB413_401 := n10_; clear n0_ n1_ n2_ n3_ n4_ n5_ n6_ n7_ n8_ n9_ n10_ hb hbox hg; have hnb101 := NB413_397.out; have hnc101 := NB397_413.out; have hnb102 := NB413_401.out; have hnc102 := NB401_413.out; obtain ⟨hcz103_0, hcz103_1, hfz103_0, hfz103_1⟩ := cf2 BK413.out; have p414 : 0 ≤ (7 : Int) := (by omega); have q414 : 7 < (t398.length : Int) := od u9_24; obtain ⟨ad414, e414, hx414_0⟩ := Kd.at_string (Kd.R_reads' HO_4.out).2.2 7 p414 q414; obtain rfl : ad409 = ad414 := (by injection e414); (try simp only [show (7 : Int).toNat = 7 from rfl, Nat.reduceMul, Nat.reduceEqDiff, Go.Addr.add, ↓reduceIte] at hx414_0); have qi414 : (7 < t398.length) = True := eq_true (by omega); (try rw [show ((7 : Int)).toNat = 7 from rfl] at hx414_0); have hn414_0 : ad409.block ≠ gb413 := Kd.own_blk (Kd.R_ne HO_4.out BK413.out v9_0); have hn414_1 : ad409.block ≠ gb413 := Kd.own_blk (Kd.R_ne HO_4.out BK413.out v9_0); replace hx414_0 := (cell_far (p := ⟨gb413, 0, none⟩) u9_29 (.int .i64 t410)).trans hx414_0; replace hx414_0 := (cell_far (p := ⟨gb413, 1, none⟩) u9_28 (.int .i64 t411)).trans hx414_0; clear hn414_0 hn414_1; replace p414 := eq_true p414; replace q414 := eq_true q414) | ((with_reducible refine gate_callee (f := 37) rfl ?_); refine goesL_ (some 64) rfl rfl Tryd.func37 (by kernel_rfl) rfl #[.string (rdOf ByteArray.empty t398 7)] rfl u9_13 ?_; (with_reducible refine (impl_ParseNumber.calls kj37 (rdOf ByteArray.empty t398 7) t415 t416 _ A47.out).mono ?_); rintro e w' ⟨rfl, ⟨nd, rfl⟩⟩; refine ⟨_, rfl, ?_⟩; have p417 : 0 ≤ (9 : Int) := (by omega); have q417 : 9 < (t398.length : Int) := od u9_24; obtain ⟨ad417, e417, hx417_0⟩ := Kd.at_string (Kd.R_reads' HO_4.out).2.2 9 p417 q417; obtain rfl : ad409 = ad417 := (by injection e417); (try simp only [show (9 : Int).toNat = 9 from rfl, Nat.reduceMul, Nat.reduceEqDiff, Go.Addr.add, ↓reduceIte] at hx417_0); have qi417 : (9 < t398.length) = True := eq_true (by omega); (try rw [show ((9 : Int)).toNat = 9 from rfl] at hx417_0); have hn417_0 : ad409.block ≠ gb413 := Kd.own_blk (Kd.R_ne HO_4.out BK413.out v9_0); have hn417_1 : ad409.block ≠ gb413 := Kd.own_blk (Kd.R_ne HO_4.out BK413.out v9_0); replace hx417_0 := (cell_far (p := ⟨gb413, 0, none⟩) u9_27 (.int .i64 t410)).trans hx417_0; replace hx417_0 := (cell_far (p := ⟨gb413, 1, none⟩) u9_26 (.int .i64 t411)).trans hx417_0; clear hn417_0 hn417_1; replace p417 := eq_true p417; replace q417 := eq_true q417) | ((with_reducible refine gate_callee (f := 38) rfl ?_); refine goesL_ (some 71) rfl rfl Tryd.func38 (by kernel_rfl) rfl #[.string (rdOf ByteArray.empty t398 9)] rfl u9_13 ?_; (with_reducible refine (impl_ParseMeasure.calls kj37 (rdOf ByteArray.empty t398 9) t418 t419 _ A49.out).mono ?_); rintro e w104 ⟨rfl, hb⟩; refine ⟨_, rfl, ?_⟩; have n0_ := am (Kd.R_below u9_23 hb); have n1_ := am (blk_below (g := gb397) (o := zo3 (⟨#[]⟩ : ByteArray) 0 (⟨#[]⟩ : ByteArray) 0 0 0 0 0) u9_17 hb); have n2_ := am (blk_below (g := gb401) (o := zo3 (⟨#[]⟩ : ByteArray) 0 (⟨#[]⟩ : ByteArray) 0 0 0 0 0) u9_16 hb); have n3_ := am (blk_below (g := gb413) (o := zo1 t410 t411) u9_21 hb); have n4_ := am (below_step u9_12 hb); clear HO_4 BK397 BK401 BK413 HB; have HO_4 := n0_; have BK397 := n1_; have BK401 := n2_; have BK413 := n3_; have HB := n4_; clear n0_ n1_ n2_ n3_ n4_; (try clear hb); (try clear hb2); (try clear hk); (try clear hi); have p420 : 0 ≤ (11 : Int) := (by omega); have q420 : 11 < (t398.length : Int) := od u9_24; obtain ⟨ad420, e420, hx420_0⟩ := Kd.at_string (Kd.R_reads' HO_4.out).2.2 11 p420 q420; obtain rfl : ad409 = ad420 := (by injection e420); (try simp only [show (11 : Int).toNat = 11 from rfl, Nat.reduceMul, Nat.reduceEqDiff, Go.Addr.add, ↓reduceIte] at hx420_0); have qi420 : (11 < t398.length) = True := eq_true (by omega); (try rw [show ((11 : Int)).toNat = 11 from rfl] at hx420_0); replace p420 := eq_true p420; replace q420 := eq_true q420) | ((with_reducible refine gate_callee (f := 38) rfl ?_); refine goesL_ (some 78) rfl rfl Tryd.func38 (by kernel_rfl) rfl #[.string (rdOf ByteArray.empty t398 11)] rfl u9_13 ?_; (with_reducible refine (impl_ParseMeasure.calls kj37 (rdOf ByteArray.empty t398 11) t421 t422 _ A51.out).mono ?_); rintro e w105 ⟨rfl, hb⟩; refine ⟨_, rfl, ?_⟩; have n0_ := am (Kd.R_below u9_9 hb); have n1_ := am (blk_below (g := gb397) (o := zo3 (⟨#[]⟩ : ByteArray) 0 (⟨#[]⟩ : ByteArray) 0 0 0 0 0) u9_5 hb); have n2_ := am (blk_below (g := gb401) (o := zo3 (⟨#[]⟩ : ByteArray) 0 (⟨#[]⟩ : ByteArray) 0 0 0 0 0) u9_6 hb); have n3_ := am (blk_below (g := gb413) (o := zo1 t410 t411) u9_30 hb); have n4_ := am (below_step u9_12 hb); clear HO_4 BK397 BK401 BK413 HB; have HO_4 := n0_; have BK397 := n1_; have BK401 := n2_; have BK413 := n3_; have HB := n4_; clear n0_ n1_ n2_ n3_ n4_; (try clear hb); (try clear hb2); (try clear hk); (try clear hi)))
               have n0_ := am (Kd.R_drew HO_4.out)
               have n1_ := am (blk_drew BK397.out)
               have n2_ := am (blk_drew BK401.out)
               have n3_ := am (blk_drew BK413.out)
               have n4_ := am (below_drew1 HB.out)
               clear HO_4 BK397 BK401 BK413 HB
               have HO_4 := n0_
               have BK397 := n1_
               have BK401 := n2_
               have BK413 := n3_
               have HB := n4_
               clear n0_ n1_ n2_ n3_ n4_
               have p423 : 0 ≤ (1 : Int) := (by omega)
               have q423 : 1 < (t398.length : Int) := od u9_24
               obtain ⟨ad423, e423, hx423_0⟩ := Kd.at_string (Kd.R_reads' HO_4.out).2.2 1 p423 q423
               obtain rfl : ad409 = ad423 := (by injection e423)
               (try simp only [show (1 : Int).toNat = 1 from rfl, Nat.reduceMul, Nat.reduceEqDiff, Go.Addr.add, ↓reduceIte] at hx423_0)
               have qi423 : (1 < t398.length) = True := eq_true (by omega)
               (try rw [show ((1 : Int)).toNat = 1 from rfl] at hx423_0)
               replace p423 := eq_true p423
               replace q423 := eq_true q423
               have p424 : 0 ≤ (3 : Int) := (by omega)
               have q424 : 3 < (t398.length : Int) := od u9_24
               obtain ⟨ad424, e424, hx424_0⟩ := Kd.at_string (Kd.R_reads' HO_4.out).2.2 3 p424 q424
               obtain rfl : ad409 = ad424 := (by injection e424)
               (try simp only [show (3 : Int).toNat = 3 from rfl, Nat.reduceMul, Nat.reduceEqDiff, Go.Addr.add, ↓reduceIte] at hx424_0)
               have qi424 : (3 < t398.length) = True := eq_true (by omega)
               (try rw [show ((3 : Int)).toNat = 3 from rfl] at hx424_0)
               replace p424 := eq_true p424
               replace q424 := eq_true q424
               refine start_ (n := 12) (S := fun w' => zc9 w' gb413 t410 t411 (w'.cell? ⟨ad409.block, ad409.off + 1, none⟩ = some (.string (rdOf ByteArray.empty t398 1)) ∧ w'.cell? ⟨ad409.block, ad409.off + 3, none⟩ = some (.string (rdOf ByteArray.empty t398 3)))) (ds := []) mk9_0 (by kernel_rfl) rfl rfl ⟨(blk_cell BK413.out 0).trans rfl, (blk_cell BK413.out 1).trans rfl, hx423_0, hx424_0⟩ (fun hHeld => ?_); refine with_tabW impl_ParseDevice.tab11 impl_ParseDevice.bits11 (fun HT_ HW_ => ?_)
               generalize w105.drew = w106 at HO_4 BK397 BK401 BK413 HB hx423_0 hx424_0 hHeld ⊢
               refine pz 0 81 mk9_2 (any_of HT_.out (by kernel_rfl)) ?_
               refine pz 1 82 mk9_4 (any_of HT_.out (by kernel_rfl)) ?_
               refine pz 3 84 mk9_6 (any_of HT_.out (by kernel_rfl)) ?_
               refine pz 4 85 mk9_8 (any_of HT_.out (by kernel_rfl)) ?_
               refine pz 7 88 mk9_10 (any_of HT_.out (by kernel_rfl)) ?_
               refine pz 8 89 mk9_11 (any_of HT_.out (by kernel_rfl)) ?_
               refine pz 9 90 mk9_12 (any_of HT_.out (by kernel_rfl)) ?_
               refine take_ (i := 2) (N := some 83) (v := ?_) (a' := ?_) mk9_14 rfl rfl (take_ofW HT_.out HW_.out (by kernel_rfl)) (fun _ _ _ h => h) (Or.inl ⟨by rfl, ?_⟩) hHeld ?_ ?_
               rotate_left
               ·rintro w' ⟨s0, s1, s2, s3⟩
                exact gs
               rotate_left
               ·exact ap
               refine take_ (i := 5) (N := some 86) (v := ?_) (a' := ?_) mk9_16 rfl rfl (take_ofW HT_.out HW_.out (by kernel_rfl)) (fun _ _ _ h => h) (Or.inl ⟨by rfl, ?_⟩) hHeld ?_ ?_
               rotate_left
               ·rintro w' ⟨s0, s1, s2, s3⟩
                exact gs
               rotate_left
               ·exact ap
               refine take_ (i := 6) (N := some 87) (v := ?_) (a' := ?_) mk9_19 rfl rfl (take_ofW HT_.out HW_.out (by kernel_rfl)) (fun _ _ _ h => h) (Or.inl ⟨by rfl, ?_⟩) hHeld ?_ ?_
               rotate_left
               ·rintro w' ⟨s0, s1, s2, s3⟩
                exact gs
               rotate_left
               ·exact ap
               refine pz 10 91 mk9_20 (any_of HT_.out (by kernel_rfl)) ?_
               refine one_ (i := 11) (N := none) mk9_21 rfl rfl (one_of HT_.out (by kernel_rfl)) v9_0 (fun K hK => ?_)
               have hs107 : w106.cell? ⟨gb401, 0, none⟩ = some (.string (⟨#[]⟩ : ByteArray)) := (blk_cell BK401.out 0).trans rfl
               have hfs107 := blk_frozen BK401.out 0
               have hns107_0 := NB397_401.out
               have hns107_2 := NB413_401.out
               have hms107_0 := NB401_397.out
               have hms107_2 := NB401_413.out
               have hs108 : w106.cell? ⟨gb401, 1, none⟩ = some (.int .i64 0) := (blk_cell BK401.out 1).trans rfl
               have hfs108 := blk_frozen BK401.out 1
               have hns108_0 := NB397_401.out
               have hns108_2 := NB413_401.out
               have hms108_0 := NB401_397.out
               have hms108_2 := NB401_413.out
               have hs109 : w106.cell? ⟨gb401, 2, none⟩ = some (.string (⟨#[]⟩ : ByteArray)) := (blk_cell BK401.out 2).trans rfl
               have hfs109 := blk_frozen BK401.out 2
               have hns109_0 := NB397_401.out
               have hns109_2 := NB413_401.out
               have hms109_0 := NB401_397.out
               have hms109_2 := NB401_413.out
               have hs110 : w106.cell? ⟨gb401, 3, none⟩ = some (.int .i64 0) := (blk_cell BK401.out 3).trans rfl
               have hfs110 := blk_frozen BK401.out 3
               have hns110_0 := NB397_401.out
               have hns110_2 := NB413_401.out
               have hms110_0 := NB401_397.out
               have hms110_2 := NB401_413.out
               have hs111 : w106.cell? ⟨gb401, 4, none⟩ = some (.int .i64 0) := (blk_cell BK401.out 4).trans rfl
               have hfs111 := blk_frozen BK401.out 4
               have hns111_0 := NB397_401.out
               have hns111_2 := NB413_401.out
               have hms111_0 := NB401_397.out
               have hms111_2 := NB401_413.out
               have hs112 : w106.cell? ⟨gb401, 5, none⟩ = some (.int .i64 0) := (blk_cell BK401.out 5).trans rfl
               have hfs112 := blk_frozen BK401.out 5
               have hns112_0 := NB397_401.out
               have hns112_2 := NB413_401.out
               have hms112_0 := NB401_397.out
               have hms112_2 := NB401_413.out
               have hs113 : w106.cell? ⟨gb401, 6, none⟩ = some (.int .i64 0) := (blk_cell BK401.out 6).trans rfl
               have hfs113 := blk_frozen BK401.out 6
               have hns113_0 := NB397_401.out
               have hns113_2 := NB413_401.out
               have hms113_0 := NB401_397.out
               have hms113_2 := NB401_413.out
               have hs114 : w106.cell? ⟨gb401, 7, none⟩ = some (.int .i64 0) := (blk_cell BK401.out 7).trans rfl
               have hfs114 := blk_frozen BK401.out 7
               have hns114_0 := NB397_401.out
               have hns114_2 := NB413_401.out
               have hms114_0 := NB401_397.out
               have hms114_2 := NB401_413.out
               refine skip_ (w1 := ?_) (by rfl) rfl ?_ ?_
               rotate_left
               ·go_simp
                rfl
               have hne_ : ad409.block ≠ gb401 := Kd.own_blk (Kd.R_ne HO_4.out BK401.out v9_0)
               refine hK.out _ _ ⟨(far8 NB413_401.out hHeld.1), (far8 NB413_401.out hHeld.2.1), (far8 hne_ hHeld.2.2.1), (far8 hne_ hHeld.2.2.2)⟩ (fun hHeld => ?_)
               clear hK K
               refine done_ (done_of HT_.out (by kernel_rfl)) ?_
               have hnb115 := NB401_397.out
               have hnc115 := NB397_401.out
               obtain ⟨hcz116_0, hcz116_1, hcz116_2, hcz116_3, hcz116_4, hcz116_5, hcz116_6, hcz116_7, hfz116_0, hfz116_1, hfz116_2, hfz116_3, hfz116_4, hfz116_5, hfz116_6, hfz116_7⟩ := cf8 BK401.out
               try go_wp2_with (first | (go_at_call 20; (with_reducible refine (impl_FormatDevice.calls kj37 (rdOf ByteArray.empty t398 1) 2 (rdOf ByteArray.empty t398 3) t410 t411 t415 t418 t421 t425 _ A74.out).mono ?_); rintro e w117 ⟨rfl, hb⟩; have n0_ := am (Kd.R_below u9_18 hb); have n1_ := am (blk_below (g := gb397) (o := zo3 (⟨#[]⟩ : ByteArray) 0 (⟨#[]⟩ : ByteArray) 0 0 0 0 0) u9_3 hb); have n2_ := am (blk_below (g := gb401) (o := zo3 (rdOf ByteArray.empty t398 1) 2 (rdOf ByteArray.empty t398 3) t410 t411 t415 t418 t421) u9_10 hb); have n3_ := am (blk_below (g := gb413) (o := zo1 t410 t411) u9_15 hb); have n4_ := am (below_step u9_12 hb); clear HO_4 BK397 BK401 BK413 HB; have HO_4 := n0_; have BK397 := n1_; have BK401 := n2_; have BK413 := n3_; have HB := n4_; clear n0_ n1_ n2_ n3_ n4_; (try clear hb); (try clear hb2); (try clear hk); (try clear hi); obtain ⟨hcz118_0, hcz118_1, hcz118_2, hcz118_3, hcz118_4, hcz118_5, hcz118_6, hcz118_7, hfz118_0, hfz118_1, hfz118_2, hfz118_3, hfz118_4, hfz118_5, hfz118_6, hfz118_7⟩ := cf8 BK397.out))
               refine bodyPost_ret (results_ct rfl _ _ gb397 38 #[.string (⟨#[]⟩ : ByteArray), .int .i64 0, .string (⟨#[]⟩ : ByteArray), .int .i64 0, .int .i64 0, .int .i64 0, .int .i64 0, .int .i64 0] (0, 0) _ rfl u9_1 Tryd.underlying38 rfl (by kernel_rfl)) rfl ?_
               exact ⟨by first | rfl | (simp [*] <;> rfl), s9_0⟩
            ·rw [if_neg c53] at H
             exact absurd H (by simp)
           ·rw [if_neg c52] at H
            exact absurd H (by simp)
          ·rw [if_neg c50] at H
           exact absurd H (by simp)
         ·rw [if_neg c48] at H
          exact absurd H (by simp)
        ·rw [if_neg c46] at H
         exact absurd H (by simp)
       ·rw [if_neg c44] at H
        exact absurd H (by simp)
      ·replace c43 := Bool.eq_false_iff.mpr c43
       subst c43
       have H1 : (if (t398.length : Int) = 6 then (if 0 < (t398.length : Int) then (impl_ParseDevice.j2 kj37 a0 t398 ((rdOf ByteArray.empty t398 0).toList == ([108, 97, 109, 112] : List UInt8)) (⟨#[]⟩ : ByteArray) 0 (⟨#[]⟩ : ByteArray) 0 0 0 0 0) else (none)) else (impl_ParseDevice.j2 kj37 a0 t398 false (⟨#[]⟩ : ByteArray) 0 (⟨#[]⟩ : ByteArray) 0 0 0 0 0)) = some (r1, r2, r3, r4, r5, r6, r7, r8, r9) := by rw [if_neg (show ¬ (false = true) by decide)] at H; exact H
       clear H
       have H := H1
       clear H1
       have HC119 := am H
       clear H
       go_upto_region 12 with (fail)
       go_cut [92] (fun v92 wc => ∃ (kq : Nat) (x92_118 : Bool), v92 = .bool x92_118 ∧ Aside0 (impl_ParseDevice.j2 kq a0 t398 x92_118 (⟨#[]⟩ : ByteArray) 0 (⟨#[]⟩ : ByteArray) 0 0 0 0 0 = some (r1, r2, r3, r4, r5, r6, r7, r8, r9)) ∧ Aside0 (kq ≤ kj37) ∧ Aside0 (Kd.R Kd.string 9 wc w.heap.size (fun _ => True) v399 t398) ∧ Aside0 (wc.heap[gb397]? = some (.cells #[.string (⟨#[]⟩ : ByteArray), .int .i64 0, .string (⟨#[]⟩ : ByteArray), .int .i64 0, .int .i64 0, .int .i64 0, .int .i64 0, .int .i64 0] 38 (0, 0))) ∧ Aside0 (wc.heap[gb401]? = some (.cells #[.string (⟨#[]⟩ : ByteArray), .int .i64 0, .string (⟨#[]⟩ : ByteArray), .int .i64 0, .int .i64 0, .int .i64 0, .int .i64 0, .int .i64 0] 38 (0, 0))) ∧ Aside0 (Below w.heap.size w wc))
       case first =>
        have H := HC119.out
        clear HC119
        by_cases c120 : (t398.length : Int) = 6
        ·rw [if_pos c120] at H
         have c120b0 : ((t398.length : Int) == 6) = true := beq_iff_eq.mpr c120
         have c120b1 : ((t398.length : Int) != 6) = false := bne_eq_false_iff_eq.mpr c120
         clear c120
         (first | rw [c120b0] | (simp only [i64_w, i32_w]; rw [c120b0]) | skip)
         by_cases c121 : 0 < (t398.length : Int)
         ·rw [if_pos c121] at H
          have c121b0 : decide (0 < (t398.length : Int)) = true := decide_eq_true c121
          have c121b1 : decide (0 < t398.length) = true := decide_eq_true (by omega)
          clear c121
          have H' := am H
          clear H
          obtain ⟨Ao122, co122, eo122⟩ := Kd.R_slice HO_4.out
          subst eo122
          have p426 : 0 ≤ (0 : Int) := (by omega)
          have q426 : 0 < (t398.length : Int) := od u9_24
          obtain ⟨ad426, e426, hx426_0⟩ := Kd.at_string (Kd.R_reads' HO_4.out).2.2 0 p426 q426
          cases e426
          have qi426 : (0 < t398.length) = True := eq_true (by omega)
          (try rw [show ((0 : Int)).toNat = 0 from rfl] at hx426_0)
          (try rw [Addr.add_zero'] at hx426_0)
          replace p426 := eq_true p426
          replace q426 := eq_true q426
          go_wp2
          go_meet
          case rel => exact ⟨_, (((rdOf ByteArray.empty t398 0).toList == ([108, 97, 109, 112] : List UInt8))), u9_31, H', ⟨by have := HJ2.out; have := HJ37.out; first | omega | exact Nat.le_refl _⟩, ⟨by (with_reducible repeat (first | apply Kd.R_alloc | apply Kd.R_drewN | apply Kd.R_drew)); exact HO_4.out⟩, ⟨bd BK397.out⟩, ⟨bd BK401.out⟩, ⟨s9_2⟩⟩
         ·rw [if_neg c121] at H
          exact absurd H (by simp)
        ·rw [if_neg c120] at H
         have c120b0 : ((t398.length : Int) == 6) = false := beq_eq_false_iff_ne.mpr c120
         have c120b1 : ((t398.length : Int) != 6) = true := bne_iff_ne.mpr c120
         (first | rw [c120b0] | (simp only [i64_w, i32_w]; rw [c120b0]) | skip)
         have H' := am H
         clear H
         obtain ⟨Ao123, co123, eo123⟩ := Kd.R_slice HO_4.out
         subst eo123
         go_wp2
         go_meet
         case rel => exact ⟨_, (false), u9_31, H', ⟨by have := HJ2.out; have := HJ37.out; first | omega | exact Nat.le_refl _⟩, ⟨by (with_reducible repeat (first | apply Kd.R_alloc | apply Kd.R_drewN | apply Kd.R_drew)); exact HO_4.out⟩, ⟨bd BK397.out⟩, ⟨bd BK401.out⟩, ⟨s9_2⟩⟩
       case rest =>
        clear HC119
        try clear c1
        try clear p2
        try clear c3
        try clear c4
        try clear p4
        try clear q4
        try clear hx4
        try clear qi4
        try clear c5
        try clear c7
        try clear c8
        try clear c9
        try clear c10
        try clear c11
        try clear c12
        try clear c37
        try clear c38
        try clear p40
        try clear q40
        try clear hx40
        try clear qi40
        try clear p41
        try clear q41
        try clear hx41
        try clear qi41
        try clear p42
        try clear q42
        try clear hx42
        try clear qi42
        try clear c43
        try clear c44
        try clear c46
        try clear c48
        try clear c50
        try clear c52
        try clear c53
        try clear c54
        try clear c54b0
        try clear c54b1
        try clear c72
        try clear c75
        try clear c75b0
        try clear c75b1
        try clear c79
        try clear c80
        try clear c93
        try clear c101
        try clear c102
        try clear c115
        try clear c120
        try clear c120b0
        try clear c120b1
        try clear c121
        try clear c121b0
        try clear c121b1
        try clear hcz103_0
        try clear hcz103_1
        try clear hcz116_0
        try clear hcz116_1
        try clear hcz116_2
        try clear hcz116_3
        try clear hcz116_4
        try clear hcz116_5
        try clear hcz116_6
        try clear hcz116_7
        try clear hcz118_0
        try clear hcz118_1
        try clear hcz118_2
        try clear hcz118_3
        try clear hcz118_4
        try clear hcz118_5
        try clear hcz118_6
        try clear hcz118_7
        try clear hcz73_0
        try clear hcz73_1
        try clear hcz73_2
        try clear hcz73_3
        try clear hcz73_4
        try clear hcz73_5
        try clear hcz73_6
        try clear hcz73_7
        try clear hcz81_0
        try clear hcz81_1
        try clear hcz94_0
        try clear hcz94_1
        try clear hcz94_2
        try clear hcz94_3
        try clear hcz94_4
        try clear hcz94_5
        try clear hcz94_6
        try clear hcz94_7
        try clear hcz96_0
        try clear hcz96_1
        try clear hcz96_2
        try clear hcz96_3
        try clear hcz96_4
        try clear hcz96_5
        try clear hcz96_6
        try clear hcz96_7
        try clear hcz97_0
        try clear hcz97_1
        try clear hcz97_2
        try clear hcz97_3
        try clear hcz97_4
        try clear hcz97_5
        try clear hcz97_6
        try clear hcz97_7
        try clear hfz103_0
        try clear hfz103_1
        try clear hfz116_0
        try clear hfz116_1
        try clear hfz116_2
        try clear hfz116_3
        try clear hfz116_4
        try clear hfz116_5
        try clear hfz116_6
        try clear hfz116_7
        try clear hfz118_0
        try clear hfz118_1
        try clear hfz118_2
        try clear hfz118_3
        try clear hfz118_4
        try clear hfz118_5
        try clear hfz118_6
        try clear hfz118_7
        try clear hfz73_0
        try clear hfz73_1
        try clear hfz73_2
        try clear hfz73_3
        try clear hfz73_4
        try clear hfz73_5
        try clear hfz73_6
        try clear hfz73_7
        try clear hfz81_0
        try clear hfz81_1
        try clear hfz94_0
        try clear hfz94_1
        try clear hfz94_2
        try clear hfz94_3
        try clear hfz94_4
        try clear hfz94_5
        try clear hfz94_6
        try clear hfz94_7
        try clear hfz96_0
        try clear hfz96_1
        try clear hfz96_2
        try clear hfz96_3
        try clear hfz96_4
        try clear hfz96_5
        try clear hfz96_6
        try clear hfz96_7
        try clear hfz97_0
        try clear hfz97_1
        try clear hfz97_2
        try clear hfz97_3
        try clear hfz97_4
        try clear hfz97_5
        try clear hfz97_6
        try clear hfz97_7
        try clear hx409_0
        try clear hx414_0
        try clear hx417_0
        try clear hx420_0
        try clear hx423_0
        try clear hx424_0
        try clear hx426_0
        try clear p409
        try clear p414
        try clear p417
        try clear p420
        try clear p423
        try clear p424
        try clear p426
        try clear q409
        try clear q414
        try clear q417
        try clear q420
        try clear q423
        try clear q424
        try clear q426
        obtain ⟨kq, x92_118, rfl, HA, HJ118, HO_4, BK397, BK401, HB⟩ := hcut
        cases kq with
        | zero => exact absurd HA.out (by simp [impl_ParseDevice.j2])
        | succ kj118 =>
         have H := HA.out
         clear HA
         simp only [impl_ParseDevice.j2] at H
         by_cases c124 : x92_118 = true
         ·subst c124
          have H1 : (if 5 < (t398.length : Int) then ((impl_ParsePlace.f kj118 (rdOf ByteArray.empty t398 5)).bind fun bt428 => (if 1 < (t398.length : Int) then (if 3 < (t398.length : Int) then (if a0.toList = ([] : List UInt8) then (some ((⟨#[]⟩ : ByteArray), 0, (⟨#[]⟩ : ByteArray), 0, 0, 0, 0, 0, false)) else ((impl_FormatDevice.f kj118 (rdOf ByteArray.empty t398 1) 3 (rdOf ByteArray.empty t398 3) bt428.1 bt428.2.1 0 0 0).bind fun t434 => (if t434.toList = a0.toList then (some (rdOf ByteArray.empty t398 1, 3, rdOf ByteArray.empty t398 3, bt428.1, bt428.2.1, 0, 0, 0, true)) else (some ((⟨#[]⟩ : ByteArray), 0, (⟨#[]⟩ : ByteArray), 0, 0, 0, 0, 0, false))))) else (none)) else (none))) else (none)) = some (r1, r2, r3, r4, r5, r6, r7, r8, r9) := by rw [if_pos rfl] at H; exact H
          clear H
          have H := H1
          clear H1
          by_cases c125 : 5 < (t398.length : Int)
          ·rw [if_pos c125] at H
           have c125b0 : decide (5 < (t398.length : Int)) = true := decide_eq_true c125
           have c125b1 : decide (5 < t398.length) = true := decide_eq_true (by omega)
           clear c125
           replace H := ob H
           obtain ⟨⟨t428, t429, t430⟩, A1260, H⟩ := H
           replace H : (if 1 < (t398.length : Int) then (if 3 < (t398.length : Int) then (if a0.toList = ([] : List UInt8) then (some ((⟨#[]⟩ : ByteArray), 0, (⟨#[]⟩ : ByteArray), 0, 0, 0, 0, 0, false)) else ((impl_FormatDevice.f kj118 (rdOf ByteArray.empty t398 1) 3 (rdOf ByteArray.empty t398 3) t428 t429 0 0 0).bind fun t434 => (if t434.toList = a0.toList then (some (rdOf ByteArray.empty t398 1, 3, rdOf ByteArray.empty t398 3, t428, t429, 0, 0, 0, true)) else (some ((⟨#[]⟩ : ByteArray), 0, (⟨#[]⟩ : ByteArray), 0, 0, 0, 0, 0, false))))) else (none)) else (none)) = some (r1, r2, r3, r4, r5, r6, r7, r8, r9) := H
           have A126 := am A1260
           clear A1260
           by_cases c127 : 1 < (t398.length : Int)
           ·rw [if_pos c127] at H
            have c127b0 : decide (1 < (t398.length : Int)) = true := decide_eq_true c127
            have c127b1 : decide (1 < t398.length) = true := decide_eq_true (by omega)
            clear c127
            by_cases c128 : 3 < (t398.length : Int)
            ·rw [if_pos c128] at H
             have c128b0 : decide (3 < (t398.length : Int)) = true := decide_eq_true c128
             have c128b1 : decide (3 < t398.length) = true := decide_eq_true (by omega)
             clear c128
             by_cases c129 : a0.toList = ([] : List UInt8)
             ·rw [if_pos c129] at H
              have c129b0 : (a0.toList == ([] : List UInt8)) = true := beq_iff_eq.mpr c129
              have c129b1 : (a0.toList != ([] : List UInt8)) = false := bne_eq_false_iff_eq.mpr c129
              clear c129
              simp only [Option.some.injEq, Prod.mk.injEq] at H
              obtain ⟨rfl, rfl, rfl, rfl, rfl, rfl, rfl, rfl, rfl⟩ := H
              obtain ⟨Ao130, co130, eo130⟩ := Kd.R_slice HO_4.out
              subst eo130
              have p427 : 0 ≤ (5 : Int) := (by omega)
              have q427 : 5 < (t398.length : Int) := od u9_24
              obtain ⟨ad427, e427, hx427_0⟩ := Kd.at_string (Kd.R_reads' HO_4.out).2.2 5 p427 q427
              cases e427
              (try simp only [show (5 : Int).toNat = 5 from rfl, Nat.reduceMul, Nat.reduceEqDiff, Go.Addr.add, ↓reduceIte] at hx427_0)
              have qi427 : (5 < t398.length) = True := eq_true (by omega)
              (try rw [show ((5 : Int)).toNat = 5 from rfl] at hx427_0)
              replace p427 := eq_true p427
              replace q427 := eq_true q427
              try go_wp2_with (first | ((with_reducible refine gate_callee (f := 53) rfl ?_); refine goesL_ (some 106) rfl rfl Tryd.func53 (by kernel_rfl) rfl #[.string (rdOf ByteArray.empty t398 5)] rfl u9_13 ?_; (with_reducible refine (impl_ParsePlace.calls kj118 (rdOf ByteArray.empty t398 5) t428 t429 t430 _ A126.out).mono ?_); rintro e w131 ⟨rfl, hb⟩; refine ⟨_, rfl, ?_⟩; have n0_ := am (Kd.R_below u9_9 hb); have n1_ := am (blk_below (g := gb397) (o := zo3 (⟨#[]⟩ : ByteArray) 0 (⟨#[]⟩ : ByteArray) 0 0 0 0 0) u9_5 hb); have n2_ := am (blk_below (g := gb401) (o := zo3 (⟨#[]⟩ : ByteArray) 0 (⟨#[]⟩ : ByteArray) 0 0 0 0 0) u9_6 hb); have n3_ := am (below_step u9_4 hb); clear HO_4 BK397 BK401 HB; have HO_4 := n0_; have BK397 := n1_; have BK401 := n2_; have HB := n3_; clear n0_ n1_ n2_ n3_; (try clear hb); (try clear hb2); (try clear hk); (try clear hi)) | ((with_reducible refine gate_dst (N := 16) rfl ?_); refine box_event ?hg (N := 16) ?hd (cs := #[.int .i64 0, .int .i64 0]) (t := 36) ?hr ?_; (case hd => rfl); (case hg => rfl); (case hr => exact gq); intro gb431 hg w132 hbox hb; have n0_ := am (Kd.R_below u9_9 hb); have n1_ := am (blk_below (g := gb397) (o := zo3 (⟨#[]⟩ : ByteArray) 0 (⟨#[]⟩ : ByteArray) 0 0 0 0 0) u9_5 hb); have n2_ := am (blk_below (g := gb401) (o := zo3 (⟨#[]⟩ : ByteArray) 0 (⟨#[]⟩ : ByteArray) 0 0 0 0 0) u9_6 hb); have n3_ := am (below_step u9_4 hb); have n4_ := am (hbox); have n5_ := bsw w hg (below_size u9_4); have n6_ := bsw w hg (below_size u9_4); have n7_ := am ((by rw [hg]; exact Nat.ne_of_lt (blk_lt (g := gb397) (o := zo3 (⟨#[]⟩ : ByteArray) 0 (⟨#[]⟩ : ByteArray) 0 0 0 0 0) u9_5) : gb397 ≠ gb431)); have n8_ := am ((by rw [hg]; exact Nat.ne_of_gt (blk_lt (g := gb397) (o := zo3 (⟨#[]⟩ : ByteArray) 0 (⟨#[]⟩ : ByteArray) 0 0 0 0 0) u9_5) : gb431 ≠ gb397)); have n9_ := am ((by rw [hg]; exact Nat.ne_of_lt (blk_lt (g := gb401) (o := zo3 (⟨#[]⟩ : ByteArray) 0 (⟨#[]⟩ : ByteArray) 0 0 0 0 0) u9_6) : gb401 ≠ gb431)); have n10_ := am ((by rw [hg]; exact Nat.ne_of_gt (blk_lt (g := gb401) (o := zo3 (⟨#[]⟩ : ByteArray) 0 (⟨#[]⟩ : ByteArray) 0 0 0 0 0) u9_6) : gb431 ≠ gb401)); clear HO_4 BK397 BK401 HB; have HO_4 := n0_; have BK397 := n1_; have BK401 := n2_; have HB := n3_; have BK431 := n4_; have GW431 := n5_; have GE431 := n6_; have NB397_431 := n7_; have NB431_397 := n8_; have NB401_431 := n9_; have NB431_401 := n10_; clear n0_ n1_ n2_ n3_ n4_ n5_ n6_ n7_ n8_ n9_ n10_ hb hbox hg; have hnb133 := NB431_397.out; have hnc133 := NB397_431.out; have hnb134 := NB431_401.out; have hnc134 := NB401_431.out; obtain ⟨hcz135_0, hcz135_1, hfz135_0, hfz135_1⟩ := cf2 BK431.out))
              have n0_ : Aside0 (Kd.R Kd.string 9 ((w132.setCell ⟨gb431, 0, none⟩ (.int .i64 t428)).setCell ⟨gb431, 1, none⟩ (.int .i64 t429)) w.heap.size (fun _ => True) (.slice (some ad427) t398.length co130) t398) := ⟨by (with_reducible repeat (first | apply Kd.R_alloc | apply Kd.R_drewN | apply Kd.R_drew)); exact Kd.R_mono (Kd.R_far (p := ⟨gb431, 1, none⟩) (Kd.R_far (p := ⟨gb431, 0, none⟩) (Kd.R_types HO_4.out BK431.out v9_0) (fun _ hk => hk.2) (.int .i64 t428)) (fun _ hk => hk.2) (.int .i64 t429)) (fun _ hk => trivial)⟩
              have n1_ : Aside0 (((w132.setCell ⟨gb431, 0, none⟩ (.int .i64 t428)).setCell ⟨gb431, 1, none⟩ (.int .i64 t429)).heap[gb397]? = some (.cells #[.string (⟨#[]⟩ : ByteArray), .int .i64 0, .string (⟨#[]⟩ : ByteArray), .int .i64 0, .int .i64 0, .int .i64 0, .int .i64 0, .int .i64 0] 38 (0, 0))) := ⟨by (with_reducible repeat (first | refine bN ?_ _ | refine bD ?_ | refine bA ?_ _)); refine blk_far ?_ NB397_431.out _; (with_reducible repeat (first | refine bN ?_ _ | refine bD ?_ | refine bA ?_ _)); refine blk_far ?_ NB397_431.out _; exact bd BK397.out⟩
              have n2_ : Aside0 (((w132.setCell ⟨gb431, 0, none⟩ (.int .i64 t428)).setCell ⟨gb431, 1, none⟩ (.int .i64 t429)).heap[gb401]? = some (.cells #[.string (⟨#[]⟩ : ByteArray), .int .i64 0, .string (⟨#[]⟩ : ByteArray), .int .i64 0, .int .i64 0, .int .i64 0, .int .i64 0, .int .i64 0] 38 (0, 0))) := ⟨by (with_reducible repeat (first | refine bN ?_ _ | refine bD ?_ | refine bA ?_ _)); refine blk_far ?_ NB401_431.out _; (with_reducible repeat (first | refine bN ?_ _ | refine bD ?_ | refine bA ?_ _)); refine blk_far ?_ NB401_431.out _; exact bd BK401.out⟩
              have n3_ : Aside0 (((w132.setCell ⟨gb431, 0, none⟩ (.int .i64 t428)).setCell ⟨gb431, 1, none⟩ (.int .i64 t429)).heap[gb431]? = some (.cells #[.int .i64 t428, .int .i64 t429] 36 (0, 0))) := ⟨by (with_reducible repeat (first | refine bN ?_ _ | refine bD ?_ | refine bA ?_ _)); refine blk_put (cs := zr4 t428 0) ?_ 1 _ rfl; refine blk_put (cs := zr4 0 0) ?_ 0 _ rfl; exact bd BK431.out⟩
              have n4_ : Aside0 (Below w.heap.size w ((w132.setCell ⟨gb431, 0, none⟩ (.int .i64 t428)).setCell ⟨gb431, 1, none⟩ (.int .i64 t429))) := ⟨s9_1⟩
              (try clear HO_4)
              (try clear BK397)
              (try clear BK401)
              (try clear BK431)
              (try clear HB)
              (try simp only [show ∀ (w_ : World) (n_ : Nat) (a_ : Addr) (v_ : Value), (w_.drewN n_).setCell a_ v_ = (w_.setCell a_ v_).drewN n_ from fun _ _ _ _ => rfl, show ∀ (w_ : World) (a_ : Addr) (v_ : Value), w_.drew.setCell a_ v_ = (w_.setCell a_ v_).drew from fun _ _ _ => rfl])
              generalize ((w132.setCell ⟨gb431, 0, none⟩ (.int .i64 t428)).setCell ⟨gb431, 1, none⟩ (.int .i64 t429)) = w136 at n0_ n1_ n2_ n3_ n4_ ⊢
              have HO_4 := n0_
              have BK397 := n1_
              have BK401 := n2_
              have BK431 := n3_
              have HB := n4_
              clear n0_ n1_ n2_ n3_ n4_
              have n0_ := am (Kd.R_drew HO_4.out)
              have n1_ := am (blk_drew BK397.out)
              have n2_ := am (blk_drew BK401.out)
              have n3_ := am (blk_drew BK431.out)
              have n4_ := am (below_drew1 HB.out)
              clear HO_4 BK397 BK401 BK431 HB
              have HO_4 := n0_
              have BK397 := n1_
              have BK401 := n2_
              have BK431 := n3_
              have HB := n4_
              clear n0_ n1_ n2_ n3_ n4_
              have p432 : 0 ≤ (1 : Int) := (by omega)
              have q432 : 1 < (t398.length : Int) := od u9_24
              obtain ⟨ad432, e432, hx432_0⟩ := Kd.at_string (Kd.R_reads' HO_4.out).2.2 1 p432 q432
              obtain rfl : ad427 = ad432 := (by injection e432)
              (try simp only [show (1 : Int).toNat = 1 from rfl, Nat.reduceMul, Nat.reduceEqDiff, Go.Addr.add, ↓reduceIte] at hx432_0)
              have qi432 : (1 < t398.length) = True := eq_true (by omega)
              (try rw [show ((1 : Int)).toNat = 1 from rfl] at hx432_0)
              replace p432 := eq_true p432
              replace q432 := eq_true q432
              have p433 : 0 ≤ (3 : Int) := (by omega)
              have q433 : 3 < (t398.length : Int) := od u9_24
              obtain ⟨ad433, e433, hx433_0⟩ := Kd.at_string (Kd.R_reads' HO_4.out).2.2 3 p433 q433
              obtain rfl : ad427 = ad433 := (by injection e433)
              (try simp only [show (3 : Int).toNat = 3 from rfl, Nat.reduceMul, Nat.reduceEqDiff, Go.Addr.add, ↓reduceIte] at hx433_0)
              have qi433 : (3 < t398.length) = True := eq_true (by omega)
              (try rw [show ((3 : Int)).toNat = 3 from rfl] at hx433_0)
              replace p433 := eq_true p433
              replace q433 := eq_true q433
              refine start_ (n := 9) (S := fun w' => zc9 w' gb431 t428 t429 (w'.cell? ⟨ad427.block, ad427.off + 1, none⟩ = some (.string (rdOf ByteArray.empty t398 1)) ∧ w'.cell? ⟨ad427.block, ad427.off + 3, none⟩ = some (.string (rdOf ByteArray.empty t398 3)))) (ds := []) mk9_1 (by kernel_rfl) rfl rfl ⟨(blk_cell BK431.out 0).trans rfl, (blk_cell BK431.out 1).trans rfl, hx432_0, hx433_0⟩ (fun hHeld => ?_); refine with_tabW impl_ParseDevice.tab14 impl_ParseDevice.bits14 (fun HT_ HW_ => ?_)
              generalize w136.drew = w137 at HO_4 BK397 BK401 BK431 HB hx432_0 hx433_0 hHeld ⊢
              refine pz 0 109 mk9_3 (any_of HT_.out (by kernel_rfl)) ?_
              refine pz 1 110 mk9_5 (any_of HT_.out (by kernel_rfl)) ?_
              refine pz 3 112 mk9_7 (any_of HT_.out (by kernel_rfl)) ?_
              refine pz 4 113 mk9_9 (any_of HT_.out (by kernel_rfl)) ?_
              refine take_ (i := 2) (N := some 111) (v := ?_) (a' := ?_) mk9_13 rfl rfl (take_ofW HT_.out HW_.out (by kernel_rfl)) (fun _ _ _ h => h) (Or.inl ⟨by rfl, ?_⟩) hHeld ?_ ?_
              rotate_left
              ·rintro w' ⟨s0, s1, s2, s3⟩
               exact gs
              rotate_left
              ·exact ap
              refine take_ (i := 5) (N := some 114) (v := ?_) (a' := ?_) mk9_15 rfl rfl (take_ofW HT_.out HW_.out (by kernel_rfl)) (fun _ _ _ h => h) (Or.inl ⟨by rfl, ?_⟩) hHeld ?_ ?_
              rotate_left
              ·rintro w' ⟨s0, s1, s2, s3⟩
               exact gs
              rotate_left
              ·exact ap
              refine take_ (i := 6) (N := some 115) (v := ?_) (a' := ?_) mk9_17 rfl rfl (take_ofW HT_.out HW_.out (by kernel_rfl)) (fun _ _ _ h => h) (Or.inl ⟨by rfl, ?_⟩) hHeld ?_ ?_
              rotate_left
              ·rintro w' ⟨s0, s1, s2, s3⟩
               exact gs
              rotate_left
              ·exact ap
              refine pz 7 116 mk9_18 (any_of HT_.out (by kernel_rfl)) ?_
              refine one_ (i := 8) (N := none) mk9_22 rfl rfl (one_of HT_.out (by kernel_rfl)) v9_0 (fun K hK => ?_)
              have hs138 : w137.cell? ⟨gb401, 0, none⟩ = some (.string (⟨#[]⟩ : ByteArray)) := (blk_cell BK401.out 0).trans rfl
              have hfs138 := blk_frozen BK401.out 0
              have hns138_0 := NB397_401.out
              have hns138_2 := NB431_401.out
              have hms138_0 := NB401_397.out
              have hms138_2 := NB401_431.out
              have hs139 : w137.cell? ⟨gb401, 1, none⟩ = some (.int .i64 0) := (blk_cell BK401.out 1).trans rfl
              have hfs139 := blk_frozen BK401.out 1
              have hns139_0 := NB397_401.out
              have hns139_2 := NB431_401.out
              have hms139_0 := NB401_397.out
              have hms139_2 := NB401_431.out
              have hs140 : w137.cell? ⟨gb401, 2, none⟩ = some (.string (⟨#[]⟩ : ByteArray)) := (blk_cell BK401.out 2).trans rfl
              have hfs140 := blk_frozen BK401.out 2
              have hns140_0 := NB397_401.out
              have hns140_2 := NB431_401.out
              have hms140_0 := NB401_397.out
              have hms140_2 := NB401_431.out
              have hs141 : w137.cell? ⟨gb401, 3, none⟩ = some (.int .i64 0) := (blk_cell BK401.out 3).trans rfl
              have hfs141 := blk_frozen BK401.out 3
              have hns141_0 := NB397_401.out
              have hns141_2 := NB431_401.out
              have hms141_0 := NB401_397.out
              have hms141_2 := NB401_431.out
              have hs142 : w137.cell? ⟨gb401, 4, none⟩ = some (.int .i64 0) := (blk_cell BK401.out 4).trans rfl
              have hfs142 := blk_frozen BK401.out 4
              have hns142_0 := NB397_401.out
              have hns142_2 := NB431_401.out
              have hms142_0 := NB401_397.out
              have hms142_2 := NB401_431.out
              have hs143 : w137.cell? ⟨gb401, 5, none⟩ = some (.int .i64 0) := (blk_cell BK401.out 5).trans rfl
              have hfs143 := blk_frozen BK401.out 5
              have hns143_0 := NB397_401.out
              have hns143_2 := NB431_401.out
              have hms143_0 := NB401_397.out
              have hms143_2 := NB401_431.out
              have hs144 : w137.cell? ⟨gb401, 6, none⟩ = some (.int .i64 0) := (blk_cell BK401.out 6).trans rfl
              have hfs144 := blk_frozen BK401.out 6
              have hns144_0 := NB397_401.out
              have hns144_2 := NB431_401.out
              have hms144_0 := NB401_397.out
              have hms144_2 := NB401_431.out
              have hs145 : w137.cell? ⟨gb401, 7, none⟩ = some (.int .i64 0) := (blk_cell BK401.out 7).trans rfl
              have hfs145 := blk_frozen BK401.out 7
              have hns145_0 := NB397_401.out
              have hns145_2 := NB431_401.out
              have hms145_0 := NB401_397.out
              have hms145_2 := NB401_431.out
              refine skip_ (w1 := ?_) (by rfl) rfl ?_ ?_
              rotate_left
              ·go_simp
               rfl
              have hne_ : ad427.block ≠ gb401 := Kd.own_blk (Kd.R_ne HO_4.out BK401.out v9_0)
              refine hK.out _ _ ⟨(far8 NB431_401.out hHeld.1), (far8 NB431_401.out hHeld.2.1), (far8 hne_ hHeld.2.2.1), (far8 hne_ hHeld.2.2.2)⟩ (fun hHeld => ?_)
              clear hK K
              refine done_ (done_of HT_.out (by kernel_rfl)) ?_
              have hnb146 := NB397_401.out
              have hnc146 := NB401_397.out
              obtain ⟨hcz147_0, hcz147_1, hcz147_2, hcz147_3, hcz147_4, hcz147_5, hcz147_6, hcz147_7, hfz147_0, hfz147_1, hfz147_2, hfz147_3, hfz147_4, hfz147_5, hfz147_6, hfz147_7⟩ := cf8 BK397.out
              try go_wp2
              refine bodyPost_ret (results_ct rfl _ _ gb397 38 #[.string (⟨#[]⟩ : ByteArray), .int .i64 0, .string (⟨#[]⟩ : ByteArray), .int .i64 0, .int .i64 0, .int .i64 0, .int .i64 0, .int .i64 0] (0, 0) _ rfl u9_2 Tryd.underlying38 rfl (by kernel_rfl)) rfl ?_
              exact ⟨by first | rfl | (simp [*] <;> rfl), s9_1⟩
             ·rw [if_neg c129] at H
              have c129b0 : (a0.toList == ([] : List UInt8)) = false := beq_eq_false_iff_ne.mpr c129
              have c129b1 : (a0.toList != ([] : List UInt8)) = true := bne_iff_ne.mpr c129
              replace H := ob H
              obtain ⟨t434, A1480, H⟩ := H
              replace H : (if t434.toList = a0.toList then (some (rdOf ByteArray.empty t398 1, 3, rdOf ByteArray.empty t398 3, t428, t429, 0, 0, 0, true)) else (some ((⟨#[]⟩ : ByteArray), 0, (⟨#[]⟩ : ByteArray), 0, 0, 0, 0, 0, false))) = some (r1, r2, r3, r4, r5, r6, r7, r8, r9) := H
              have A148 := am A1480
              clear A1480
              by_cases c149 : t434.toList = a0.toList
              ·rw [if_pos c149] at H
               have c149b0 : (t434.toList == a0.toList) = true := beq_iff_eq.mpr c149
               have c149b1 : (t434.toList != a0.toList) = false := bne_eq_false_iff_eq.mpr c149
               clear c149
               simp only [Option.some.injEq, Prod.mk.injEq] at H
               obtain ⟨rfl, rfl, rfl, rfl, rfl, rfl, rfl, rfl, rfl⟩ := H
               obtain ⟨Ao150, co150, eo150⟩ := Kd.R_slice HO_4.out
               subst eo150
               have p427 : 0 ≤ (5 : Int) := (by omega)
               have q427 : 5 < (t398.length : Int) := od u9_24
               obtain ⟨ad427, e427, hx427_0⟩ := Kd.at_string (Kd.R_reads' HO_4.out).2.2 5 p427 q427
               cases e427
               (try simp only [show (5 : Int).toNat = 5 from rfl, Nat.reduceMul, Nat.reduceEqDiff, Go.Addr.add, ↓reduceIte] at hx427_0)
               have qi427 : (5 < t398.length) = True := eq_true (by omega)
               (try rw [show ((5 : Int)).toNat = 5 from rfl] at hx427_0)
               replace p427 := eq_true p427
               replace q427 := eq_true q427
               try go_wp2_with (first | ((with_reducible refine gate_callee (f := 53) rfl ?_); refine goesL_ (some 106) rfl rfl Tryd.func53 (by kernel_rfl) rfl #[.string (rdOf ByteArray.empty t398 5)] rfl u9_13 ?_; (with_reducible refine (impl_ParsePlace.calls kj118 (rdOf ByteArray.empty t398 5) t428 t429 t430 _ A126.out).mono ?_); rintro e w151 ⟨rfl, hb⟩; refine ⟨_, rfl, ?_⟩; have n0_ := am (Kd.R_below u9_9 hb); have n1_ := am (blk_below (g := gb397) (o := zo3 (⟨#[]⟩ : ByteArray) 0 (⟨#[]⟩ : ByteArray) 0 0 0 0 0) u9_5 hb); have n2_ := am (blk_below (g := gb401) (o := zo3 (⟨#[]⟩ : ByteArray) 0 (⟨#[]⟩ : ByteArray) 0 0 0 0 0) u9_6 hb); have n3_ := am (below_step u9_4 hb); clear HO_4 BK397 BK401 HB; have HO_4 := n0_; have BK397 := n1_; have BK401 := n2_; have HB := n3_; clear n0_ n1_ n2_ n3_; (try clear hb); (try clear hb2); (try clear hk); (try clear hi)) | ((with_reducible refine gate_dst (N := 16) rfl ?_); refine box_event ?hg (N := 16) ?hd (cs := #[.int .i64 0, .int .i64 0]) (t := 36) ?hr ?_; (case hd => rfl); (case hg => rfl); (case hr => exact gq); intro gb431 hg w152 hbox hb; have n0_ := am (Kd.R_below u9_9 hb); have n1_ := am (blk_below (g := gb397) (o := zo3 (⟨#[]⟩ : ByteArray) 0 (⟨#[]⟩ : ByteArray) 0 0 0 0 0) u9_5 hb); have n2_ := am (blk_below (g := gb401) (o := zo3 (⟨#[]⟩ : ByteArray) 0 (⟨#[]⟩ : ByteArray) 0 0 0 0 0) u9_6 hb); have n3_ := am (below_step u9_4 hb); have n4_ := am (hbox); have n5_ := bsw w hg (below_size u9_4); have n6_ := bsw w hg (below_size u9_4); have n7_ := am ((by rw [hg]; exact Nat.ne_of_lt (blk_lt (g := gb397) (o := zo3 (⟨#[]⟩ : ByteArray) 0 (⟨#[]⟩ : ByteArray) 0 0 0 0 0) u9_5) : gb397 ≠ gb431)); have n8_ := am ((by rw [hg]; exact Nat.ne_of_gt (blk_lt (g := gb397) (o := zo3 (⟨#[]⟩ : ByteArray) 0 (⟨#[]⟩ : ByteArray) 0 0 0 0 0) u9_5) : gb431 ≠ gb397)); have n9_ := am ((by rw [hg]; exact Nat.ne_of_lt (blk_lt (g := gb401) (o := zo3 (⟨#[]⟩ : ByteArray) 0 (⟨#[]⟩ : ByteArray) 0 0 0 0 0) u9_6) : gb401 ≠ gb431)); have n10_ := am ((by rw [hg]; exact Nat.ne_of_gt (blk_lt (g := gb401) (o := zo3 (⟨#[]⟩ : ByteArray) 0 (⟨#[]⟩ : ByteArray) 0 0 0 0 0) u9_6) : gb431 ≠ gb401)); clear HO_4 BK397 BK401 HB; have HO_4 := n0_; have BK397 := n1_; have BK401 := n2_; have HB := n3_; have BK431 := n4_; have GW431 := n5_; have GE431 := n6_; have NB397_431 := n7_; have NB431_397 := n8_; have NB401_431 := n9_; have NB431_401 := n10_; clear n0_ n1_ n2_ n3_ n4_ n5_ n6_ n7_ n8_ n9_ n10_ hb hbox hg; have hnb153 := NB431_397.out; have hnc153 := NB397_431.out; have hnb154 := NB431_401.out; have hnc154 := NB401_431.out; obtain ⟨hcz155_0, hcz155_1, hfz155_0, hfz155_1⟩ := cf2 BK431.out))
               have n0_ : Aside0 (Kd.R Kd.string 9 ((w152.setCell ⟨gb431, 0, none⟩ (.int .i64 t428)).setCell ⟨gb431, 1, none⟩ (.int .i64 t429)) w.heap.size (fun _ => True) (.slice (some ad427) t398.length co150) t398) := ⟨by (with_reducible repeat (first | apply Kd.R_alloc | apply Kd.R_drewN | apply Kd.R_drew)); exact Kd.R_mono (Kd.R_far (p := ⟨gb431, 1, none⟩) (Kd.R_far (p := ⟨gb431, 0, none⟩) (Kd.R_types HO_4.out BK431.out v9_0) (fun _ hk => hk.2) (.int .i64 t428)) (fun _ hk => hk.2) (.int .i64 t429)) (fun _ hk => trivial)⟩
               have n1_ : Aside0 (((w152.setCell ⟨gb431, 0, none⟩ (.int .i64 t428)).setCell ⟨gb431, 1, none⟩ (.int .i64 t429)).heap[gb397]? = some (.cells #[.string (⟨#[]⟩ : ByteArray), .int .i64 0, .string (⟨#[]⟩ : ByteArray), .int .i64 0, .int .i64 0, .int .i64 0, .int .i64 0, .int .i64 0] 38 (0, 0))) := ⟨by (with_reducible repeat (first | refine bN ?_ _ | refine bD ?_ | refine bA ?_ _)); refine blk_far ?_ NB397_431.out _; (with_reducible repeat (first | refine bN ?_ _ | refine bD ?_ | refine bA ?_ _)); refine blk_far ?_ NB397_431.out _; exact bd BK397.out⟩
               have n2_ : Aside0 (((w152.setCell ⟨gb431, 0, none⟩ (.int .i64 t428)).setCell ⟨gb431, 1, none⟩ (.int .i64 t429)).heap[gb401]? = some (.cells #[.string (⟨#[]⟩ : ByteArray), .int .i64 0, .string (⟨#[]⟩ : ByteArray), .int .i64 0, .int .i64 0, .int .i64 0, .int .i64 0, .int .i64 0] 38 (0, 0))) := ⟨by (with_reducible repeat (first | refine bN ?_ _ | refine bD ?_ | refine bA ?_ _)); refine blk_far ?_ NB401_431.out _; (with_reducible repeat (first | refine bN ?_ _ | refine bD ?_ | refine bA ?_ _)); refine blk_far ?_ NB401_431.out _; exact bd BK401.out⟩
               have n3_ : Aside0 (((w152.setCell ⟨gb431, 0, none⟩ (.int .i64 t428)).setCell ⟨gb431, 1, none⟩ (.int .i64 t429)).heap[gb431]? = some (.cells #[.int .i64 t428, .int .i64 t429] 36 (0, 0))) := ⟨by (with_reducible repeat (first | refine bN ?_ _ | refine bD ?_ | refine bA ?_ _)); refine blk_put (cs := zr4 t428 0) ?_ 1 _ rfl; refine blk_put (cs := zr4 0 0) ?_ 0 _ rfl; exact bd BK431.out⟩
               have n4_ : Aside0 (Below w.heap.size w ((w152.setCell ⟨gb431, 0, none⟩ (.int .i64 t428)).setCell ⟨gb431, 1, none⟩ (.int .i64 t429))) := ⟨s9_1⟩
               (try clear HO_4)
               (try clear BK397)
               (try clear BK401)
               (try clear BK431)
               (try clear HB)
               (try simp only [show ∀ (w_ : World) (n_ : Nat) (a_ : Addr) (v_ : Value), (w_.drewN n_).setCell a_ v_ = (w_.setCell a_ v_).drewN n_ from fun _ _ _ _ => rfl, show ∀ (w_ : World) (a_ : Addr) (v_ : Value), w_.drew.setCell a_ v_ = (w_.setCell a_ v_).drew from fun _ _ _ => rfl])
               generalize ((w152.setCell ⟨gb431, 0, none⟩ (.int .i64 t428)).setCell ⟨gb431, 1, none⟩ (.int .i64 t429)) = w156 at n0_ n1_ n2_ n3_ n4_ ⊢
               have HO_4 := n0_
               have BK397 := n1_
               have BK401 := n2_
               have BK431 := n3_
               have HB := n4_
               clear n0_ n1_ n2_ n3_ n4_
               have n0_ := am (Kd.R_drew HO_4.out)
               have n1_ := am (blk_drew BK397.out)
               have n2_ := am (blk_drew BK401.out)
               have n3_ := am (blk_drew BK431.out)
               have n4_ := am (below_drew1 HB.out)
               clear HO_4 BK397 BK401 BK431 HB
               have HO_4 := n0_
               have BK397 := n1_
               have BK401 := n2_
               have BK431 := n3_
               have HB := n4_
               clear n0_ n1_ n2_ n3_ n4_
               have p432 : 0 ≤ (1 : Int) := (by omega)
               have q432 : 1 < (t398.length : Int) := od u9_24
               obtain ⟨ad432, e432, hx432_0⟩ := Kd.at_string (Kd.R_reads' HO_4.out).2.2 1 p432 q432
               obtain rfl : ad427 = ad432 := (by injection e432)
               (try simp only [show (1 : Int).toNat = 1 from rfl, Nat.reduceMul, Nat.reduceEqDiff, Go.Addr.add, ↓reduceIte] at hx432_0)
               have qi432 : (1 < t398.length) = True := eq_true (by omega)
               (try rw [show ((1 : Int)).toNat = 1 from rfl] at hx432_0)
               replace p432 := eq_true p432
               replace q432 := eq_true q432
               have p433 : 0 ≤ (3 : Int) := (by omega)
               have q433 : 3 < (t398.length : Int) := od u9_24
               obtain ⟨ad433, e433, hx433_0⟩ := Kd.at_string (Kd.R_reads' HO_4.out).2.2 3 p433 q433
               obtain rfl : ad427 = ad433 := (by injection e433)
               (try simp only [show (3 : Int).toNat = 3 from rfl, Nat.reduceMul, Nat.reduceEqDiff, Go.Addr.add, ↓reduceIte] at hx433_0)
               have qi433 : (3 < t398.length) = True := eq_true (by omega)
               (try rw [show ((3 : Int)).toNat = 3 from rfl] at hx433_0)
               replace p433 := eq_true p433
               replace q433 := eq_true q433
               refine start_ (n := 9) (S := fun w' => zc9 w' gb431 t428 t429 (w'.cell? ⟨ad427.block, ad427.off + 1, none⟩ = some (.string (rdOf ByteArray.empty t398 1)) ∧ w'.cell? ⟨ad427.block, ad427.off + 3, none⟩ = some (.string (rdOf ByteArray.empty t398 3)))) (ds := []) mk9_1 (by kernel_rfl) rfl rfl ⟨(blk_cell BK431.out 0).trans rfl, (blk_cell BK431.out 1).trans rfl, hx432_0, hx433_0⟩ (fun hHeld => ?_); refine with_tabW impl_ParseDevice.tab14 impl_ParseDevice.bits14 (fun HT_ HW_ => ?_)
               generalize w156.drew = w157 at HO_4 BK397 BK401 BK431 HB hx432_0 hx433_0 hHeld ⊢
               refine pz 0 109 mk9_3 (any_of HT_.out (by kernel_rfl)) ?_
               refine pz 1 110 mk9_5 (any_of HT_.out (by kernel_rfl)) ?_
               refine pz 3 112 mk9_7 (any_of HT_.out (by kernel_rfl)) ?_
               refine pz 4 113 mk9_9 (any_of HT_.out (by kernel_rfl)) ?_
               refine take_ (i := 2) (N := some 111) (v := ?_) (a' := ?_) mk9_13 rfl rfl (take_ofW HT_.out HW_.out (by kernel_rfl)) (fun _ _ _ h => h) (Or.inl ⟨by rfl, ?_⟩) hHeld ?_ ?_
               rotate_left
               ·rintro w' ⟨s0, s1, s2, s3⟩
                exact gs
               rotate_left
               ·exact ap
               refine take_ (i := 5) (N := some 114) (v := ?_) (a' := ?_) mk9_15 rfl rfl (take_ofW HT_.out HW_.out (by kernel_rfl)) (fun _ _ _ h => h) (Or.inl ⟨by rfl, ?_⟩) hHeld ?_ ?_
               rotate_left
               ·rintro w' ⟨s0, s1, s2, s3⟩
                exact gs
               rotate_left
               ·exact ap
               refine take_ (i := 6) (N := some 115) (v := ?_) (a' := ?_) mk9_17 rfl rfl (take_ofW HT_.out HW_.out (by kernel_rfl)) (fun _ _ _ h => h) (Or.inl ⟨by rfl, ?_⟩) hHeld ?_ ?_
               rotate_left
               ·rintro w' ⟨s0, s1, s2, s3⟩
                exact gs
               rotate_left
               ·exact ap
               refine pz 7 116 mk9_18 (any_of HT_.out (by kernel_rfl)) ?_
               refine one_ (i := 8) (N := none) mk9_22 rfl rfl (one_of HT_.out (by kernel_rfl)) v9_0 (fun K hK => ?_)
               have hs158 : w157.cell? ⟨gb401, 0, none⟩ = some (.string (⟨#[]⟩ : ByteArray)) := (blk_cell BK401.out 0).trans rfl
               have hfs158 := blk_frozen BK401.out 0
               have hns158_0 := NB397_401.out
               have hns158_2 := NB431_401.out
               have hms158_0 := NB401_397.out
               have hms158_2 := NB401_431.out
               have hs159 : w157.cell? ⟨gb401, 1, none⟩ = some (.int .i64 0) := (blk_cell BK401.out 1).trans rfl
               have hfs159 := blk_frozen BK401.out 1
               have hns159_0 := NB397_401.out
               have hns159_2 := NB431_401.out
               have hms159_0 := NB401_397.out
               have hms159_2 := NB401_431.out
               have hs160 : w157.cell? ⟨gb401, 2, none⟩ = some (.string (⟨#[]⟩ : ByteArray)) := (blk_cell BK401.out 2).trans rfl
               have hfs160 := blk_frozen BK401.out 2
               have hns160_0 := NB397_401.out
               have hns160_2 := NB431_401.out
               have hms160_0 := NB401_397.out
               have hms160_2 := NB401_431.out
               have hs161 : w157.cell? ⟨gb401, 3, none⟩ = some (.int .i64 0) := (blk_cell BK401.out 3).trans rfl
               have hfs161 := blk_frozen BK401.out 3
               have hns161_0 := NB397_401.out
               have hns161_2 := NB431_401.out
               have hms161_0 := NB401_397.out
               have hms161_2 := NB401_431.out
               have hs162 : w157.cell? ⟨gb401, 4, none⟩ = some (.int .i64 0) := (blk_cell BK401.out 4).trans rfl
               have hfs162 := blk_frozen BK401.out 4
               have hns162_0 := NB397_401.out
               have hns162_2 := NB431_401.out
               have hms162_0 := NB401_397.out
               have hms162_2 := NB401_431.out
               have hs163 : w157.cell? ⟨gb401, 5, none⟩ = some (.int .i64 0) := (blk_cell BK401.out 5).trans rfl
               have hfs163 := blk_frozen BK401.out 5
               have hns163_0 := NB397_401.out
               have hns163_2 := NB431_401.out
               have hms163_0 := NB401_397.out
               have hms163_2 := NB401_431.out
               have hs164 : w157.cell? ⟨gb401, 6, none⟩ = some (.int .i64 0) := (blk_cell BK401.out 6).trans rfl
               have hfs164 := blk_frozen BK401.out 6
               have hns164_0 := NB397_401.out
               have hns164_2 := NB431_401.out
               have hms164_0 := NB401_397.out
               have hms164_2 := NB401_431.out
               have hs165 : w157.cell? ⟨gb401, 7, none⟩ = some (.int .i64 0) := (blk_cell BK401.out 7).trans rfl
               have hfs165 := blk_frozen BK401.out 7
               have hns165_0 := NB397_401.out
               have hns165_2 := NB431_401.out
               have hms165_0 := NB401_397.out
               have hms165_2 := NB401_431.out
               refine skip_ (w1 := ?_) (by rfl) rfl ?_ ?_
               rotate_left
               ·go_simp
                rfl
               have hne_ : ad427.block ≠ gb401 := Kd.own_blk (Kd.R_ne HO_4.out BK401.out v9_0)
               refine hK.out _ _ ⟨(far8 NB431_401.out hHeld.1), (far8 NB431_401.out hHeld.2.1), (far8 hne_ hHeld.2.2.1), (far8 hne_ hHeld.2.2.2)⟩ (fun hHeld => ?_)
               clear hK K
               refine done_ (done_of HT_.out (by kernel_rfl)) ?_
               have hnb166 := NB401_397.out
               have hnc166 := NB397_401.out
               obtain ⟨hcz167_0, hcz167_1, hcz167_2, hcz167_3, hcz167_4, hcz167_5, hcz167_6, hcz167_7, hfz167_0, hfz167_1, hfz167_2, hfz167_3, hfz167_4, hfz167_5, hfz167_6, hfz167_7⟩ := cf8 BK401.out
               try go_wp2_with (first | (go_at_call 20; (with_reducible refine (impl_FormatDevice.calls kj118 (rdOf ByteArray.empty t398 1) 3 (rdOf ByteArray.empty t398 3) t428 t429 0 0 0 t434 _ A148.out).mono ?_); rintro e w168 ⟨rfl, hb⟩; have n0_ := am (Kd.R_below u9_19 hb); have n1_ := am (blk_below (g := gb397) (o := zo3 (⟨#[]⟩ : ByteArray) 0 (⟨#[]⟩ : ByteArray) 0 0 0 0 0) u9_3 hb); have n2_ := am (blk_below (g := gb401) (o := zo3 (rdOf ByteArray.empty t398 1) 3 (rdOf ByteArray.empty t398 3) t428 t429 0 0 0) u9_11 hb); have n3_ := am (blk_below (g := gb431) (o := zo1 t428 t429) u9_14 hb); have n4_ := am (below_step u9_32 hb); clear HO_4 BK397 BK401 BK431 HB; have HO_4 := n0_; have BK397 := n1_; have BK401 := n2_; have BK431 := n3_; have HB := n4_; clear n0_ n1_ n2_ n3_ n4_; (try clear hb); (try clear hb2); (try clear hk); (try clear hi); obtain ⟨hcz169_0, hcz169_1, hcz169_2, hcz169_3, hcz169_4, hcz169_5, hcz169_6, hcz169_7, hfz169_0, hfz169_1, hfz169_2, hfz169_3, hfz169_4, hfz169_5, hfz169_6, hfz169_7⟩ := cf8 BK401.out; obtain ⟨hcz170_0, hcz170_1, hcz170_2, hcz170_3, hcz170_4, hcz170_5, hcz170_6, hcz170_7, hfz170_0, hfz170_1, hfz170_2, hfz170_3, hfz170_4, hfz170_5, hfz170_6, hfz170_7⟩ := cf8 BK397.out))
               refine bodyPost_ret (results_ct rfl _ _ gb397 38 #[.string (rdOf ByteArray.empty t398 1), .int .i64 3, .string (rdOf ByteArray.empty t398 3), .int .i64 t428, .int .i64 t429, .int .i64 0, .int .i64 0, .int .i64 0] (0, 0) _ rfl (by (with_reducible repeat (first | refine bN ?_ _ | refine bD ?_ | refine bA ?_ _)); refine blk_put (cs := zr6 (rdOf ByteArray.empty t398 1) 3 (rdOf ByteArray.empty t398 3) t428 t429 0 0 0) ?_ 7 _ rfl; refine blk_put (cs := zr6 (rdOf ByteArray.empty t398 1) 3 (rdOf ByteArray.empty t398 3) t428 t429 0 0 0) ?_ 6 _ rfl; refine blk_put (cs := zr6 (rdOf ByteArray.empty t398 1) 3 (rdOf ByteArray.empty t398 3) t428 t429 0 0 0) ?_ 5 _ rfl; refine blk_put (cs := zr6 (rdOf ByteArray.empty t398 1) 3 (rdOf ByteArray.empty t398 3) t428 0 0 0 0) ?_ 4 _ rfl; refine blk_put (cs := zr6 (rdOf ByteArray.empty t398 1) 3 (rdOf ByteArray.empty t398 3) 0 0 0 0 0) ?_ 3 _ rfl; refine blk_put (cs := zr6 (rdOf ByteArray.empty t398 1) 3 (⟨#[]⟩ : ByteArray) 0 0 0 0 0) ?_ 2 _ rfl; (with_reducible repeat (first | refine bN ?_ _ | refine bD ?_ | refine bA ?_ _)); refine blk_put (cs := zr6 (rdOf ByteArray.empty t398 1) 0 (⟨#[]⟩ : ByteArray) 0 0 0 0 0) ?_ 1 _ rfl; (with_reducible repeat (first | refine bN ?_ _ | refine bD ?_ | refine bA ?_ _)); refine blk_put (cs := zr6 (⟨#[]⟩ : ByteArray) 0 (⟨#[]⟩ : ByteArray) 0 0 0 0 0) ?_ 0 _ rfl; exact bd BK397.out) Tryd.underlying38 rfl (by kernel_rfl)) rfl ?_
               exact ⟨by first | rfl | (simp [*] <;> rfl), s9_1⟩
              ·rw [if_neg c149] at H
               have c149b0 : (t434.toList == a0.toList) = false := beq_eq_false_iff_ne.mpr c149
               have c149b1 : (t434.toList != a0.toList) = true := bne_iff_ne.mpr c149
               simp only [Option.some.injEq, Prod.mk.injEq] at H
               obtain ⟨rfl, rfl, rfl, rfl, rfl, rfl, rfl, rfl, rfl⟩ := H
               obtain ⟨Ao171, co171, eo171⟩ := Kd.R_slice HO_4.out
               subst eo171
               have p427 : 0 ≤ (5 : Int) := (by omega)
               have q427 : 5 < (t398.length : Int) := od u9_24
               obtain ⟨ad427, e427, hx427_0⟩ := Kd.at_string (Kd.R_reads' HO_4.out).2.2 5 p427 q427
               cases e427
               (try simp only [show (5 : Int).toNat = 5 from rfl, Nat.reduceMul, Nat.reduceEqDiff, Go.Addr.add, ↓reduceIte] at hx427_0)
               have qi427 : (5 < t398.length) = True := eq_true (by omega)
               (try rw [show ((5 : Int)).toNat = 5 from rfl] at hx427_0)
               replace p427 := eq_true p427
               replace q427 := eq_true q427
               try go_wp2_with (first | ((with_reducible refine gate_callee (f := 53) rfl ?_); refine goesL_ (some 106) rfl rfl Tryd.func53 (by kernel_rfl) rfl #[.string (rdOf ByteArray.empty t398 5)] rfl u9_13 ?_; (with_reducible refine (impl_ParsePlace.calls kj118 (rdOf ByteArray.empty t398 5) t428 t429 t430 _ A126.out).mono ?_); rintro e w172 ⟨rfl, hb⟩; refine ⟨_, rfl, ?_⟩; have n0_ := am (Kd.R_below u9_9 hb); have n1_ := am (blk_below (g := gb397) (o := zo3 (⟨#[]⟩ : ByteArray) 0 (⟨#[]⟩ : ByteArray) 0 0 0 0 0) u9_5 hb); have n2_ := am (blk_below (g := gb401) (o := zo3 (⟨#[]⟩ : ByteArray) 0 (⟨#[]⟩ : ByteArray) 0 0 0 0 0) u9_6 hb); have n3_ := am (below_step u9_4 hb); clear HO_4 BK397 BK401 HB; have HO_4 := n0_; have BK397 := n1_; have BK401 := n2_; have HB := n3_; clear n0_ n1_ n2_ n3_; (try clear hb); (try clear hb2); (try clear hk); (try clear hi)) | ((with_reducible refine gate_dst (N := 16) rfl ?_); refine box_event ?hg (N := 16) ?hd (cs := #[.int .i64 0, .int .i64 0]) (t := 36) ?hr ?_; (case hd => rfl); (case hg => rfl); (case hr => exact gq); intro gb431 hg w173 hbox hb; have n0_ := am (Kd.R_below u9_9 hb); have n1_ := am (blk_below (g := gb397) (o := zo3 (⟨#[]⟩ : ByteArray) 0 (⟨#[]⟩ : ByteArray) 0 0 0 0 0) u9_5 hb); have n2_ := am (blk_below (g := gb401) (o := zo3 (⟨#[]⟩ : ByteArray) 0 (⟨#[]⟩ : ByteArray) 0 0 0 0 0) u9_6 hb); have n3_ := am (below_step u9_4 hb); have n4_ := am (hbox); have n5_ := bsw w hg (below_size u9_4); have n6_ := bsw w hg (below_size u9_4); have n7_ := am ((by rw [hg]; exact Nat.ne_of_lt (blk_lt (g := gb397) (o := zo3 (⟨#[]⟩ : ByteArray) 0 (⟨#[]⟩ : ByteArray) 0 0 0 0 0) u9_5) : gb397 ≠ gb431)); have n8_ := am ((by rw [hg]; exact Nat.ne_of_gt (blk_lt (g := gb397) (o := zo3 (⟨#[]⟩ : ByteArray) 0 (⟨#[]⟩ : ByteArray) 0 0 0 0 0) u9_5) : gb431 ≠ gb397)); have n9_ := am ((by rw [hg]; exact Nat.ne_of_lt (blk_lt (g := gb401) (o := zo3 (⟨#[]⟩ : ByteArray) 0 (⟨#[]⟩ : ByteArray) 0 0 0 0 0) u9_6) : gb401 ≠ gb431)); have n10_ := am ((by rw [hg]; exact Nat.ne_of_gt (blk_lt (g := gb401) (o := zo3 (⟨#[]⟩ : ByteArray) 0 (⟨#[]⟩ : ByteArray) 0 0 0 0 0) u9_6) : gb431 ≠ gb401)); clear HO_4 BK397 BK401 HB; have HO_4 := n0_; have BK397 := n1_; have BK401 := n2_; have HB := n3_; have BK431 := n4_; have GW431 := n5_; have GE431 := n6_; have NB397_431 := n7_; have NB431_397 := n8_; have NB401_431 := n9_; have NB431_401 := n10_; clear n0_ n1_ n2_ n3_ n4_ n5_ n6_ n7_ n8_ n9_ n10_ hb hbox hg; have hnb174 := NB431_397.out; have hnc174 := NB397_431.out; have hnb175 := NB431_401.out; have hnc175 := NB401_431.out; obtain ⟨hcz176_0, hcz176_1, hfz176_0, hfz176_1⟩ := cf2 BK431.out))
               have n0_ : Aside0 (Kd.R Kd.string 9 ((w173.setCell ⟨gb431, 0, none⟩ (.int .i64 t428)).setCell ⟨gb431, 1, none⟩ (.int .i64 t429)) w.heap.size (fun _ => True) (.slice (some ad427) t398.length co171) t398) := ⟨by (with_reducible repeat (first | apply Kd.R_alloc | apply Kd.R_drewN | apply Kd.R_drew)); exact Kd.R_mono (Kd.R_far (p := ⟨gb431, 1, none⟩) (Kd.R_far (p := ⟨gb431, 0, none⟩) (Kd.R_types HO_4.out BK431.out v9_0) (fun _ hk => hk.2) (.int .i64 t428)) (fun _ hk => hk.2) (.int .i64 t429)) (fun _ hk => trivial)⟩
               have n1_ : Aside0 (((w173.setCell ⟨gb431, 0, none⟩ (.int .i64 t428)).setCell ⟨gb431, 1, none⟩ (.int .i64 t429)).heap[gb397]? = some (.cells #[.string (⟨#[]⟩ : ByteArray), .int .i64 0, .string (⟨#[]⟩ : ByteArray), .int .i64 0, .int .i64 0, .int .i64 0, .int .i64 0, .int .i64 0] 38 (0, 0))) := ⟨by (with_reducible repeat (first | refine bN ?_ _ | refine bD ?_ | refine bA ?_ _)); refine blk_far ?_ NB397_431.out _; (with_reducible repeat (first | refine bN ?_ _ | refine bD ?_ | refine bA ?_ _)); refine blk_far ?_ NB397_431.out _; exact bd BK397.out⟩
               have n2_ : Aside0 (((w173.setCell ⟨gb431, 0, none⟩ (.int .i64 t428)).setCell ⟨gb431, 1, none⟩ (.int .i64 t429)).heap[gb401]? = some (.cells #[.string (⟨#[]⟩ : ByteArray), .int .i64 0, .string (⟨#[]⟩ : ByteArray), .int .i64 0, .int .i64 0, .int .i64 0, .int .i64 0, .int .i64 0] 38 (0, 0))) := ⟨by (with_reducible repeat (first | refine bN ?_ _ | refine bD ?_ | refine bA ?_ _)); refine blk_far ?_ NB401_431.out _; (with_reducible repeat (first | refine bN ?_ _ | refine bD ?_ | refine bA ?_ _)); refine blk_far ?_ NB401_431.out _; exact bd BK401.out⟩
               have n3_ : Aside0 (((w173.setCell ⟨gb431, 0, none⟩ (.int .i64 t428)).setCell ⟨gb431, 1, none⟩ (.int .i64 t429)).heap[gb431]? = some (.cells #[.int .i64 t428, .int .i64 t429] 36 (0, 0))) := ⟨by (with_reducible repeat (first | refine bN ?_ _ | refine bD ?_ | refine bA ?_ _)); refine blk_put (cs := zr4 t428 0) ?_ 1 _ rfl; refine blk_put (cs := zr4 0 0) ?_ 0 _ rfl; exact bd BK431.out⟩
               have n4_ : Aside0 (Below w.heap.size w ((w173.setCell ⟨gb431, 0, none⟩ (.int .i64 t428)).setCell ⟨gb431, 1, none⟩ (.int .i64 t429))) := ⟨s9_1⟩
               (try clear HO_4)
               (try clear BK397)
               (try clear BK401)
               (try clear BK431)
               (try clear HB)
               (try simp only [show ∀ (w_ : World) (n_ : Nat) (a_ : Addr) (v_ : Value), (w_.drewN n_).setCell a_ v_ = (w_.setCell a_ v_).drewN n_ from fun _ _ _ _ => rfl, show ∀ (w_ : World) (a_ : Addr) (v_ : Value), w_.drew.setCell a_ v_ = (w_.setCell a_ v_).drew from fun _ _ _ => rfl])
               generalize ((w173.setCell ⟨gb431, 0, none⟩ (.int .i64 t428)).setCell ⟨gb431, 1, none⟩ (.int .i64 t429)) = w177 at n0_ n1_ n2_ n3_ n4_ ⊢
               have HO_4 := n0_
               have BK397 := n1_
               have BK401 := n2_
               have BK431 := n3_
               have HB := n4_
               clear n0_ n1_ n2_ n3_ n4_
               have n0_ := am (Kd.R_drew HO_4.out)
               have n1_ := am (blk_drew BK397.out)
               have n2_ := am (blk_drew BK401.out)
               have n3_ := am (blk_drew BK431.out)
               have n4_ := am (below_drew1 HB.out)
               clear HO_4 BK397 BK401 BK431 HB
               have HO_4 := n0_
               have BK397 := n1_
               have BK401 := n2_
               have BK431 := n3_
               have HB := n4_
               clear n0_ n1_ n2_ n3_ n4_
               have p432 : 0 ≤ (1 : Int) := (by omega)
               have q432 : 1 < (t398.length : Int) := od u9_24
               obtain ⟨ad432, e432, hx432_0⟩ := Kd.at_string (Kd.R_reads' HO_4.out).2.2 1 p432 q432
               obtain rfl : ad427 = ad432 := (by injection e432)
               (try simp only [show (1 : Int).toNat = 1 from rfl, Nat.reduceMul, Nat.reduceEqDiff, Go.Addr.add, ↓reduceIte] at hx432_0)
               have qi432 : (1 < t398.length) = True := eq_true (by omega)
               (try rw [show ((1 : Int)).toNat = 1 from rfl] at hx432_0)
               replace p432 := eq_true p432
               replace q432 := eq_true q432
               have p433 : 0 ≤ (3 : Int) := (by omega)
               have q433 : 3 < (t398.length : Int) := od u9_24
               obtain ⟨ad433, e433, hx433_0⟩ := Kd.at_string (Kd.R_reads' HO_4.out).2.2 3 p433 q433
               obtain rfl : ad427 = ad433 := (by injection e433)
               (try simp only [show (3 : Int).toNat = 3 from rfl, Nat.reduceMul, Nat.reduceEqDiff, Go.Addr.add, ↓reduceIte] at hx433_0)
               have qi433 : (3 < t398.length) = True := eq_true (by omega)
               (try rw [show ((3 : Int)).toNat = 3 from rfl] at hx433_0)
               replace p433 := eq_true p433
               replace q433 := eq_true q433
               refine start_ (n := 9) (S := fun w' => zc9 w' gb431 t428 t429 (w'.cell? ⟨ad427.block, ad427.off + 1, none⟩ = some (.string (rdOf ByteArray.empty t398 1)) ∧ w'.cell? ⟨ad427.block, ad427.off + 3, none⟩ = some (.string (rdOf ByteArray.empty t398 3)))) (ds := []) mk9_1 (by kernel_rfl) rfl rfl ⟨(blk_cell BK431.out 0).trans rfl, (blk_cell BK431.out 1).trans rfl, hx432_0, hx433_0⟩ (fun hHeld => ?_); refine with_tabW impl_ParseDevice.tab14 impl_ParseDevice.bits14 (fun HT_ HW_ => ?_)
               generalize w177.drew = w178 at HO_4 BK397 BK401 BK431 HB hx432_0 hx433_0 hHeld ⊢
               refine pz 0 109 mk9_3 (any_of HT_.out (by kernel_rfl)) ?_
               refine pz 1 110 mk9_5 (any_of HT_.out (by kernel_rfl)) ?_
               refine pz 3 112 mk9_7 (any_of HT_.out (by kernel_rfl)) ?_
               refine pz 4 113 mk9_9 (any_of HT_.out (by kernel_rfl)) ?_
               refine take_ (i := 2) (N := some 111) (v := ?_) (a' := ?_) mk9_13 rfl rfl (take_ofW HT_.out HW_.out (by kernel_rfl)) (fun _ _ _ h => h) (Or.inl ⟨by rfl, ?_⟩) hHeld ?_ ?_
               rotate_left
               ·rintro w' ⟨s0, s1, s2, s3⟩
                exact gs
               rotate_left
               ·exact ap
               refine take_ (i := 5) (N := some 114) (v := ?_) (a' := ?_) mk9_15 rfl rfl (take_ofW HT_.out HW_.out (by kernel_rfl)) (fun _ _ _ h => h) (Or.inl ⟨by rfl, ?_⟩) hHeld ?_ ?_
               rotate_left
               ·rintro w' ⟨s0, s1, s2, s3⟩
                exact gs
               rotate_left
               ·exact ap
               refine take_ (i := 6) (N := some 115) (v := ?_) (a' := ?_) mk9_17 rfl rfl (take_ofW HT_.out HW_.out (by kernel_rfl)) (fun _ _ _ h => h) (Or.inl ⟨by rfl, ?_⟩) hHeld ?_ ?_
               rotate_left
               ·rintro w' ⟨s0, s1, s2, s3⟩
                exact gs
               rotate_left
               ·exact ap
               refine pz 7 116 mk9_18 (any_of HT_.out (by kernel_rfl)) ?_
               refine one_ (i := 8) (N := none) mk9_22 rfl rfl (one_of HT_.out (by kernel_rfl)) v9_0 (fun K hK => ?_)
               have hs179 : w178.cell? ⟨gb401, 0, none⟩ = some (.string (⟨#[]⟩ : ByteArray)) := (blk_cell BK401.out 0).trans rfl
               have hfs179 := blk_frozen BK401.out 0
               have hns179_0 := NB397_401.out
               have hns179_2 := NB431_401.out
               have hms179_0 := NB401_397.out
               have hms179_2 := NB401_431.out
               have hs180 : w178.cell? ⟨gb401, 1, none⟩ = some (.int .i64 0) := (blk_cell BK401.out 1).trans rfl
               have hfs180 := blk_frozen BK401.out 1
               have hns180_0 := NB397_401.out
               have hns180_2 := NB431_401.out
               have hms180_0 := NB401_397.out
               have hms180_2 := NB401_431.out
               have hs181 : w178.cell? ⟨gb401, 2, none⟩ = some (.string (⟨#[]⟩ : ByteArray)) := (blk_cell BK401.out 2).trans rfl
               have hfs181 := blk_frozen BK401.out 2
               have hns181_0 := NB397_401.out
               have hns181_2 := NB431_401.out
               have hms181_0 := NB401_397.out
               have hms181_2 := NB401_431.out
               have hs182 : w178.cell? ⟨gb401, 3, none⟩ = some (.int .i64 0) := (blk_cell BK401.out 3).trans rfl
               have hfs182 := blk_frozen BK401.out 3
               have hns182_0 := NB397_401.out
               have hns182_2 := NB431_401.out
               have hms182_0 := NB401_397.out
               have hms182_2 := NB401_431.out
               have hs183 : w178.cell? ⟨gb401, 4, none⟩ = some (.int .i64 0) := (blk_cell BK401.out 4).trans rfl
               have hfs183 := blk_frozen BK401.out 4
               have hns183_0 := NB397_401.out
               have hns183_2 := NB431_401.out
               have hms183_0 := NB401_397.out
               have hms183_2 := NB401_431.out
               have hs184 : w178.cell? ⟨gb401, 5, none⟩ = some (.int .i64 0) := (blk_cell BK401.out 5).trans rfl
               have hfs184 := blk_frozen BK401.out 5
               have hns184_0 := NB397_401.out
               have hns184_2 := NB431_401.out
               have hms184_0 := NB401_397.out
               have hms184_2 := NB401_431.out
               have hs185 : w178.cell? ⟨gb401, 6, none⟩ = some (.int .i64 0) := (blk_cell BK401.out 6).trans rfl
               have hfs185 := blk_frozen BK401.out 6
               have hns185_0 := NB397_401.out
               have hns185_2 := NB431_401.out
               have hms185_0 := NB401_397.out
               have hms185_2 := NB401_431.out
               have hs186 : w178.cell? ⟨gb401, 7, none⟩ = some (.int .i64 0) := (blk_cell BK401.out 7).trans rfl
               have hfs186 := blk_frozen BK401.out 7
               have hns186_0 := NB397_401.out
               have hns186_2 := NB431_401.out
               have hms186_0 := NB401_397.out
               have hms186_2 := NB401_431.out
               refine skip_ (w1 := ?_) (by rfl) rfl ?_ ?_
               rotate_left
               ·go_simp
                rfl
               have hne_ : ad427.block ≠ gb401 := Kd.own_blk (Kd.R_ne HO_4.out BK401.out v9_0)
               refine hK.out _ _ ⟨(far8 NB431_401.out hHeld.1), (far8 NB431_401.out hHeld.2.1), (far8 hne_ hHeld.2.2.1), (far8 hne_ hHeld.2.2.2)⟩ (fun hHeld => ?_)
               clear hK K
               refine done_ (done_of HT_.out (by kernel_rfl)) ?_
               have hnb187 := NB401_397.out
               have hnc187 := NB397_401.out
               obtain ⟨hcz188_0, hcz188_1, hcz188_2, hcz188_3, hcz188_4, hcz188_5, hcz188_6, hcz188_7, hfz188_0, hfz188_1, hfz188_2, hfz188_3, hfz188_4, hfz188_5, hfz188_6, hfz188_7⟩ := cf8 BK401.out
               try go_wp2_with (first | (go_at_call 20; (with_reducible refine (impl_FormatDevice.calls kj118 (rdOf ByteArray.empty t398 1) 3 (rdOf ByteArray.empty t398 3) t428 t429 0 0 0 t434 _ A148.out).mono ?_); rintro e w189 ⟨rfl, hb⟩; have n0_ := am (Kd.R_below u9_19 hb); have n1_ := am (blk_below (g := gb397) (o := zo3 (⟨#[]⟩ : ByteArray) 0 (⟨#[]⟩ : ByteArray) 0 0 0 0 0) u9_3 hb); have n2_ := am (blk_below (g := gb401) (o := zo3 (rdOf ByteArray.empty t398 1) 3 (rdOf ByteArray.empty t398 3) t428 t429 0 0 0) u9_11 hb); have n3_ := am (blk_below (g := gb431) (o := zo1 t428 t429) u9_14 hb); have n4_ := am (below_step u9_32 hb); clear HO_4 BK397 BK401 BK431 HB; have HO_4 := n0_; have BK397 := n1_; have BK401 := n2_; have BK431 := n3_; have HB := n4_; clear n0_ n1_ n2_ n3_ n4_; (try clear hb); (try clear hb2); (try clear hk); (try clear hi); obtain ⟨hcz190_0, hcz190_1, hcz190_2, hcz190_3, hcz190_4, hcz190_5, hcz190_6, hcz190_7, hfz190_0, hfz190_1, hfz190_2, hfz190_3, hfz190_4, hfz190_5, hfz190_6, hfz190_7⟩ := cf8 BK397.out))
               refine bodyPost_ret (results_ct rfl _ _ gb397 38 #[.string (⟨#[]⟩ : ByteArray), .int .i64 0, .string (⟨#[]⟩ : ByteArray), .int .i64 0, .int .i64 0, .int .i64 0, .int .i64 0, .int .i64 0] (0, 0) _ rfl u9_1 Tryd.underlying38 rfl (by kernel_rfl)) rfl ?_
               exact ⟨by first | rfl | (simp [*] <;> rfl), s9_1⟩
            ·rw [if_neg c128] at H
             exact absurd H (by simp)
           ·rw [if_neg c127] at H
            exact absurd H (by simp)
          ·rw [if_neg c125] at H
           exact absurd H (by simp)
         ·replace c124 := Bool.eq_false_iff.mpr c124
          subst c124
          have H1 : (if a0.toList = ([] : List UInt8) then (some ((⟨#[]⟩ : ByteArray), 0, (⟨#[]⟩ : ByteArray), 0, 0, 0, 0, 0, false)) else ((impl_FormatDevice.f kj118 (⟨#[]⟩ : ByteArray) 0 (⟨#[]⟩ : ByteArray) 0 0 0 0 0).bind fun t435 => (if t435.toList = a0.toList then (some ((⟨#[]⟩ : ByteArray), 0, (⟨#[]⟩ : ByteArray), 0, 0, 0, 0, 0, true)) else (some ((⟨#[]⟩ : ByteArray), 0, (⟨#[]⟩ : ByteArray), 0, 0, 0, 0, 0, false))))) = some (r1, r2, r3, r4, r5, r6, r7, r8, r9) := by rw [if_neg (show ¬ (false = true) by decide)] at H; exact H
          clear H
          have H := H1
          clear H1
          by_cases c191 : a0.toList = ([] : List UInt8)
          ·rw [if_pos c191] at H
           have c191b0 : (a0.toList == ([] : List UInt8)) = true := beq_iff_eq.mpr c191
           have c191b1 : (a0.toList != ([] : List UInt8)) = false := bne_eq_false_iff_eq.mpr c191
           clear c191
           simp only [Option.some.injEq, Prod.mk.injEq] at H
           obtain ⟨rfl, rfl, rfl, rfl, rfl, rfl, rfl, rfl, rfl⟩ := H
           have hnb192 := NB397_401.out
           have hnc192 := NB401_397.out
           obtain ⟨hcz193_0, hcz193_1, hcz193_2, hcz193_3, hcz193_4, hcz193_5, hcz193_6, hcz193_7, hfz193_0, hfz193_1, hfz193_2, hfz193_3, hfz193_4, hfz193_5, hfz193_6, hfz193_7⟩ := cf8 BK397.out
           go_wp2
           refine bodyPost_ret (results_ct rfl _ _ gb397 38 #[.string (⟨#[]⟩ : ByteArray), .int .i64 0, .string (⟨#[]⟩ : ByteArray), .int .i64 0, .int .i64 0, .int .i64 0, .int .i64 0, .int .i64 0] (0, 0) _ rfl u9_1 Tryd.underlying38 rfl (by kernel_rfl)) rfl ?_
           exact ⟨by first | rfl | (simp [*] <;> rfl), s9_2⟩
          ·rw [if_neg c191] at H
           have c191b0 : (a0.toList == ([] : List UInt8)) = false := beq_eq_false_iff_ne.mpr c191
           have c191b1 : (a0.toList != ([] : List UInt8)) = true := bne_iff_ne.mpr c191
           replace H := ob H
           obtain ⟨t435, A1940, H⟩ := H
           replace H : (if t435.toList = a0.toList then (some ((⟨#[]⟩ : ByteArray), 0, (⟨#[]⟩ : ByteArray), 0, 0, 0, 0, 0, true)) else (some ((⟨#[]⟩ : ByteArray), 0, (⟨#[]⟩ : ByteArray), 0, 0, 0, 0, 0, false))) = some (r1, r2, r3, r4, r5, r6, r7, r8, r9) := H
           have A194 := am A1940
           clear A1940
           by_cases c195 : t435.toList = a0.toList
           ·rw [if_pos c195] at H
            have c195b0 : (t435.toList == a0.toList) = true := beq_iff_eq.mpr c195
            have c195b1 : (t435.toList != a0.toList) = false := bne_eq_false_iff_eq.mpr c195
            clear c195
            simp only [Option.some.injEq, Prod.mk.injEq] at H
            obtain ⟨rfl, rfl, rfl, rfl, rfl, rfl, rfl, rfl, rfl⟩ := H
            have hnb196 := NB401_397.out
            have hnc196 := NB397_401.out
            obtain ⟨hcz197_0, hcz197_1, hcz197_2, hcz197_3, hcz197_4, hcz197_5, hcz197_6, hcz197_7, hfz197_0, hfz197_1, hfz197_2, hfz197_3, hfz197_4, hfz197_5, hfz197_6, hfz197_7⟩ := cf8 BK401.out
            go_wp2_with (first | (go_at_call 20; (with_reducible refine (impl_FormatDevice.calls kj118 (⟨#[]⟩ : ByteArray) 0 (⟨#[]⟩ : ByteArray) 0 0 0 0 0 t435 _ A194.out).mono ?_); rintro e w198 ⟨rfl, hb⟩; have n0_ := am (Kd.R_below u9_9 hb); have n1_ := am (blk_below (g := gb397) (o := zo3 (⟨#[]⟩ : ByteArray) 0 (⟨#[]⟩ : ByteArray) 0 0 0 0 0) u9_5 hb); have n2_ := am (blk_below (g := gb401) (o := zo3 (⟨#[]⟩ : ByteArray) 0 (⟨#[]⟩ : ByteArray) 0 0 0 0 0) u9_6 hb); have n3_ := am (below_step u9_4 hb); clear HO_4 BK397 BK401 HB; have HO_4 := n0_; have BK397 := n1_; have BK401 := n2_; have HB := n3_; clear n0_ n1_ n2_ n3_; (try clear hb); (try clear hb2); (try clear hk); (try clear hi); obtain ⟨hcz199_0, hcz199_1, hcz199_2, hcz199_3, hcz199_4, hcz199_5, hcz199_6, hcz199_7, hfz199_0, hfz199_1, hfz199_2, hfz199_3, hfz199_4, hfz199_5, hfz199_6, hfz199_7⟩ := cf8 BK401.out; obtain ⟨hcz200_0, hcz200_1, hcz200_2, hcz200_3, hcz200_4, hcz200_5, hcz200_6, hcz200_7, hfz200_0, hfz200_1, hfz200_2, hfz200_3, hfz200_4, hfz200_5, hfz200_6, hfz200_7⟩ := cf8 BK397.out))
            refine bodyPost_ret (results_ct rfl _ _ gb397 38 #[.string (⟨#[]⟩ : ByteArray), .int .i64 0, .string (⟨#[]⟩ : ByteArray), .int .i64 0, .int .i64 0, .int .i64 0, .int .i64 0, .int .i64 0] (0, 0) _ rfl u9_1 Tryd.underlying38 rfl (by kernel_rfl)) rfl ?_
            exact ⟨by first | rfl | (simp [*] <;> rfl), s9_2⟩
           ·rw [if_neg c195] at H
            have c195b0 : (t435.toList == a0.toList) = false := beq_eq_false_iff_ne.mpr c195
            have c195b1 : (t435.toList != a0.toList) = true := bne_iff_ne.mpr c195
            simp only [Option.some.injEq, Prod.mk.injEq] at H
            obtain ⟨rfl, rfl, rfl, rfl, rfl, rfl, rfl, rfl, rfl⟩ := H
            have hnb201 := NB401_397.out
            have hnc201 := NB397_401.out
            obtain ⟨hcz202_0, hcz202_1, hcz202_2, hcz202_3, hcz202_4, hcz202_5, hcz202_6, hcz202_7, hfz202_0, hfz202_1, hfz202_2, hfz202_3, hfz202_4, hfz202_5, hfz202_6, hfz202_7⟩ := cf8 BK401.out
            go_wp2_with (first | (go_at_call 20; (with_reducible refine (impl_FormatDevice.calls kj118 (⟨#[]⟩ : ByteArray) 0 (⟨#[]⟩ : ByteArray) 0 0 0 0 0 t435 _ A194.out).mono ?_); rintro e w203 ⟨rfl, hb⟩; have n0_ := am (Kd.R_below u9_9 hb); have n1_ := am (blk_below (g := gb397) (o := zo3 (⟨#[]⟩ : ByteArray) 0 (⟨#[]⟩ : ByteArray) 0 0 0 0 0) u9_5 hb); have n2_ := am (blk_below (g := gb401) (o := zo3 (⟨#[]⟩ : ByteArray) 0 (⟨#[]⟩ : ByteArray) 0 0 0 0 0) u9_6 hb); have n3_ := am (below_step u9_4 hb); clear HO_4 BK397 BK401 HB; have HO_4 := n0_; have BK397 := n1_; have BK401 := n2_; have HB := n3_; clear n0_ n1_ n2_ n3_; (try clear hb); (try clear hb2); (try clear hk); (try clear hi); obtain ⟨hcz204_0, hcz204_1, hcz204_2, hcz204_3, hcz204_4, hcz204_5, hcz204_6, hcz204_7, hfz204_0, hfz204_1, hfz204_2, hfz204_3, hfz204_4, hfz204_5, hfz204_6, hfz204_7⟩ := cf8 BK397.out))
            refine bodyPost_ret (results_ct rfl _ _ gb397 38 #[.string (⟨#[]⟩ : ByteArray), .int .i64 0, .string (⟨#[]⟩ : ByteArray), .int .i64 0, .int .i64 0, .int .i64 0, .int .i64 0, .int .i64 0] (0, 0) _ rfl u9_1 Tryd.underlying38 rfl (by kernel_rfl)) rfl ?_
            exact ⟨by first | rfl | (simp [*] <;> rfl), s9_2⟩

end Go.Proofs.YthofcclbkihemaaDoor.MFnDeviceText
