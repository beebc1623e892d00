-- Written by a program for this claim.
import Derived.Laws.Cover1
import Derived.Test.YtkedcokhcgklpaaMFnRigx0
import Derived.Test.YtkedcokhcgklpaaMFnRigx5
import Derived.Test.YtkedcokhcgklpaaMFnRigx6
import Derived.Test.YtkedcokhcgklpaaMFnRigx8
import Derived.Test.YtkedcokhcgklpaaMFnRigx9
namespace Go.Proofs.Ytkedcokhcgklpaa.MFnRig
open Go.RowKit Go.Proofs.YtkedcokhcgklpaaW.PrintWords Go.Proofs.YtkedcokhcgklpaaW.PrintLast Go.Proofs.YtkedcokhcgklpaaW.PrintMore
attribute [local go_sem] max2_int min2_int max_two min_two max_three min_three max_four min_four   -- for this text's walks alone
set_option linter.unusedVariables false
set_option linter.unusedSimpArgs false

theorem s10_0 {p : Prop} (h : p := by repeat (first | (with_reducible first | exact HB.out | apply below_alloc | apply pw_below_drewN | apply below_drew1 | refine below_set ?_ GE220.out | refine below_set ?_ GE232.out) | exact HB.out)) : p := h
theorem s10_1 {p : Prop} (h : p := by repeat (first | (with_reducible first | exact HB.out | apply below_alloc | apply pw_below_drewN | apply below_drew1 | refine below_set ?_ (IsS95.ge HI0.out)) | exact HB.out)) : p := h
theorem s10_2 {p : Prop} (h : p := by repeat (first | (with_reducible first | exact HI0.out | apply IsS95.alloc | apply IsS95.drewN | apply IsS95.drew | apply IsS95.set_1 | apply IsS95.set_2) | exact HI0.out)) : p := h
theorem s10_3 {p : Prop} (h : p := by repeat (first | (with_reducible first | exact HB.out | apply below_alloc | apply pw_below_drewN | apply below_drew1 | refine below_set ?_ GE220.out) | exact HB.out)) : p := h
theorem s10_4 {p : Prop} (h : p := by repeat (first | (with_reducible first | exact HK.out | apply KeepBut.set_ | apply keep_drewN | apply keep_drew | apply keep_alloc) | exact HK.out)) : p := h
theorem y10_0 {p : Prop} (h : p := by repeat (first | exact (Kd.C_below HR0.out HB.out) | (with_reducible refine Kd.C_alloc ?_ _) | (with_reducible refine Kd.C_drewN ?_ _) | (with_reducible refine Kd.C_drew ?_))) : p := h
theorem u10_0 {p : Prop} (h : p := by (with_reducible repeat (first | refine blk_drewN ?_ _ | refine blk_drew ?_ | refine blk_alloc ?_ _)); refine blk_put (cs := #[.string ((rd_T30 l0 x41_2).f0), .int .i64 ((rd_T30 l0 x41_2).f1), .string ((rd_T30 l0 x41_2).f2), .int .i64 ((rd_T30 l0 x41_2).f3.f0), .int .i64 ((rd_T30 l0 x41_2).f3.f1), .int .i64 ((rd_T30 l0 x41_2).f4), .int .i64 ((rd_T30 l0 x41_2).f5), .int .i64 0]) ?_ 7 _ rfl; refine blk_put (cs := #[.string ((rd_T30 l0 x41_2).f0), .int .i64 ((rd_T30 l0 x41_2).f1), .string ((rd_T30 l0 x41_2).f2), .int .i64 ((rd_T30 l0 x41_2).f3.f0), .int .i64 ((rd_T30 l0 x41_2).f3.f1), .int .i64 ((rd_T30 l0 x41_2).f4), .int .i64 0, .int .i64 0]) ?_ 6 _ rfl; refine blk_put (cs := #[.string ((rd_T30 l0 x41_2).f0), .int .i64 ((rd_T30 l0 x41_2).f1), .string ((rd_T30 l0 x41_2).f2), .int .i64 ((rd_T30 l0 x41_2).f3.f0), .int .i64 ((rd_T30 l0 x41_2).f3.f1), .int .i64 0, .int .i64 0, .int .i64 0]) ?_ 5 _ rfl; refine blk_put (cs := #[.string ((rd_T30 l0 x41_2).f0), .int .i64 ((rd_T30 l0 x41_2).f1), .string ((rd_T30 l0 x41_2).f2), .int .i64 ((rd_T30 l0 x41_2).f3.f0), .int .i64 0, .int .i64 0, .int .i64 0, .int .i64 0]) ?_ 4 _ rfl; refine blk_put (cs := #[.string ((rd_T30 l0 x41_2).f0), .int .i64 ((rd_T30 l0 x41_2).f1), .string ((rd_T30 l0 x41_2).f2), .int .i64 0, .int .i64 0, .int .i64 0, .int .i64 0, .int .i64 0]) ?_ 3 _ rfl; refine blk_put (cs := #[.string ((rd_T30 l0 x41_2).f0), .int .i64 ((rd_T30 l0 x41_2).f1), .string (⟨#[]⟩ : ByteArray), .int .i64 0, .int .i64 0, .int .i64 0, .int .i64 0, .int .i64 0]) ?_ 2 _ rfl; (with_reducible repeat (first | refine blk_drewN ?_ _ | refine blk_drew ?_ | refine blk_alloc ?_ _)); refine blk_put (cs := #[.string ((rd_T30 l0 x41_2).f0), .int .i64 0, .string (⟨#[]⟩ : ByteArray), .int .i64 0, .int .i64 0, .int .i64 0, .int .i64 0, .int .i64 0]) ?_ 1 _ rfl; (with_reducible repeat (first | refine blk_drewN ?_ _ | refine blk_drew ?_ | refine blk_alloc ?_ _)); refine blk_put (cs := #[.string (⟨#[]⟩ : ByteArray), .int .i64 0, .string (⟨#[]⟩ : ByteArray), .int .i64 0, .int .i64 0, .int .i64 0, .int .i64 0, .int .i64 0]) ?_ 0 _ rfl; (with_reducible repeat (first | refine blk_drewN ?_ _ | refine blk_drew ?_ | refine blk_alloc ?_ _)); exact BK232.out) : p := h
theorem u10_1 {p : Prop} (h : p := by (with_reducible repeat (first | refine blk_drewN ?_ _ | refine blk_drew ?_ | refine blk_alloc ?_ _)); refine blk_far ?_ NB220_232.out _; (with_reducible repeat (first | refine blk_drewN ?_ _ | refine blk_drew ?_ | refine blk_alloc ?_ _)); refine blk_far ?_ NB220_232.out _; (with_reducible repeat (first | refine blk_drewN ?_ _ | refine blk_drew ?_ | refine blk_alloc ?_ _)); refine blk_far ?_ NB220_232.out _; (with_reducible repeat (first | refine blk_drewN ?_ _ | refine blk_drew ?_ | refine blk_alloc ?_ _)); refine blk_far ?_ NB220_232.out _; (with_reducible repeat (first | refine blk_drewN ?_ _ | refine blk_drew ?_ | refine blk_alloc ?_ _)); refine blk_far ?_ NB220_232.out _; (with_reducible repeat (first | refine blk_drewN ?_ _ | refine blk_drew ?_ | refine blk_alloc ?_ _)); refine blk_far ?_ NB220_232.out _; (with_reducible repeat (first | refine blk_drewN ?_ _ | refine blk_drew ?_ | refine blk_alloc ?_ _)); refine blk_far ?_ NB220_232.out _; (with_reducible repeat (first | refine blk_drewN ?_ _ | refine blk_drew ?_ | refine blk_alloc ?_ _)); refine blk_far ?_ NB220_232.out _; (with_reducible repeat (first | refine blk_drewN ?_ _ | refine blk_drew ?_ | refine blk_alloc ?_ _)); exact BK220.out) : p := h
theorem u10_2 {p : Prop} (h : p := by repeat (first | (with_reducible first | exact HB.out | apply below_alloc | apply pw_below_drewN | apply below_drew1 | refine below_set ?_ GE220.out) | exact HB.out)) : p := h
theorem u10_3 {p : Prop} (h : p := by (with_reducible repeat (first | refine blk_drewN ?_ _ | refine blk_drew ?_ | refine blk_alloc ?_ _)); exact BK220.out) : p := h
theorem u10_4 {p : Prop} (h : p := by (with_reducible repeat (first | apply Kd.R_alloc | apply Kd.R_drewN | apply Kd.R_drew)); exact Kd.R_mono (Kd.R_far (p := ⟨gb232, 7, none⟩) (Kd.R_far (p := ⟨gb232, 6, none⟩) (Kd.R_far (p := ⟨gb232, 5, none⟩) (Kd.R_far (p := ⟨gb232, 4, none⟩) (Kd.R_far (p := ⟨gb232, 3, none⟩) (Kd.R_far (p := ⟨gb232, 2, none⟩) (Kd.R_far (p := ⟨gb232, 1, none⟩) (Kd.R_far (p := ⟨gb232, 0, none⟩) (Kd.R_mono HO_6.out (fun k_ hk => (⟨hk, hk.2⟩ : _ ∧ k_ ≠ gb232))) (fun _ hk => hk.2) (.string ((rd_T30 l0 x41_2).f0))) (fun _ hk => hk.2) (.int .i64 ((rd_T30 l0 x41_2).f1))) (fun _ hk => hk.2) (.string ((rd_T30 l0 x41_2).f2))) (fun _ hk => hk.2) (.int .i64 ((rd_T30 l0 x41_2).f3.f0))) (fun _ hk => hk.2) (.int .i64 ((rd_T30 l0 x41_2).f3.f1))) (fun _ hk => hk.2) (.int .i64 ((rd_T30 l0 x41_2).f4))) (fun _ hk => hk.2) (.int .i64 ((rd_T30 l0 x41_2).f5))) (fun _ hk => hk.2) (.int .i64 ((rd_T30 l0 x41_2).f6))) (fun _ hk => ⟨hk.1.1, hk.1.2⟩)) : p := h
theorem u10_5 {p : Prop} (h : p := by repeat (first | (with_reducible first | exact HB.out | apply below_alloc | apply pw_below_drewN | apply below_drew1 | refine below_set ?_ GE220.out | refine below_set ?_ GE232.out) | exact HB.out)) : p := h
theorem u10_6 {p : Prop} (h : p := by (try simp only [List.map_toArray, List.map_cons, List.map_nil]); first | done | rfl) : p := h
theorem u10_7 {p : Prop} (h : p := by repeat (first | (with_reducible first | exact HK.out | apply KeepBut.set_ | apply keep_drewN | apply keep_drew | apply keep_alloc) | exact HK.out)) : p := h
theorem u10_8 {p : Prop} (h : p := by first | rfl | (simp; done) | (simp [*]; done)) : p := h
theorem u10_9 {p : Prop} (h : p := by (with_reducible repeat (first | apply Kd.R_alloc | apply Kd.R_drewN | apply Kd.R_drew)); exact HO_6.out) : p := h
theorem u10_10 {p : Prop} (h : p := by repeat (first | (with_reducible first | exact HB.out | apply below_alloc | apply pw_below_drewN | apply below_drew1) | exact HB.out)) : p := h
theorem blU_irr : ∀ x, Op.bytesLess x x = false
 | [] => rfl
 | a :: x => by
  simp only [Op.bytesLess, blU_irr x, Bool.and_false, Bool.or_false, decide_eq_false_iff_not]
  exact UInt8.lt_irrefl a
theorem blU_tri : ∀ x y, Op.bytesLess x y = false → Op.bytesLess y x = false → x = y
 | [], [], _, _ => rfl
 | [], _ :: _, h, _ => by simp [Op.bytesLess] at h
 | _ :: _, [], _, h => by simp [Op.bytesLess] at h
 | a :: x, b :: y, h, h' => by
  simp only [Op.bytesLess, Bool.or_eq_false_iff, decide_eq_false_iff_not] at h h'
  have hab : a = b := by
   have h1 := h.1; have h2 := h'.1
   exact UInt8.le_antisymm (UInt8.not_lt.1 h2) (UInt8.not_lt.1 h1)
  subst hab
  simp only [beq_self_eq_true, Bool.true_and] at h h'
  rw [blU_tri x y h.2 h'.2]
theorem blU_ne {x y : List UInt8} (h : Op.bytesLess y x = true) : (x == y) = false := by
 refine beq_eq_false_iff_ne.2 (fun e => ?_)
 rw [e, blU_irr] at h; cases h
theorem blU_eq {x y : List UInt8} (h : Op.bytesLess y x = false) (h' : Op.bytesLess x y = false) : (x == y) = true := by
 rw [blU_tri x y h' h]; exact beq_self_eq_true _

theorem blU_asym : ∀ x y, Op.bytesLess x y = true → Op.bytesLess y x = false
 | [], [], _ => rfl
 | _ :: _, [], h => by simp [Op.bytesLess] at h
 | [], _ :: _, _ => rfl
 | a :: x, b :: y, h => by
  simp only [Op.bytesLess, Bool.or_eq_true, decide_eq_true_eq, Bool.and_eq_true, beq_iff_eq] at h
  simp only [Op.bytesLess, Bool.or_eq_false_iff, decide_eq_false_iff_not, Bool.and_eq_false_iff, beq_eq_false_iff_ne]
  rcases h with h | ⟨h, h2⟩
  ·exact ⟨fun c => UInt8.lt_irrefl a (UInt8.lt_trans h c), .inl (fun c => by subst c; exact UInt8.lt_irrefl _ h)⟩
  ·subst h; exact ⟨UInt8.lt_irrefl a, .inr (blU_asym x y h2)⟩
theorem blU_leF {x y : List UInt8} (h : Op.bytesLess x y = true) : (Op.bytesLess y x || y == x) = false := by
 rw [blU_asym x y h, blU_ne h, Bool.or_false]
theorem blU_leT {x y : List UInt8} (h : Op.bytesLess x y = false) : (Op.bytesLess y x || y == x) = true := by
 cases h' : Op.bytesLess y x
 ·rw [blU_tri x y h h', beq_self_eq_true, Bool.or_true]
 ·rw [Bool.true_or]

mutual
def spec_AddDevice.j0 : Nat → List (S30) → Bool → ByteArray → Int → ByteArray → Int → Int → Int → Int → Int → Option ((List (S30)) × Bool)
 | 0, _, _, _, _, _, _, _, _, _, _ => none
 | k + 1, x0, x35, x221000, x221001, x221002, x221003, x221004, x221005, x221006, x221007 => if x35 = true then ((spec_l6Copies.f x0).bind fun t225 => (some (t225, false))) else (spec_AddDevice.l0 k (([] : List (S30))) false x0 (x0.length : Int) 0 x221000 x221001 x221002 x221003 x221004 x221005 x221006 x221007)
def spec_AddDevice.l0 : Nat → List (S30) → Bool → List (S30) → Int → Int → ByteArray → Int → ByteArray → Int → Int → Int → Int → Int → Option ((List (S30)) × Bool)
 | 0, _, _, _, _, _, _, _, _, _, _, _, _, _ => none
 | k + 1, x6, x7, x39, x40, x41, x221000, x221001, x221002, x221003, x221004, x221005, x221006, x221007 => if x41 < x40 then (if 0 ≤ x41 then (if x41 < (x39.length : Int) then (if x7 = true then (if x6.length < 1759218604441 then (spec_AddDevice.l0 k (x6 ++ [(⟨(rd_T30 x39 x41).f0, (rd_T30 x39 x41).f1, (rd_T30 x39 x41).f2, (⟨(rd_T30 x39 x41).f3.f0, (rd_T30 x39 x41).f3.f1⟩ : S28), (rd_T30 x39 x41).f4, (rd_T30 x39 x41).f5, (rd_T30 x39 x41).f6⟩ : S30)]) x7 x39 x40 (wrap64 (x41 + 1)) x221000 x221001 x221002 x221003 x221004 x221005 x221006 x221007) else (none)) else (if (Op.bytesLess x221000.toList (((rd_T30 x39 x41).f0).toList)) = true then (if x6.length < 1759218604441 then ((some (x6 ++ [(⟨x221000, x221001, x221002, (⟨x221003, x221004⟩ : S28), x221005, x221006, x221007⟩ : S30)] : List (S30))).bind fun y236 => (if y236.length < 1759218604441 then (spec_AddDevice.l0 k (y236 ++ [(⟨(rd_T30 x39 x41).f0, (rd_T30 x39 x41).f1, (rd_T30 x39 x41).f2, (⟨(rd_T30 x39 x41).f3.f0, (rd_T30 x39 x41).f3.f1⟩ : S28), (rd_T30 x39 x41).f4, (rd_T30 x39 x41).f5, (rd_T30 x39 x41).f6⟩ : S30)]) true x39 x40 (wrap64 (x41 + 1)) x221000 x221001 x221002 x221003 x221004 x221005 x221006 x221007) else (none))) else (none)) else (if x6.length < 1759218604441 then (spec_AddDevice.l0 k (x6 ++ [(⟨(rd_T30 x39 x41).f0, (rd_T30 x39 x41).f1, (rd_T30 x39 x41).f2, (⟨(rd_T30 x39 x41).f3.f0, (rd_T30 x39 x41).f3.f1⟩ : S28), (rd_T30 x39 x41).f4, (rd_T30 x39 x41).f5, (rd_T30 x39 x41).f6⟩ : S30)]) x7 x39 x40 (wrap64 (x41 + 1)) x221000 x221001 x221002 x221003 x221004 x221005 x221006 x221007) else (none)))) else (none)) else (none)) else (if x7 = true then (some (x6, true)) else (if x6.length < 1759218604441 then (some ((x6 ++ [(⟨x221000, x221001, x221002, (⟨x221003, x221004⟩ : S28), x221005, x221006, x221007⟩ : S30)]), true)) else (none)))
end
def spec_AddDevice.f (k : Nat) (l0 : List (S30)) (a1_0 : ByteArray) (a1_1 : Int) (a1_2 : ByteArray) (a1_3 : Int) (a1_4 : Int) (a1_5 : Int) (a1_6 : Int) (a1_7 : Int) : Option ((List (S30)) × Bool) := (spec_IsRig.f k l0).bind fun t221 => (if t221 = true then ((spec_IsDevice.f k a1_0 a1_1 a1_2 a1_3 a1_4 a1_5 a1_6 a1_7).bind fun t222 => (if t222 = true then ((spec_FindDevice.f k l0 a1_0).bind fun t223 => (if t223 ≥ 0 then (spec_AddDevice.j0 k l0 true a1_0 a1_1 a1_2 a1_3 a1_4 a1_5 a1_6 a1_7) else (if (l0.length : Int) = 8 then (spec_AddDevice.j0 k l0 true a1_0 a1_1 a1_2 a1_3 a1_4 a1_5 a1_6 a1_7) else ((spec_l6Hangs.f k l0 a1_0 a1_1 a1_2 a1_3 a1_4 a1_5 a1_6 a1_7).bind fun t224 => (spec_AddDevice.j0 k l0 (!t224) a1_0 a1_1 a1_2 a1_3 a1_4 a1_5 a1_6 a1_7))))) else (spec_AddDevice.j0 k l0 true a1_0 a1_1 a1_2 a1_3 a1_4 a1_5 a1_6 a1_7))) else (spec_AddDevice.j0 k l0 true a1_0 a1_1 a1_2 a1_3 a1_4 a1_5 a1_6 a1_7))
theorem spec_AddDevice.mono_l : ∀ k, (∀ y0 y1 y2 y3 y4 y5 y6 y7 y8 y9, LeO (spec_AddDevice.j0 k y0 y1 y2 y3 y4 y5 y6 y7 y8 y9) (spec_AddDevice.j0 (k + 1) y0 y1 y2 y3 y4 y5 y6 y7 y8 y9)) ∧ (∀ y0 y1 y2 y3 y4 y5 y6 y7 y8 y9 y10 y11 y12, LeO (spec_AddDevice.l0 k y0 y1 y2 y3 y4 y5 y6 y7 y8 y9 y10 y11 y12) (spec_AddDevice.l0 (k + 1) y0 y1 y2 y3 y4 y5 y6 y7 y8 y9 y10 y11 y12))
 | 0 => ⟨fun _ _ _ _ _ _ _ _ _ _ r h => by simp [spec_AddDevice.j0] at h, fun _ _ _ _ _ _ _ _ _ _ _ _ _ r h => by simp [spec_AddDevice.l0] at h⟩
 | k + 1 => by
  obtain ⟨ih0, ih1⟩ := spec_AddDevice.mono_l k
  refine ⟨?_, ?_⟩
  ·intro y0 y1 y2 y3 y4 y5 y6 y7 y8 y9
   unfold spec_AddDevice.j0
   repeat' first
   | (with_reducible exact ih0 _ _ _ _ _ _ _ _ _ _)
   | (with_reducible exact ih1 _ _ _ _ _ _ _ _ _ _ _ _ _)
   | (with_reducible exact spec_FindDevice.mono _ _ _)
   | (with_reducible exact spec_IsDevice.mono _ _ _ _ _ _ _ _ _)
   | (with_reducible exact spec_IsRig.mono _ _)
   | (with_reducible exact spec_l6Hangs.mono _ _ _ _ _ _ _ _ _ _)
   | (with_reducible exact LeO.refl _)
   | (with_reducible exact LeO.none _)
   | (with_reducible refine LeO.ite ?_ ?_)
   | (with_reducible refine LeO.bind ?_ (fun _ => ?_))
  ·intro y0 y1 y2 y3 y4 y5 y6 y7 y8 y9 y10 y11 y12
   unfold spec_AddDevice.l0
   repeat' first
   | (with_reducible exact ih0 _ _ _ _ _ _ _ _ _ _)
   | (with_reducible exact ih1 _ _ _ _ _ _ _ _ _ _ _ _ _)
   | (with_reducible exact spec_FindDevice.mono _ _ _)
   | (with_reducible exact spec_IsDevice.mono _ _ _ _ _ _ _ _ _)
   | (with_reducible exact spec_IsRig.mono _ _)
   | (with_reducible exact spec_l6Hangs.mono _ _ _ _ _ _ _ _ _ _)
   | (with_reducible exact LeO.refl _)
   | (with_reducible exact LeO.none _)
   | (with_reducible refine LeO.ite ?_ ?_)
   | (with_reducible refine LeO.bind ?_ (fun _ => ?_))
theorem spec_AddDevice.mono : ∀ a0 a1 a2 a3 a4 a5 a6 a7 a8 k, LeO (spec_AddDevice.f k a0 a1 a2 a3 a4 a5 a6 a7 a8) (spec_AddDevice.f (k + 1) a0 a1 a2 a3 a4 a5 a6 a7 a8) := by
 intro a0 a1 a2 a3 a4 a5 a6 a7 a8 k
 obtain ⟨ih0, ih1⟩ := spec_AddDevice.mono_l k
 unfold spec_AddDevice.f
 repeat' first
   | (with_reducible exact ih0 _ _ _ _ _ _ _ _ _ _)
   | (with_reducible exact ih1 _ _ _ _ _ _ _ _ _ _ _ _ _)
   | (with_reducible exact spec_FindDevice.mono _ _ _)
   | (with_reducible exact spec_IsDevice.mono _ _ _ _ _ _ _ _ _)
   | (with_reducible exact spec_IsRig.mono _ _)
   | (with_reducible exact spec_l6Hangs.mono _ _ _ _ _ _ _ _ _ _)
   | (with_reducible exact LeO.refl _)
   | (with_reducible exact LeO.none _)
   | (with_reducible refine LeO.ite ?_ ?_)
   | (with_reducible refine LeO.bind ?_ (fun _ => ?_))
set_option maxHeartbeats 8000000 in
set_option maxRecDepth 100000 in
theorem spec_AddDevice.calls (k : Nat) (A0 : Option Addr) (c0 : Nat) (l0 : List (S30)) (a1_0 : ByteArray) (a1_1 : Int) (a1_2 : ByteArray) (a1_3 : Int) (a1_4 : Int) (a1_5 : Int) (a1_6 : Int) (a1_7 : Int) (r1 : List (S30)) (r2 : Bool) (w : World) (hr0 : Kd.C k30 w A0 l0.length l0) (hc0 : l0.length ≤ c0) (h : spec_AddDevice.f k l0 a1_0 a1_1 a1_2 a1_3 a1_4 a1_5 a1_6 a1_7 = some (r1, r2)) :
  Calls Try.prog 47 #[.slice A0 l0.length c0, .agg #[.string a1_0, .int .i64 a1_1, .string a1_2, .int .i64 a1_3, .int .i64 a1_4, .int .i64 a1_5, .int .i64 a1_6, .int .i64 a1_7]] w fun e w' => ∃ v0_ : Value, e = .returned (.tuple #[v0_, .bool r2]) ∧ Kd.R k30 30 w' w.heap.size (fun _ => True) v0_ r1 ∧ Below w.heap.size w w' := by
 have hu30 := Try.underlying30
 have HR0 := Aside0.mk hr0
 have HC0 := Aside0.mk hc0
 clear hr0 hc0
 have HB := Aside0.mk (Below.refl w.heap.size w)
 have H : ((spec_IsRig.f k l0).bind fun t221 => (if t221 = true then ((spec_IsDevice.f k a1_0 a1_1 a1_2 a1_3 a1_4 a1_5 a1_6 a1_7).bind fun t222 => (if t222 = true then ((spec_FindDevice.f k l0 a1_0).bind fun t223 => (if t223 ≥ 0 then (spec_AddDevice.j0 k l0 true a1_0 a1_1 a1_2 a1_3 a1_4 a1_5 a1_6 a1_7) else (if (l0.length : Int) = 8 then (spec_AddDevice.j0 k l0 true a1_0 a1_1 a1_2 a1_3 a1_4 a1_5 a1_6 a1_7) else ((spec_l6Hangs.f k l0 a1_0 a1_1 a1_2 a1_3 a1_4 a1_5 a1_6 a1_7).bind fun t224 => (spec_AddDevice.j0 k l0 (!t224) a1_0 a1_1 a1_2 a1_3 a1_4 a1_5 a1_6 a1_7))))) else (spec_AddDevice.j0 k l0 true a1_0 a1_1 a1_2 a1_3 a1_4 a1_5 a1_6 a1_7))) else (spec_AddDevice.j0 k l0 true a1_0 a1_1 a1_2 a1_3 a1_4 a1_5 a1_6 a1_7))) = some (r1, r2) := h
 clear h
 have HC3 := Aside0.mk H
 clear H
 go_enter Try.func47, Try.ntmps47
 go_upto_region 1 with (first | ((with_reducible refine gate_dst (N := 3) rfl ?_); (try (refine gate_guard (by rfl) ?_; dsimp only)); refine box_event ?hg (N := 3) ?hd (cs := #[.string a1_0, .int .i64 a1_1, .string a1_2, .int .i64 a1_3, .int .i64 a1_4, .int .i64 a1_5, .int .i64 a1_6, .int .i64 a1_7]) (t := 30) ?hr ?_; (case hd => rfl); (case hg => rfl); (case hr => exact gq); intro gb220 hg w4 hbox hb; have n0_ := Aside0.mk (below_step u10_10 hb); have n1_ := Aside0.mk (hbox); have n2_ := bsw w hg (below_size u10_10); have n3_ := bsw w hg (below_size u10_10); clear HB; have HB := n0_; have BK220 := n1_; have GW220 := n2_; have GE220 := n3_; clear n0_ n1_ n2_ n3_; clear hb hbox hg))
 (try simp only [Act.put, List.setIfInBounds_toArray, List.set_cons_zero, List.set_cons_succ])
 go_cut [35] (fun v35 wc => ∃ (kq : Nat) (x35_2 : Bool), v35 = .bool x35_2 ∧ Aside0 (spec_AddDevice.j0 kq l0 x35_2 a1_0 a1_1 a1_2 a1_3 a1_4 a1_5 a1_6 a1_7 = some (r1, r2)) ∧ Aside0 (kq ≤ k) ∧ Aside0 (wc.heap[gb220]? = some (.cells #[.string a1_0, .int .i64 a1_1, .string a1_2, .int .i64 a1_3, .int .i64 a1_4, .int .i64 a1_5, .int .i64 a1_6, .int .i64 a1_7] 30 (0, 0))) ∧ Aside0 (Below w.heap.size w wc))
 case first =>
  have H := HC3.out
  clear HC3
  replace H := Option.bind_eq_some_iff.mp H
  obtain ⟨t221, A50, H⟩ := H
  replace H : (if t221 = true then ((spec_IsDevice.f k a1_0 a1_1 a1_2 a1_3 a1_4 a1_5 a1_6 a1_7).bind fun t222 => (if t222 = true then ((spec_FindDevice.f k l0 a1_0).bind fun t223 => (if t223 ≥ 0 then (spec_AddDevice.j0 k l0 true a1_0 a1_1 a1_2 a1_3 a1_4 a1_5 a1_6 a1_7) else (if (l0.length : Int) = 8 then (spec_AddDevice.j0 k l0 true a1_0 a1_1 a1_2 a1_3 a1_4 a1_5 a1_6 a1_7) else ((spec_l6Hangs.f k l0 a1_0 a1_1 a1_2 a1_3 a1_4 a1_5 a1_6 a1_7).bind fun t224 => (spec_AddDevice.j0 k l0 (!t224) a1_0 a1_1 a1_2 a1_3 a1_4 a1_5 a1_6 a1_7))))) else (spec_AddDevice.j0 k l0 true a1_0 a1_1 a1_2 a1_3 a1_4 a1_5 a1_6 a1_7))) else (spec_AddDevice.j0 k l0 true a1_0 a1_1 a1_2 a1_3 a1_4 a1_5 a1_6 a1_7)) = some (r1, r2) := H
  have A5 := Aside0.mk A50
  clear A50
  by_cases c6 : t221 = true
  ·subst c6
   have H1 : ((spec_IsDevice.f k a1_0 a1_1 a1_2 a1_3 a1_4 a1_5 a1_6 a1_7).bind fun t222 => (if t222 = true then ((spec_FindDevice.f k l0 a1_0).bind fun t223 => (if t223 ≥ 0 then (spec_AddDevice.j0 k l0 true a1_0 a1_1 a1_2 a1_3 a1_4 a1_5 a1_6 a1_7) else (if (l0.length : Int) = 8 then (spec_AddDevice.j0 k l0 true a1_0 a1_1 a1_2 a1_3 a1_4 a1_5 a1_6 a1_7) else ((spec_l6Hangs.f k l0 a1_0 a1_1 a1_2 a1_3 a1_4 a1_5 a1_6 a1_7).bind fun t224 => (spec_AddDevice.j0 k l0 (!t224) a1_0 a1_1 a1_2 a1_3 a1_4 a1_5 a1_6 a1_7))))) else (spec_AddDevice.j0 k l0 true a1_0 a1_1 a1_2 a1_3 a1_4 a1_5 a1_6 a1_7))) = some (r1, r2) := by rw [if_pos rfl] at H; exact H
   clear H
   have H := H1
   clear H1
   replace H := Option.bind_eq_some_iff.mp H
   obtain ⟨t222, A70, H⟩ := H
   replace H : (if t222 = true then ((spec_FindDevice.f k l0 a1_0).bind fun t223 => (if t223 ≥ 0 then (spec_AddDevice.j0 k l0 true a1_0 a1_1 a1_2 a1_3 a1_4 a1_5 a1_6 a1_7) else (if (l0.length : Int) = 8 then (spec_AddDevice.j0 k l0 true a1_0 a1_1 a1_2 a1_3 a1_4 a1_5 a1_6 a1_7) else ((spec_l6Hangs.f k l0 a1_0 a1_1 a1_2 a1_3 a1_4 a1_5 a1_6 a1_7).bind fun t224 => (spec_AddDevice.j0 k l0 (!t224) a1_0 a1_1 a1_2 a1_3 a1_4 a1_5 a1_6 a1_7))))) else (spec_AddDevice.j0 k l0 true a1_0 a1_1 a1_2 a1_3 a1_4 a1_5 a1_6 a1_7)) = some (r1, r2) := H
   have A7 := Aside0.mk A70
   clear A70
   by_cases c8 : t222 = true
   ·subst c8
    have H1 : ((spec_FindDevice.f k l0 a1_0).bind fun t223 => (if t223 ≥ 0 then (spec_AddDevice.j0 k l0 true a1_0 a1_1 a1_2 a1_3 a1_4 a1_5 a1_6 a1_7) else (if (l0.length : Int) = 8 then (spec_AddDevice.j0 k l0 true a1_0 a1_1 a1_2 a1_3 a1_4 a1_5 a1_6 a1_7) else ((spec_l6Hangs.f k l0 a1_0 a1_1 a1_2 a1_3 a1_4 a1_5 a1_6 a1_7).bind fun t224 => (spec_AddDevice.j0 k l0 (!t224) a1_0 a1_1 a1_2 a1_3 a1_4 a1_5 a1_6 a1_7))))) = some (r1, r2) := by rw [if_pos rfl] at H; exact H
    clear H
    have H := H1
    clear H1
    replace H := Option.bind_eq_some_iff.mp H
    obtain ⟨t223, A90, H⟩ := H
    replace H : (if t223 ≥ 0 then (spec_AddDevice.j0 k l0 true a1_0 a1_1 a1_2 a1_3 a1_4 a1_5 a1_6 a1_7) else (if (l0.length : Int) = 8 then (spec_AddDevice.j0 k l0 true a1_0 a1_1 a1_2 a1_3 a1_4 a1_5 a1_6 a1_7) else ((spec_l6Hangs.f k l0 a1_0 a1_1 a1_2 a1_3 a1_4 a1_5 a1_6 a1_7).bind fun t224 => (spec_AddDevice.j0 k l0 (!t224) a1_0 a1_1 a1_2 a1_3 a1_4 a1_5 a1_6 a1_7)))) = some (r1, r2) := H
    have A9 := Aside0.mk A90
    clear A90
    by_cases c10 : t223 ≥ 0
    ·rw [if_pos c10] at H
     have c10b0 : decide (0 ≤ t223) = true := decide_eq_true c10
     clear c10
     (first | rw [c10b0] | (simp only [i64_w, i32_w]; rw [c10b0]) | skip)
     have H' := Aside0.mk H
     clear H
     go_wp2_with (first | ((with_reducible refine gate_callee (f := 24) rfl ?_); refine goesL_ (some 11) rfl rfl Try.func24 (by kernel_rfl) rfl #[.slice A0 l0.length c0] rfl u10_6 ?_; (with_reducible refine (spec_IsRig.calls k _ _ l0 true _ ?side1 ?side2 A5.out).mono ?_); (case side1 => exact y10_0); (case side2 => exact HC0.out); rintro e w11 ⟨rfl, hb⟩; refine ⟨_, rfl, ?_⟩; have n0_ := Aside0.mk (blk_below (g := gb220) (o := .cells #[.string a1_0, .int .i64 a1_1, .string a1_2, .int .i64 a1_3, .int .i64 a1_4, .int .i64 a1_5, .int .i64 a1_6, .int .i64 a1_7] 30 (0, 0)) u10_3 hb); have n1_ := Aside0.mk (below_step u10_2 hb); clear BK220; clear HB; have BK220 := n0_; have HB := n1_; clear n0_ n1_; (try clear hb); (try clear hb2); (try clear hk); (try clear hi); obtain ⟨hcz12_0, hcz12_1, hcz12_2, hcz12_3, hcz12_4, hcz12_5, hcz12_6, hcz12_7, hfz12_0, hfz12_1, hfz12_2, hfz12_3, hfz12_4, hfz12_5, hfz12_6, hfz12_7⟩ := cf8 BK220.out) | (go_at_call 16; (with_reducible refine (spec_IsDevice.calls k a1_0 a1_1 a1_2 a1_3 a1_4 a1_5 a1_6 a1_7 true _ A7.out).mono ?_); rintro e w13 ⟨rfl, hb⟩; have n0_ := Aside0.mk (blk_below (g := gb220) (o := .cells #[.string a1_0, .int .i64 a1_1, .string a1_2, .int .i64 a1_3, .int .i64 a1_4, .int .i64 a1_5, .int .i64 a1_6, .int .i64 a1_7] 30 (0, 0)) u10_3 hb); have n1_ := Aside0.mk (below_step u10_2 hb); clear BK220; clear HB; have BK220 := n0_; have HB := n1_; clear n0_ n1_; (try clear hb); (try clear hb2); (try clear hk); (try clear hi); obtain ⟨hcz14_0, hcz14_1, hcz14_2, hcz14_3, hcz14_4, hcz14_5, hcz14_6, hcz14_7, hfz14_0, hfz14_1, hfz14_2, hfz14_3, hfz14_4, hfz14_5, hfz14_6, hfz14_7⟩ := cf8 BK220.out) | (go_at_call 20; (with_reducible refine (spec_FindDevice.calls k _ _ l0 a1_0 t223 _ ?side1 ?side2 A9.out).mono ?_); (case side1 => exact y10_0); (case side2 => exact HC0.out); rintro e w15 ⟨rfl, hb⟩; have n0_ := Aside0.mk (blk_below (g := gb220) (o := .cells #[.string a1_0, .int .i64 a1_1, .string a1_2, .int .i64 a1_3, .int .i64 a1_4, .int .i64 a1_5, .int .i64 a1_6, .int .i64 a1_7] 30 (0, 0)) u10_3 hb); have n1_ := Aside0.mk (below_step u10_2 hb); clear BK220; clear HB; have BK220 := n0_; have HB := n1_; clear n0_ n1_; (try clear hb); (try clear hb2); (try clear hk); (try clear hi)))
     go_meet
     case rel => exact ⟨_, (true), u10_8, H', ⟨by first | omega | exact Nat.le_refl _⟩, ⟨by (with_reducible repeat (first | refine blk_drewN ?_ _ | refine blk_drew ?_ | refine blk_alloc ?_ _)); exact BK220.out⟩, ⟨s10_3⟩⟩
    ·rw [if_neg c10] at H
     have c10b0 : decide (0 ≤ t223) = false := decide_eq_false c10
     clear c10
     (first | rw [c10b0] | (simp only [i64_w, i32_w]; rw [c10b0]) | skip)
     by_cases c16 : (l0.length : Int) = 8
     ·rw [if_pos c16] at H
      have c16b0 : ((l0.length : Int) == 8) = true := beq_iff_eq.mpr c16
      have c16b1 : ((l0.length : Int) != 8) = false := bne_eq_false_iff_eq.mpr c16
      clear c16
      have H' := Aside0.mk H
      clear H
      go_wp2_with (first | ((with_reducible refine gate_callee (f := 24) rfl ?_); refine goesL_ (some 11) rfl rfl Try.func24 (by kernel_rfl) rfl #[.slice A0 l0.length c0] rfl u10_6 ?_; (with_reducible refine (spec_IsRig.calls k _ _ l0 true _ ?side1 ?side2 A5.out).mono ?_); (case side1 => exact y10_0); (case side2 => exact HC0.out); rintro e w17 ⟨rfl, hb⟩; refine ⟨_, rfl, ?_⟩; have n0_ := Aside0.mk (blk_below (g := gb220) (o := .cells #[.string a1_0, .int .i64 a1_1, .string a1_2, .int .i64 a1_3, .int .i64 a1_4, .int .i64 a1_5, .int .i64 a1_6, .int .i64 a1_7] 30 (0, 0)) u10_3 hb); have n1_ := Aside0.mk (below_step u10_2 hb); clear BK220; clear HB; have BK220 := n0_; have HB := n1_; clear n0_ n1_; (try clear hb); (try clear hb2); (try clear hk); (try clear hi); obtain ⟨hcz18_0, hcz18_1, hcz18_2, hcz18_3, hcz18_4, hcz18_5, hcz18_6, hcz18_7, hfz18_0, hfz18_1, hfz18_2, hfz18_3, hfz18_4, hfz18_5, hfz18_6, hfz18_7⟩ := cf8 BK220.out) | (go_at_call 16; (with_reducible refine (spec_IsDevice.calls k a1_0 a1_1 a1_2 a1_3 a1_4 a1_5 a1_6 a1_7 true _ A7.out).mono ?_); rintro e w19 ⟨rfl, hb⟩; have n0_ := Aside0.mk (blk_below (g := gb220) (o := .cells #[.string a1_0, .int .i64 a1_1, .string a1_2, .int .i64 a1_3, .int .i64 a1_4, .int .i64 a1_5, .int .i64 a1_6, .int .i64 a1_7] 30 (0, 0)) u10_3 hb); have n1_ := Aside0.mk (below_step u10_2 hb); clear BK220; clear HB; have BK220 := n0_; have HB := n1_; clear n0_ n1_; (try clear hb); (try clear hb2); (try clear hk); (try clear hi); obtain ⟨hcz20_0, hcz20_1, hcz20_2, hcz20_3, hcz20_4, hcz20_5, hcz20_6, hcz20_7, hfz20_0, hfz20_1, hfz20_2, hfz20_3, hfz20_4, hfz20_5, hfz20_6, hfz20_7⟩ := cf8 BK220.out) | (go_at_call 20; (with_reducible refine (spec_FindDevice.calls k _ _ l0 a1_0 t223 _ ?side1 ?side2 A9.out).mono ?_); (case side1 => exact y10_0); (case side2 => exact HC0.out); rintro e w21 ⟨rfl, hb⟩; have n0_ := Aside0.mk (blk_below (g := gb220) (o := .cells #[.string a1_0, .int .i64 a1_1, .string a1_2, .int .i64 a1_3, .int .i64 a1_4, .int .i64 a1_5, .int .i64 a1_6, .int .i64 a1_7] 30 (0, 0)) u10_3 hb); have n1_ := Aside0.mk (below_step u10_2 hb); clear BK220; clear HB; have BK220 := n0_; have HB := n1_; clear n0_ n1_; (try clear hb); (try clear hb2); (try clear hk); (try clear hi)))
      go_meet
      case rel => exact ⟨_, (true), u10_8, H', ⟨by first | omega | exact Nat.le_refl _⟩, ⟨by (with_reducible repeat (first | refine blk_drewN ?_ _ | refine blk_drew ?_ | refine blk_alloc ?_ _)); exact BK220.out⟩, ⟨s10_3⟩⟩
     ·rw [if_neg c16] at H
      have c16b0 : ((l0.length : Int) == 8) = false := beq_eq_false_iff_ne.mpr c16
      have c16b1 : ((l0.length : Int) != 8) = true := bne_iff_ne.mpr c16
      replace H := Option.bind_eq_some_iff.mp H
      obtain ⟨t224, A220, H⟩ := H
      replace H : (spec_AddDevice.j0 k l0 (!t224) a1_0 a1_1 a1_2 a1_3 a1_4 a1_5 a1_6 a1_7) = some (r1, r2) := H
      have A22 := Aside0.mk A220
      clear A220
      have H' := Aside0.mk H
      clear H
      go_wp2_with (first | ((with_reducible refine gate_callee (f := 24) rfl ?_); refine goesL_ (some 11) rfl rfl Try.func24 (by kernel_rfl) rfl #[.slice A0 l0.length c0] rfl u10_6 ?_; (with_reducible refine (spec_IsRig.calls k _ _ l0 true _ ?side1 ?side2 A5.out).mono ?_); (case side1 => exact y10_0); (case side2 => exact HC0.out); rintro e w23 ⟨rfl, hb⟩; refine ⟨_, rfl, ?_⟩; have n0_ := Aside0.mk (blk_below (g := gb220) (o := .cells #[.string a1_0, .int .i64 a1_1, .string a1_2, .int .i64 a1_3, .int .i64 a1_4, .int .i64 a1_5, .int .i64 a1_6, .int .i64 a1_7] 30 (0, 0)) u10_3 hb); have n1_ := Aside0.mk (below_step u10_2 hb); clear BK220; clear HB; have BK220 := n0_; have HB := n1_; clear n0_ n1_; (try clear hb); (try clear hb2); (try clear hk); (try clear hi); obtain ⟨hcz24_0, hcz24_1, hcz24_2, hcz24_3, hcz24_4, hcz24_5, hcz24_6, hcz24_7, hfz24_0, hfz24_1, hfz24_2, hfz24_3, hfz24_4, hfz24_5, hfz24_6, hfz24_7⟩ := cf8 BK220.out) | (go_at_call 16; (with_reducible refine (spec_IsDevice.calls k a1_0 a1_1 a1_2 a1_3 a1_4 a1_5 a1_6 a1_7 true _ A7.out).mono ?_); rintro e w25 ⟨rfl, hb⟩; have n0_ := Aside0.mk (blk_below (g := gb220) (o := .cells #[.string a1_0, .int .i64 a1_1, .string a1_2, .int .i64 a1_3, .int .i64 a1_4, .int .i64 a1_5, .int .i64 a1_6, .int .i64 a1_7] 30 (0, 0)) u10_3 hb); have n1_ := Aside0.mk (below_step u10_2 hb); clear BK220; clear HB; have BK220 := n0_; have HB := n1_; clear n0_ n1_; (try clear hb); (try clear hb2); (try clear hk); (try clear hi); obtain ⟨hcz26_0, hcz26_1, hcz26_2, hcz26_3, hcz26_4, hcz26_5, hcz26_6, hcz26_7, hfz26_0, hfz26_1, hfz26_2, hfz26_3, hfz26_4, hfz26_5, hfz26_6, hfz26_7⟩ := cf8 BK220.out) | (go_at_call 20; (with_reducible refine (spec_FindDevice.calls k _ _ l0 a1_0 t223 _ ?side1 ?side2 A9.out).mono ?_); (case side1 => exact y10_0); (case side2 => exact HC0.out); rintro e w27 ⟨rfl, hb⟩; have n0_ := Aside0.mk (blk_below (g := gb220) (o := .cells #[.string a1_0, .int .i64 a1_1, .string a1_2, .int .i64 a1_3, .int .i64 a1_4, .int .i64 a1_5, .int .i64 a1_6, .int .i64 a1_7] 30 (0, 0)) u10_3 hb); have n1_ := Aside0.mk (below_step u10_2 hb); clear BK220; clear HB; have BK220 := n0_; have HB := n1_; clear n0_ n1_; (try clear hb); (try clear hb2); (try clear hk); (try clear hi); obtain ⟨hcz28_0, hcz28_1, hcz28_2, hcz28_3, hcz28_4, hcz28_5, hcz28_6, hcz28_7, hfz28_0, hfz28_1, hfz28_2, hfz28_3, hfz28_4, hfz28_5, hfz28_6, hfz28_7⟩ := cf8 BK220.out) | (go_at_call 64; (with_reducible refine (spec_l6Hangs.calls k _ _ l0 a1_0 a1_1 a1_2 a1_3 a1_4 a1_5 a1_6 a1_7 t224 _ ?side1 ?side2 A22.out).mono ?_); (case side1 => exact y10_0); (case side2 => exact HC0.out); rintro e w29 ⟨rfl, hb⟩; have n0_ := Aside0.mk (blk_below (g := gb220) (o := .cells #[.string a1_0, .int .i64 a1_1, .string a1_2, .int .i64 a1_3, .int .i64 a1_4, .int .i64 a1_5, .int .i64 a1_6, .int .i64 a1_7] 30 (0, 0)) u10_3 hb); have n1_ := Aside0.mk (below_step u10_2 hb); clear BK220; clear HB; have BK220 := n0_; have HB := n1_; clear n0_ n1_; (try clear hb); (try clear hb2); (try clear hk); (try clear hi)))
      go_meet
      case rel => exact ⟨_, (!t224), u10_8, H', ⟨by first | omega | exact Nat.le_refl _⟩, ⟨by (with_reducible repeat (first | refine blk_drewN ?_ _ | refine blk_drew ?_ | refine blk_alloc ?_ _)); exact BK220.out⟩, ⟨s10_3⟩⟩
   ·replace c8 := Bool.eq_false_iff.mpr c8
    subst c8
    have H1 : (spec_AddDevice.j0 k l0 true a1_0 a1_1 a1_2 a1_3 a1_4 a1_5 a1_6 a1_7) = some (r1, r2) := by rw [if_neg (show ¬ (false = true) by decide)] at H; exact H
    clear H
    have H := H1
    clear H1
    have H' := Aside0.mk H
    clear H
    go_wp2_with (first | ((with_reducible refine gate_callee (f := 24) rfl ?_); refine goesL_ (some 11) rfl rfl Try.func24 (by kernel_rfl) rfl #[.slice A0 l0.length c0] rfl u10_6 ?_; (with_reducible refine (spec_IsRig.calls k _ _ l0 true _ ?side1 ?side2 A5.out).mono ?_); (case side1 => exact y10_0); (case side2 => exact HC0.out); rintro e w30 ⟨rfl, hb⟩; refine ⟨_, rfl, ?_⟩; have n0_ := Aside0.mk (blk_below (g := gb220) (o := .cells #[.string a1_0, .int .i64 a1_1, .string a1_2, .int .i64 a1_3, .int .i64 a1_4, .int .i64 a1_5, .int .i64 a1_6, .int .i64 a1_7] 30 (0, 0)) u10_3 hb); have n1_ := Aside0.mk (below_step u10_2 hb); clear BK220; clear HB; have BK220 := n0_; have HB := n1_; clear n0_ n1_; (try clear hb); (try clear hb2); (try clear hk); (try clear hi); obtain ⟨hcz31_0, hcz31_1, hcz31_2, hcz31_3, hcz31_4, hcz31_5, hcz31_6, hcz31_7, hfz31_0, hfz31_1, hfz31_2, hfz31_3, hfz31_4, hfz31_5, hfz31_6, hfz31_7⟩ := cf8 BK220.out) | (go_at_call 16; (with_reducible refine (spec_IsDevice.calls k a1_0 a1_1 a1_2 a1_3 a1_4 a1_5 a1_6 a1_7 false _ A7.out).mono ?_); rintro e w32 ⟨rfl, hb⟩; have n0_ := Aside0.mk (blk_below (g := gb220) (o := .cells #[.string a1_0, .int .i64 a1_1, .string a1_2, .int .i64 a1_3, .int .i64 a1_4, .int .i64 a1_5, .int .i64 a1_6, .int .i64 a1_7] 30 (0, 0)) u10_3 hb); have n1_ := Aside0.mk (below_step u10_2 hb); clear BK220; clear HB; have BK220 := n0_; have HB := n1_; clear n0_ n1_; (try clear hb); (try clear hb2); (try clear hk); (try clear hi)))
    go_meet
    case rel => exact ⟨_, (true), u10_8, H', ⟨by first | omega | exact Nat.le_refl _⟩, ⟨by (with_reducible repeat (first | refine blk_drewN ?_ _ | refine blk_drew ?_ | refine blk_alloc ?_ _)); exact BK220.out⟩, ⟨s10_3⟩⟩
  ·replace c6 := Bool.eq_false_iff.mpr c6
   subst c6
   have H1 : (spec_AddDevice.j0 k l0 true a1_0 a1_1 a1_2 a1_3 a1_4 a1_5 a1_6 a1_7) = some (r1, r2) := by rw [if_neg (show ¬ (false = true) by decide)] at H; exact H
   clear H
   have H := H1
   clear H1
   have H' := Aside0.mk H
   clear H
   go_wp2_with (first | ((with_reducible refine gate_callee (f := 24) rfl ?_); refine goesL_ (some 11) rfl rfl Try.func24 (by kernel_rfl) rfl #[.slice A0 l0.length c0] rfl u10_6 ?_; (with_reducible refine (spec_IsRig.calls k _ _ l0 false _ ?side1 ?side2 A5.out).mono ?_); (case side1 => exact y10_0); (case side2 => exact HC0.out); rintro e w33 ⟨rfl, hb⟩; refine ⟨_, rfl, ?_⟩; have n0_ := Aside0.mk (blk_below (g := gb220) (o := .cells #[.string a1_0, .int .i64 a1_1, .string a1_2, .int .i64 a1_3, .int .i64 a1_4, .int .i64 a1_5, .int .i64 a1_6, .int .i64 a1_7] 30 (0, 0)) u10_3 hb); have n1_ := Aside0.mk (below_step u10_2 hb); clear BK220; clear HB; have BK220 := n0_; have HB := n1_; clear n0_ n1_; (try clear hb); (try clear hb2); (try clear hk); (try clear hi)))
   go_meet
   case rel => exact ⟨_, (true), u10_8, H', ⟨by first | omega | exact Nat.le_refl _⟩, ⟨by (with_reducible repeat (first | refine blk_drewN ?_ _ | refine blk_drew ?_ | refine blk_alloc ?_ _)); exact BK220.out⟩, ⟨s10_3⟩⟩
 case rest =>
  clear HC3
  try clear c1
  try clear c2
  try clear p2
  try clear c4
  try clear c6
  try clear c8
  try clear c10
  try clear c10b0
  try clear c16
  try clear c16b0
  try clear c16b1
  try clear c24
  try clear hcz12_0
  try clear hcz12_1
  try clear hcz12_2
  try clear hcz12_3
  try clear hcz12_4
  try clear hcz12_5
  try clear hcz12_6
  try clear hcz12_7
  try clear hcz14_0
  try clear hcz14_1
  try clear hcz14_2
  try clear hcz14_3
  try clear hcz14_4
  try clear hcz14_5
  try clear hcz14_6
  try clear hcz14_7
  try clear hcz18_0
  try clear hcz18_1
  try clear hcz18_2
  try clear hcz18_3
  try clear hcz18_4
  try clear hcz18_5
  try clear hcz18_6
  try clear hcz18_7
  try clear hcz20_0
  try clear hcz20_1
  try clear hcz20_2
  try clear hcz20_3
  try clear hcz20_4
  try clear hcz20_5
  try clear hcz20_6
  try clear hcz20_7
  try clear hcz24_0
  try clear hcz24_1
  try clear hcz24_2
  try clear hcz24_3
  try clear hcz24_4
  try clear hcz24_5
  try clear hcz24_6
  try clear hcz24_7
  try clear hcz26_0
  try clear hcz26_1
  try clear hcz26_2
  try clear hcz26_3
  try clear hcz26_4
  try clear hcz26_5
  try clear hcz26_6
  try clear hcz26_7
  try clear hcz28_0
  try clear hcz28_1
  try clear hcz28_2
  try clear hcz28_3
  try clear hcz28_4
  try clear hcz28_5
  try clear hcz28_6
  try clear hcz28_7
  try clear hcz31_0
  try clear hcz31_1
  try clear hcz31_2
  try clear hcz31_3
  try clear hcz31_4
  try clear hcz31_5
  try clear hcz31_6
  try clear hcz31_7
  try clear hfz12_0
  try clear hfz12_1
  try clear hfz12_2
  try clear hfz12_3
  try clear hfz12_4
  try clear hfz12_5
  try clear hfz12_6
  try clear hfz12_7
  try clear hfz14_0
  try clear hfz14_1
  try clear hfz14_2
  try clear hfz14_3
  try clear hfz14_4
  try clear hfz14_5
  try clear hfz14_6
  try clear hfz14_7
  try clear hfz18_0
  try clear hfz18_1
  try clear hfz18_2
  try clear hfz18_3
  try clear hfz18_4
  try clear hfz18_5
  try clear hfz18_6
  try clear hfz18_7
  try clear hfz20_0
  try clear hfz20_1
  try clear hfz20_2
  try clear hfz20_3
  try clear hfz20_4
  try clear hfz20_5
  try clear hfz20_6
  try clear hfz20_7
  try clear hfz24_0
  try clear hfz24_1
  try clear hfz24_2
  try clear hfz24_3
  try clear hfz24_4
  try clear hfz24_5
  try clear hfz24_6
  try clear hfz24_7
  try clear hfz26_0
  try clear hfz26_1
  try clear hfz26_2
  try clear hfz26_3
  try clear hfz26_4
  try clear hfz26_5
  try clear hfz26_6
  try clear hfz26_7
  try clear hfz28_0
  try clear hfz28_1
  try clear hfz28_2
  try clear hfz28_3
  try clear hfz28_4
  try clear hfz28_5
  try clear hfz28_6
  try clear hfz28_7
  try clear hfz31_0
  try clear hfz31_1
  try clear hfz31_2
  try clear hfz31_3
  try clear hfz31_4
  try clear hfz31_5
  try clear hfz31_6
  try clear hfz31_7
  obtain ⟨kq, x35_2, rfl, HA, HJ2, BK220, HB⟩ := hcut
  cases kq with
  | zero => exact absurd HA.out (by simp [spec_AddDevice.j0])
  | succ kj2 =>
   have H := HA.out
   clear HA
   simp only [spec_AddDevice.j0] at H
   by_cases c34 : x35_2 = true
   ·subst c34
    have H1 : ((spec_l6Copies.f l0).bind fun t225 => (some (t225, false))) = some (r1, r2) := by rw [if_pos rfl] at H; exact H
    clear H
    have H := H1
    clear H1
    replace H := Option.bind_eq_some_iff.mp H
    obtain ⟨t225, A350, H⟩ := H
    replace H : (some (t225, false)) = some (r1, r2) := H
    have A35 := Aside0.mk A350
    clear A350
    simp only [Option.some.injEq, Prod.mk.injEq] at H
    obtain ⟨rfl, rfl⟩ := H
    go_wp2_with (first | ((with_reducible refine gate_callee (f := 69) rfl ?_); refine goesL_ (some 37) rfl rfl Try.func69 (by kernel_rfl) rfl #[.slice A0 l0.length c0] rfl u10_6 ?_; (with_reducible refine (spec_l6Copies.calls _ _ l0 t225 _ ?side1 ?side2 A35.out).mono ?_); (case side1 => exact y10_0); (case side2 => exact HC0.out); rintro e w36 ⟨v226, rfl, ho0, hb⟩; refine ⟨_, rfl, ?_⟩; have n0_ := Aside0.mk (Kd.R_lower (Kd.R_newB ho0 (g := gb220) (o := .cells #[.string a1_0, .int .i64 a1_1, .string a1_2, .int .i64 a1_3, .int .i64 a1_4, .int .i64 a1_5, .int .i64 a1_6, .int .i64 a1_7] 30 (0, 0)) u10_3) (below_size u10_2)); have n1_ := Aside0.mk (blk_below (g := gb220) (o := .cells #[.string a1_0, .int .i64 a1_1, .string a1_2, .int .i64 a1_3, .int .i64 a1_4, .int .i64 a1_5, .int .i64 a1_6, .int .i64 a1_7] 30 (0, 0)) u10_3 hb); have n2_ := Aside0.mk (below_step u10_2 hb); clear BK220; clear HB; have HO227 := n0_; have BK220 := n1_; have HB := n2_; clear n0_ n1_ n2_; (try clear hb); (try clear hb2); (try clear hk); (try clear hi); (try clear ho0)))
    go_ret2
    exact ⟨_, by first | rfl | (simp [*] <;> rfl), by (with_reducible repeat (first | apply Kd.R_alloc | apply Kd.R_drewN | apply Kd.R_drew)); exact Kd.R_mono HO227.out (fun _ hk => trivial), s10_3⟩
   ·replace c34 := Bool.eq_false_iff.mpr c34
    subst c34
    have H1 : (spec_AddDevice.l0 kj2 (([] : List (S30))) false l0 (l0.length : Int) 0 a1_0 a1_1 a1_2 a1_3 a1_4 a1_5 a1_6 a1_7) = some (r1, r2) := by rw [if_neg (show ¬ (false = true) by decide)] at H; exact H
    clear H
    have H := H1
    clear H1
    obtain ⟨y228, hy228⟩ : ∃ y_ : List (S30), y_ = (([] : List (S30))) := ⟨_, rfl⟩
    replace H : (spec_AddDevice.l0 kj2 y228 false l0 (l0.length : Int) 0 a1_0 a1_1 a1_2 a1_3 a1_4 a1_5 a1_6 a1_7) = some (r1, r2) := by first | (rw [hy228]; with_reducible exact H) | (have H2_ := (Option.bind_some _ _).symm.trans H; rw [hy228]; with_reducible exact H2_) | (have H2_ := (Option.bind_some _ _).symm.trans H; with_reducible exact H2_) | with_reducible exact H | (rw [hy228]; exact H) | exact H
    have Ny228 := Aside0.mk hy228
    clear hy228
    have H' := Aside0.mk H
    clear H
    go_wp2_with (first | ((with_reducible refine gate_dst (N := 38) rfl ?_); (try (refine gate_guard (by rfl) ?_; dsimp only)); refine Kd.R_lit k30 _ 30 ?hg (N := 38) ?hd (xs := ([] : List (S30))) (inner := []) (ok := fun _ => True) (okp := fun _ => True) ?hr ?hp (fun _ hk => hk) trivial (Below.refl _ _) (Nat.le_refl _) (by simp) ?_; (case hd => rfl); (case hg => rfl); (case hr => exact gq); (case hp => exact (Reps.none _ _)); intro v229 w37 ho38 hb hg_ hnew_; clear hg_ hnew_; (first | rw [← Ny228.out] at ho38 | (simp only [Int.reduceToNat] at ho38; rw [← Ny228.out] at ho38)); have n0_ := Aside0.mk (Kd.R_lower (Kd.R_newB ho38 (g := gb220) (o := .cells #[.string a1_0, .int .i64 a1_1, .string a1_2, .int .i64 a1_3, .int .i64 a1_4, .int .i64 a1_5, .int .i64 a1_6, .int .i64 a1_7] 30 (0, 0)) u10_3) (below_size u10_2)); have n1_ := Aside0.mk (blk_below (g := gb220) (o := .cells #[.string a1_0, .int .i64 a1_1, .string a1_2, .int .i64 a1_3, .int .i64 a1_4, .int .i64 a1_5, .int .i64 a1_6, .int .i64 a1_7] 30 (0, 0)) u10_3 hb); have n2_ := Aside0.mk (below_step u10_2 hb); clear BK220; clear HB; have HO230 := n0_; have BK220 := n1_; have HB := n2_; clear n0_ n1_ n2_; clear hb ho38))
    go_loopg [6, 7, 41] kj2 (fun kq v6 v7 v41 w' => ∃ (x6_2 : List (S30)) (x7_2 : Bool) (x41_2 : Int), v7 = .bool x7_2 ∧ v41 = .int .i64 x41_2 ∧ Aside0 (spec_AddDevice.l0 kq x6_2 x7_2 l0 (l0.length : Int) x41_2 a1_0 a1_1 a1_2 a1_3 a1_4 a1_5 a1_6 a1_7 = some (r1, r2)) ∧ Aside0 (kq ≤ kj2) ∧ Aside0 (Kd.R k30 30 w' w.heap.size (fun k_ => k_ ≠ gb220) v6 x6_2) ∧ Aside0 (w'.heap[gb220]? = some (.cells #[.string a1_0, .int .i64 a1_1, .string a1_2, .int .i64 a1_3, .int .i64 a1_4, .int .i64 a1_5, .int .i64 a1_6, .int .i64 a1_7] 30 (0, 0))) ∧ Aside0 (Below w.heap.size w w'))
    case atStart => exact ⟨(y228), (false), (0), u10_8, u10_8, H', ⟨Nat.le_refl _⟩, ⟨by (with_reducible repeat (first | apply Kd.R_alloc | apply Kd.R_drewN | apply Kd.R_drew)); exact Kd.R_mono HO230.out (fun _ hk => hk.2)⟩, ⟨by (with_reducible repeat (first | refine blk_drewN ?_ _ | refine blk_drew ?_ | refine blk_alloc ?_ _)); exact BK220.out⟩, ⟨s10_3⟩⟩
    case round =>
     clear H'
     try clear c1
     try clear c2
     try clear p2
     try clear c3
     try clear c4
     try clear c6
     try clear c8
     try clear c10
     try clear c10b0
     try clear c16
     try clear c16b0
     try clear c16b1
     try clear c24
     try clear c34
     try clear hcz12_0
     try clear hcz12_1
     try clear hcz12_2
     try clear hcz12_3
     try clear hcz12_4
     try clear hcz12_5
     try clear hcz12_6
     try clear hcz12_7
     try clear hcz14_0
     try clear hcz14_1
     try clear hcz14_2
     try clear hcz14_3
     try clear hcz14_4
     try clear hcz14_5
     try clear hcz14_6
     try clear hcz14_7
     try clear hcz18_0
     try clear hcz18_1
     try clear hcz18_2
     try clear hcz18_3
     try clear hcz18_4
     try clear hcz18_5
     try clear hcz18_6
     try clear hcz18_7
     try clear hcz20_0
     try clear hcz20_1
     try clear hcz20_2
     try clear hcz20_3
     try clear hcz20_4
     try clear hcz20_5
     try clear hcz20_6
     try clear hcz20_7
     try clear hcz24_0
     try clear hcz24_1
     try clear hcz24_2
     try clear hcz24_3
     try clear hcz24_4
     try clear hcz24_5
     try clear hcz24_6
     try clear hcz24_7
     try clear hcz26_0
     try clear hcz26_1
     try clear hcz26_2
     try clear hcz26_3
     try clear hcz26_4
     try clear hcz26_5
     try clear hcz26_6
     try clear hcz26_7
     try clear hcz28_0
     try clear hcz28_1
     try clear hcz28_2
     try clear hcz28_3
     try clear hcz28_4
     try clear hcz28_5
     try clear hcz28_6
     try clear hcz28_7
     try clear hcz31_0
     try clear hcz31_1
     try clear hcz31_2
     try clear hcz31_3
     try clear hcz31_4
     try clear hcz31_5
     try clear hcz31_6
     try clear hcz31_7
     try clear hfz12_0
     try clear hfz12_1
     try clear hfz12_2
     try clear hfz12_3
     try clear hfz12_4
     try clear hfz12_5
     try clear hfz12_6
     try clear hfz12_7
     try clear hfz14_0
     try clear hfz14_1
     try clear hfz14_2
     try clear hfz14_3
     try clear hfz14_4
     try clear hfz14_5
     try clear hfz14_6
     try clear hfz14_7
     try clear hfz18_0
     try clear hfz18_1
     try clear hfz18_2
     try clear hfz18_3
     try clear hfz18_4
     try clear hfz18_5
     try clear hfz18_6
     try clear hfz18_7
     try clear hfz20_0
     try clear hfz20_1
     try clear hfz20_2
     try clear hfz20_3
     try clear hfz20_4
     try clear hfz20_5
     try clear hfz20_6
     try clear hfz20_7
     try clear hfz24_0
     try clear hfz24_1
     try clear hfz24_2
     try clear hfz24_3
     try clear hfz24_4
     try clear hfz24_5
     try clear hfz24_6
     try clear hfz24_7
     try clear hfz26_0
     try clear hfz26_1
     try clear hfz26_2
     try clear hfz26_3
     try clear hfz26_4
     try clear hfz26_5
     try clear hfz26_6
     try clear hfz26_7
     try clear hfz28_0
     try clear hfz28_1
     try clear hfz28_2
     try clear hfz28_3
     try clear hfz28_4
     try clear hfz28_5
     try clear hfz28_6
     try clear hfz28_7
     try clear hfz31_0
     try clear hfz31_1
     try clear hfz31_2
     try clear hfz31_3
     try clear hfz31_4
     try clear hfz31_5
     try clear hfz31_6
     try clear hfz31_7
     try clear p2
     obtain ⟨x6_2, x7_2, x41_2, rfl, rfl, HA, HK2, HO_6, BK220, HB⟩ := hrel
     cases gk with
     | zero => exact absurd HA.out (by simp [spec_AddDevice.l0])
     | succ k2 =>
      have H := HA.out
      clear HA
      simp only [spec_AddDevice.l0] at H
      by_cases c39 : x41_2 < (l0.length : Int)
      ·rw [if_pos c39] at H
       have c39b0 : decide (x41_2 < (l0.length : Int)) = true := decide_eq_true c39
       clear c39
       by_cases c40 : 0 ≤ x41_2
       ·rw [if_pos c40] at H
        have c40b0 : decide (0 ≤ x41_2) = true := decide_eq_true c40
        clear c40
        by_cases c41 : x41_2 < (l0.length : Int)
        ·rw [if_pos c41] at H
         have c41b0 : decide (x41_2 < (l0.length : Int)) = true := decide_eq_true c41
         clear c41
         by_cases c42 : x7_2 = true
         ·subst c42
          have H1 : (if x6_2.length < 1759218604441 then (spec_AddDevice.l0 k2 (x6_2 ++ [(⟨(rd_T30 l0 x41_2).f0, (rd_T30 l0 x41_2).f1, (rd_T30 l0 x41_2).f2, (⟨(rd_T30 l0 x41_2).f3.f0, (rd_T30 l0 x41_2).f3.f1⟩ : S28), (rd_T30 l0 x41_2).f4, (rd_T30 l0 x41_2).f5, (rd_T30 l0 x41_2).f6⟩ : S30)]) true l0 (l0.length : Int) (wrap64 (x41_2 + 1)) a1_0 a1_1 a1_2 a1_3 a1_4 a1_5 a1_6 a1_7) else (none)) = some (r1, r2) := by rw [if_pos rfl] at H; exact H
          clear H
          have H := H1
          clear H1
          by_cases c43 : x6_2.length < 1759218604441
          ·rw [if_pos c43] at H
           have LMc43 := Aside0.mk c43
           clear c43
           obtain ⟨y233, hy233⟩ : ∃ y_ : List (S30), y_ = (x6_2 ++ [(⟨(rd_T30 l0 x41_2).f0, (rd_T30 l0 x41_2).f1, (rd_T30 l0 x41_2).f2, (⟨(rd_T30 l0 x41_2).f3.f0, (rd_T30 l0 x41_2).f3.f1⟩ : S28), (rd_T30 l0 x41_2).f4, (rd_T30 l0 x41_2).f5, (rd_T30 l0 x41_2).f6⟩ : S30)]) := ⟨_, rfl⟩
           replace H : (spec_AddDevice.l0 k2 y233 true l0 (l0.length : Int) (wrap64 (x41_2 + 1)) a1_0 a1_1 a1_2 a1_3 a1_4 a1_5 a1_6 a1_7) = some (r1, r2) := by first | (rw [hy233]; with_reducible exact H) | (have H2_ := (Option.bind_some _ _).symm.trans H; rw [hy233]; with_reducible exact H2_) | (have H2_ := (Option.bind_some _ _).symm.trans H; with_reducible exact H2_) | with_reducible exact H | (rw [hy233]; exact H) | exact H
           have Ny233 := Aside0.mk hy233
           clear hy233
           have H' := Aside0.mk H
           clear H
           have p231 : 0 ≤ (x41_2 : Int) := of_decide_eq_true (by assumption)
           have q231 : x41_2 < (l0.length : Int) := of_decide_eq_true (by assumption)
           obtain ⟨ad231, e231, hx231_0, hx231_1, hx231_2, hx231_3, hx231_4, hx231_5, hx231_6, hx231_7⟩ := at_T30 (Kd.C_below HR0.out HB.out) x41_2 p231 q231
           cases e231
           replace p231 := eq_true p231
           replace q231 := eq_true q231
           go_wp2_with (first | ((with_reducible refine gate_dst (N := 9) rfl ?_); (try (refine gate_guard (by rfl) ?_; dsimp only)); refine box_event ?hg (N := 9) ?hd (cs := #[.string (⟨#[]⟩ : ByteArray), .int .i64 0, .string (⟨#[]⟩ : ByteArray), .int .i64 0, .int .i64 0, .int .i64 0, .int .i64 0, .int .i64 0]) (t := 30) ?hr ?_; (case hd => rfl); (case hg => rfl); (case hr => exact gq); intro gb232 hg w44 hbox hb; have n0_ := Aside0.mk (Kd.R_below (Kd.R_elderB u10_9 gb232 (Nat.le_of_eq hg.symm)) hb); have n1_ := Aside0.mk (blk_below (g := gb220) (o := .cells #[.string a1_0, .int .i64 a1_1, .string a1_2, .int .i64 a1_3, .int .i64 a1_4, .int .i64 a1_5, .int .i64 a1_6, .int .i64 a1_7] 30 (0, 0)) u10_3 hb); have n2_ := Aside0.mk (below_step u10_2 hb); have n3_ := Aside0.mk (hbox); have n4_ := bsw w hg (below_size u10_2); have n5_ := bsw w hg (below_size u10_2); have n6_ := Aside0.mk ((by rw [hg]; exact Nat.ne_of_lt (blk_lt (g := gb220) (o := .cells #[.string a1_0, .int .i64 a1_1, .string a1_2, .int .i64 a1_3, .int .i64 a1_4, .int .i64 a1_5, .int .i64 a1_6, .int .i64 a1_7] 30 (0, 0)) u10_3) : gb220 ≠ gb232)); have n7_ := Aside0.mk ((by rw [hg]; exact Nat.ne_of_gt (blk_lt (g := gb220) (o := .cells #[.string a1_0, .int .i64 a1_1, .string a1_2, .int .i64 a1_3, .int .i64 a1_4, .int .i64 a1_5, .int .i64 a1_6, .int .i64 a1_7] 30 (0, 0)) u10_3) : gb232 ≠ gb220)); clear HO_6; clear BK220; clear HB; have HO_6 := n0_; have BK220 := n1_; have HB := n2_; have BK232 := n3_; have GW232 := n4_; have GE232 := n5_; have NB220_232 := n6_; have NB232_220 := n7_; clear n0_ n1_ n2_ n3_ n4_ n5_ n6_ n7_; clear hb hbox hg; have hnb45 := NB232_220.out; have hnc45 := NB220_232.out; obtain ⟨hcz46_0, hcz46_1, hcz46_2, hcz46_3, hcz46_4, hcz46_5, hcz46_6, hcz46_7, hfz46_0, hfz46_1, hfz46_2, hfz46_3, hfz46_4, hfz46_5, hfz46_6, hfz46_7⟩ := cf8 BK232.out) | ((with_reducible refine gate_builtin (b := .append) (xs := #[.tmp 58, .tmp 60]) rfl ?_); (try (refine gate_guard (by rfl) ?_; dsimp only)); at_builtin; refine Kd.R_append k30 (w0 := w) w.heap.size rfl (.tmp 58) (.tmp 60) 36 30 (.agg #[(.string ⟨#[]⟩), (.int .i64 0), (.string ⟨#[]⟩), (.int .i64 0), (.int .i64 0), (.int .i64 0), (.int .i64 0), (.int .i64 0)]) 80 rfl Try.underlying36 info30 rfl (by decide) (by omega) u6 x6_2 (⟨(rd_T30 l0 x41_2).f0, (rd_T30 l0 x41_2).f1, (rd_T30 l0 x41_2).f2, (⟨(rd_T30 l0 x41_2).f3.f0, (rd_T30 l0 x41_2).f3.f1⟩ : S28), (rd_T30 l0 x41_2).f4, (rd_T30 l0 x41_2).f5, (rd_T30 l0 x41_2).f6⟩ : S30) [.string ((rd_T30 l0 x41_2).f0), .int .i64 ((rd_T30 l0 x41_2).f1), .string ((rd_T30 l0 x41_2).f2), .int .i64 ((rd_T30 l0 x41_2).f3.f0), .int .i64 ((rd_T30 l0 x41_2).f3.f1), .int .i64 ((rd_T30 l0 x41_2).f4), .int .i64 ((rd_T30 l0 x41_2).f5), .int .i64 ((rd_T30 l0 x41_2).f6)] (fun k_ => k_ ≠ gb220 ∧ k_ ≠ gb232) (fun _ => False) rfl (by first | (go_simp; done) | (go_simp; rfl)) ?aP (fun _ hk => hk.elim) ?aF ?aO ?aB ?aS ?aL ?_; (case aP => exact k30_mkM _ _ _ (⟨(rd_T30 l0 x41_2).f0, (rd_T30 l0 x41_2).f1, (rd_T30 l0 x41_2).f2, (⟨(rd_T30 l0 x41_2).f3.f0, (rd_T30 l0 x41_2).f3.f1⟩ : S28), (rd_T30 l0 x41_2).f4, (rd_T30 l0 x41_2).f5, (rd_T30 l0 x41_2).f6⟩ : S30)); (case aB => exact u10_5); (case aF => exact (fun k_ hk => ⟨Kd.freshB (g := gb220) (o := .cells #[.string a1_0, .int .i64 a1_1, .string a1_2, .int .i64 a1_3, .int .i64 a1_4, .int .i64 a1_5, .int .i64 a1_6, .int .i64 a1_7] 30 (0, 0)) u10_1 k_ hk, Kd.freshB (g := gb232) (o := .cells #[.string ((rd_T30 l0 x41_2).f0), .int .i64 ((rd_T30 l0 x41_2).f1), .string ((rd_T30 l0 x41_2).f2), .int .i64 ((rd_T30 l0 x41_2).f3.f0), .int .i64 ((rd_T30 l0 x41_2).f3.f1), .int .i64 ((rd_T30 l0 x41_2).f4), .int .i64 ((rd_T30 l0 x41_2).f5), .int .i64 ((rd_T30 l0 x41_2).f6)] 30 (0, 0)) u10_0 k_ hk⟩)); (case aO => exact u10_4); (case aS => exact (below_size u10_5)); (case aL => have := LMc43.out; omega); intro v234 w47 ho hb hg hat; rw [← Ny233.out] at ho; have n0_ := Aside0.mk (blk_grown (g := gb220) (o := .cells #[.string a1_0, .int .i64 a1_1, .string a1_2, .int .i64 a1_3, .int .i64 a1_4, .int .i64 a1_5, .int .i64 a1_6, .int .i64 a1_7] 30 (0, 0)) u10_1 hg (Kd.R_away HO_6.out (fun _ hk => hk.1))); have n1_ := Aside0.mk (blk_grown (g := gb232) (o := .cells #[.string ((rd_T30 l0 x41_2).f0), .int .i64 ((rd_T30 l0 x41_2).f1), .string ((rd_T30 l0 x41_2).f2), .int .i64 ((rd_T30 l0 x41_2).f3.f0), .int .i64 ((rd_T30 l0 x41_2).f3.f1), .int .i64 ((rd_T30 l0 x41_2).f4), .int .i64 ((rd_T30 l0 x41_2).f5), .int .i64 ((rd_T30 l0 x41_2).f6)] 30 (0, 0)) u10_0 hg (Kd.R_away HO_6.out (fun _ hk => hk.2))); have n2_ := Aside0.mk (hb); have n3_ := Aside0.mk (ho); clear BK220; clear BK232; clear HB; clear HO_6; have BK220 := n0_; have BK232 := n1_; have HB := n2_; have HO235 := n3_; clear n0_ n1_ n2_ n3_; clear ho hb hg hat))
           go_roundg k2
           case measure => have := HJ2.out; have := HK2.out; omega
           case rel => exact ⟨(y233), (true), (wrap64 (x41_2 + 1)), u10_8, u10_8, H', ⟨by have := HJ2.out; have := HK2.out; omega⟩, ⟨by (with_reducible repeat (first | apply Kd.R_alloc | apply Kd.R_drewN | apply Kd.R_drew)); exact Kd.R_mono HO235.out (fun _ hk => hk.1)⟩, ⟨by (with_reducible repeat (first | refine blk_drewN ?_ _ | refine blk_drew ?_ | refine blk_alloc ?_ _)); exact BK220.out⟩, ⟨s10_0⟩⟩
          ·rw [if_neg c43] at H
           exact absurd H (by simp)
         ·replace c42 := Bool.eq_false_iff.mpr c42
          subst c42
          have H1 : (if (Op.bytesLess a1_0.toList (((rd_T30 l0 x41_2).f0).toList)) = true then (if x6_2.length < 1759218604441 then ((some (x6_2 ++ [(⟨a1_0, a1_1, a1_2, (⟨a1_3, a1_4⟩ : S28), a1_5, a1_6, a1_7⟩ : S30)] : List (S30))).bind fun y236 => (if y236.length < 1759218604441 then (spec_AddDevice.l0 k2 (y236 ++ [(⟨(rd_T30 l0 x41_2).f0, (rd_T30 l0 x41_2).f1, (rd_T30 l0 x41_2).f2, (⟨(rd_T30 l0 x41_2).f3.f0, (rd_T30 l0 x41_2).f3.f1⟩ : S28), (rd_T30 l0 x41_2).f4, (rd_T30 l0 x41_2).f5, (rd_T30 l0 x41_2).f6⟩ : S30)]) true l0 (l0.length : Int) (wrap64 (x41_2 + 1)) a1_0 a1_1 a1_2 a1_3 a1_4 a1_5 a1_6 a1_7) else (none))) else (none)) else (if x6_2.length < 1759218604441 then (spec_AddDevice.l0 k2 (x6_2 ++ [(⟨(rd_T30 l0 x41_2).f0, (rd_T30 l0 x41_2).f1, (rd_T30 l0 x41_2).f2, (⟨(rd_T30 l0 x41_2).f3.f0, (rd_T30 l0 x41_2).f3.f1⟩ : S28), (rd_T30 l0 x41_2).f4, (rd_T30 l0 x41_2).f5, (rd_T30 l0 x41_2).f6⟩ : S30)]) false l0 (l0.length : Int) (wrap64 (x41_2 + 1)) a1_0 a1_1 a1_2 a1_3 a1_4 a1_5 a1_6 a1_7) else (none))) = some (r1, r2) := by rw [if_neg (show ¬ (false = true) by decide)] at H; exact H
          clear H
          have H := H1
          clear H1
          by_cases c48 : (Op.bytesLess a1_0.toList (((rd_T30 l0 x41_2).f0).toList)) = true
          ·rw [if_pos c48] at H
           have c48b0 : (Op.bytesLess a1_0.toList (((rd_T30 l0 x41_2).f0).toList)) = true := c48
           have c48e : (Op.bytesLess (((rd_T30 l0 x41_2).f0).toList) a1_0.toList || (((rd_T30 l0 x41_2).f0).toList) == a1_0.toList) = false := blU_leF c48b0
           clear c48
           by_cases c49 : x6_2.length < 1759218604441
           ·rw [if_pos c49] at H
            have LMc49 := Aside0.mk c49
            clear c49
            obtain ⟨y236, hy236⟩ : ∃ y_ : List (S30), y_ = (x6_2 ++ [(⟨a1_0, a1_1, a1_2, (⟨a1_3, a1_4⟩ : S28), a1_5, a1_6, a1_7⟩ : S30)]) := ⟨_, rfl⟩
            replace H : (if y236.length < 1759218604441 then (spec_AddDevice.l0 k2 (y236 ++ [(⟨(rd_T30 l0 x41_2).f0, (rd_T30 l0 x41_2).f1, (rd_T30 l0 x41_2).f2, (⟨(rd_T30 l0 x41_2).f3.f0, (rd_T30 l0 x41_2).f3.f1⟩ : S28), (rd_T30 l0 x41_2).f4, (rd_T30 l0 x41_2).f5, (rd_T30 l0 x41_2).f6⟩ : S30)]) true l0 (l0.length : Int) (wrap64 (x41_2 + 1)) a1_0 a1_1 a1_2 a1_3 a1_4 a1_5 a1_6 a1_7) else (none)) = some (r1, r2) := by first | (rw [hy236]; with_reducible exact H) | (have H2_ := (Option.bind_some _ _).symm.trans H; rw [hy236]; with_reducible exact H2_) | (have H2_ := (Option.bind_some _ _).symm.trans H; with_reducible exact H2_) | with_reducible exact H | (rw [hy236]; exact H) | exact H
            have Ny236 := Aside0.mk hy236
            clear hy236
            by_cases c50 : y236.length < 1759218604441
            ·rw [if_pos c50] at H
             have LMc50 := Aside0.mk c50
             clear c50
             obtain ⟨y239, hy239⟩ : ∃ y_ : List (S30), y_ = (y236 ++ [(⟨(rd_T30 l0 x41_2).f0, (rd_T30 l0 x41_2).f1, (rd_T30 l0 x41_2).f2, (⟨(rd_T30 l0 x41_2).f3.f0, (rd_T30 l0 x41_2).f3.f1⟩ : S28), (rd_T30 l0 x41_2).f4, (rd_T30 l0 x41_2).f5, (rd_T30 l0 x41_2).f6⟩ : S30)]) := ⟨_, rfl⟩
             replace H : (spec_AddDevice.l0 k2 y239 true l0 (l0.length : Int) (wrap64 (x41_2 + 1)) a1_0 a1_1 a1_2 a1_3 a1_4 a1_5 a1_6 a1_7) = some (r1, r2) := by first | (rw [hy239]; with_reducible exact H) | (have H2_ := (Option.bind_some _ _).symm.trans H; rw [hy239]; with_reducible exact H2_) | (have H2_ := (Option.bind_some _ _).symm.trans H; with_reducible exact H2_) | with_reducible exact H | (rw [hy239]; exact H) | exact H
             have Ny239 := Aside0.mk hy239
             clear hy239
             have H' := Aside0.mk H
             clear H
             have p231 : 0 ≤ (x41_2 : Int) := of_decide_eq_true (by assumption)
             have q231 : x41_2 < (l0.length : Int) := of_decide_eq_true (by assumption)
             obtain ⟨ad231, e231, hx231_0, hx231_1, hx231_2, hx231_3, hx231_4, hx231_5, hx231_6, hx231_7⟩ := at_T30 (Kd.C_below HR0.out HB.out) x41_2 p231 q231
             cases e231
             replace p231 := eq_true p231
             replace q231 := eq_true q231
             go_wp2_with (first | ((with_reducible refine gate_dst (N := 9) rfl ?_); (try (refine gate_guard (by rfl) ?_; dsimp only)); refine box_event ?hg (N := 9) ?hd (cs := #[.string (⟨#[]⟩ : ByteArray), .int .i64 0, .string (⟨#[]⟩ : ByteArray), .int .i64 0, .int .i64 0, .int .i64 0, .int .i64 0, .int .i64 0]) (t := 30) ?hr ?_; (case hd => rfl); (case hg => rfl); (case hr => exact gq); intro gb232 hg w51 hbox hb; have n0_ := Aside0.mk (Kd.R_below (Kd.R_elderB u10_9 gb232 (Nat.le_of_eq hg.symm)) hb); have n1_ := Aside0.mk (blk_below (g := gb220) (o := .cells #[.string a1_0, .int .i64 a1_1, .string a1_2, .int .i64 a1_3, .int .i64 a1_4, .int .i64 a1_5, .int .i64 a1_6, .int .i64 a1_7] 30 (0, 0)) u10_3 hb); have n2_ := Aside0.mk (below_step u10_2 hb); have n3_ := Aside0.mk (hbox); have n4_ := bsw w hg (below_size u10_2); have n5_ := bsw w hg (below_size u10_2); have n6_ := Aside0.mk ((by rw [hg]; exact Nat.ne_of_lt (blk_lt (g := gb220) (o := .cells #[.string a1_0, .int .i64 a1_1, .string a1_2, .int .i64 a1_3, .int .i64 a1_4, .int .i64 a1_5, .int .i64 a1_6, .int .i64 a1_7] 30 (0, 0)) u10_3) : gb220 ≠ gb232)); have n7_ := Aside0.mk ((by rw [hg]; exact Nat.ne_of_gt (blk_lt (g := gb220) (o := .cells #[.string a1_0, .int .i64 a1_1, .string a1_2, .int .i64 a1_3, .int .i64 a1_4, .int .i64 a1_5, .int .i64 a1_6, .int .i64 a1_7] 30 (0, 0)) u10_3) : gb232 ≠ gb220)); clear HO_6; clear BK220; clear HB; have HO_6 := n0_; have BK220 := n1_; have HB := n2_; have BK232 := n3_; have GW232 := n4_; have GE232 := n5_; have NB220_232 := n6_; have NB232_220 := n7_; clear n0_ n1_ n2_ n3_ n4_ n5_ n6_ n7_; clear hb hbox hg; have hnb52 := NB232_220.out; have hnc52 := NB220_232.out; obtain ⟨hcz53_0, hcz53_1, hcz53_2, hcz53_3, hcz53_4, hcz53_5, hcz53_6, hcz53_7, hfz53_0, hfz53_1, hfz53_2, hfz53_3, hfz53_4, hfz53_5, hfz53_6, hfz53_7⟩ := cf8 BK232.out; obtain ⟨hcz54_0, hcz54_1, hcz54_2, hcz54_3, hcz54_4, hcz54_5, hcz54_6, hcz54_7, hfz54_0, hfz54_1, hfz54_2, hfz54_3, hfz54_4, hfz54_5, hfz54_6, hfz54_7⟩ := cf8 BK220.out) | ((with_reducible refine gate_builtin (b := .append) (xs := #[.tmp 54, .tmp 56]) rfl ?_); (try (refine gate_guard (by rfl) ?_; dsimp only)); at_builtin; refine Kd.R_append k30 (w0 := w) w.heap.size rfl (.tmp 54) (.tmp 56) 36 30 (.agg #[(.string ⟨#[]⟩), (.int .i64 0), (.string ⟨#[]⟩), (.int .i64 0), (.int .i64 0), (.int .i64 0), (.int .i64 0), (.int .i64 0)]) 80 rfl Try.underlying36 info30 rfl (by decide) (by omega) u6 x6_2 (⟨a1_0, a1_1, a1_2, (⟨a1_3, a1_4⟩ : S28), a1_5, a1_6, a1_7⟩ : S30) [.string a1_0, .int .i64 a1_1, .string a1_2, .int .i64 a1_3, .int .i64 a1_4, .int .i64 a1_5, .int .i64 a1_6, .int .i64 a1_7] (fun k_ => k_ ≠ gb220 ∧ k_ ≠ gb232) (fun _ => False) rfl (by first | (go_simp; done) | (go_simp; rfl)) ?aP (fun _ hk => hk.elim) ?aF ?aO ?aB ?aS ?aL ?_; (case aP => exact k30_mkM _ _ _ (⟨a1_0, a1_1, a1_2, (⟨a1_3, a1_4⟩ : S28), a1_5, a1_6, a1_7⟩ : S30)); (case aB => exact u10_5); (case aF => exact (fun k_ hk => ⟨Kd.freshB (g := gb220) (o := .cells #[.string a1_0, .int .i64 a1_1, .string a1_2, .int .i64 a1_3, .int .i64 a1_4, .int .i64 a1_5, .int .i64 a1_6, .int .i64 a1_7] 30 (0, 0)) u10_1 k_ hk, Kd.freshB (g := gb232) (o := .cells #[.string ((rd_T30 l0 x41_2).f0), .int .i64 ((rd_T30 l0 x41_2).f1), .string ((rd_T30 l0 x41_2).f2), .int .i64 ((rd_T30 l0 x41_2).f3.f0), .int .i64 ((rd_T30 l0 x41_2).f3.f1), .int .i64 ((rd_T30 l0 x41_2).f4), .int .i64 ((rd_T30 l0 x41_2).f5), .int .i64 ((rd_T30 l0 x41_2).f6)] 30 (0, 0)) u10_0 k_ hk⟩)); (case aO => exact u10_4); (case aS => exact (below_size u10_5)); (case aL => have := LMc49.out; omega); intro v237 w55 ho hb hg hat; rw [← Ny236.out] at ho; have n0_ := Aside0.mk (blk_grown (g := gb220) (o := .cells #[.string a1_0, .int .i64 a1_1, .string a1_2, .int .i64 a1_3, .int .i64 a1_4, .int .i64 a1_5, .int .i64 a1_6, .int .i64 a1_7] 30 (0, 0)) u10_1 hg (Kd.R_away HO_6.out (fun _ hk => hk.1))); have n1_ := Aside0.mk (blk_grown (g := gb232) (o := .cells #[.string ((rd_T30 l0 x41_2).f0), .int .i64 ((rd_T30 l0 x41_2).f1), .string ((rd_T30 l0 x41_2).f2), .int .i64 ((rd_T30 l0 x41_2).f3.f0), .int .i64 ((rd_T30 l0 x41_2).f3.f1), .int .i64 ((rd_T30 l0 x41_2).f4), .int .i64 ((rd_T30 l0 x41_2).f5), .int .i64 ((rd_T30 l0 x41_2).f6)] 30 (0, 0)) u10_0 hg (Kd.R_away HO_6.out (fun _ hk => hk.2))); have n2_ := Aside0.mk (hb); have n3_ := Aside0.mk (ho); clear BK220; clear BK232; clear HB; clear HO_6; have BK220 := n0_; have BK232 := n1_; have HB := n2_; have HO238 := n3_; clear n0_ n1_ n2_ n3_; clear ho hb hg hat; obtain ⟨hcz56_0, hcz56_1, hcz56_2, hcz56_3, hcz56_4, hcz56_5, hcz56_6, hcz56_7, hfz56_0, hfz56_1, hfz56_2, hfz56_3, hfz56_4, hfz56_5, hfz56_6, hfz56_7⟩ := cf8 BK232.out) | ((with_reducible refine gate_builtin (b := .append) (xs := #[.tmp 58, .tmp 60]) rfl ?_); (try (refine gate_guard (by rfl) ?_; dsimp only)); at_builtin; refine Kd.R_append k30 (w0 := w) w.heap.size rfl (.tmp 58) (.tmp 60) 36 30 (.agg #[(.string ⟨#[]⟩), (.int .i64 0), (.string ⟨#[]⟩), (.int .i64 0), (.int .i64 0), (.int .i64 0), (.int .i64 0), (.int .i64 0)]) 80 rfl Try.underlying36 info30 rfl (by decide) (by omega) v237 y236 (⟨(rd_T30 l0 x41_2).f0, (rd_T30 l0 x41_2).f1, (rd_T30 l0 x41_2).f2, (⟨(rd_T30 l0 x41_2).f3.f0, (rd_T30 l0 x41_2).f3.f1⟩ : S28), (rd_T30 l0 x41_2).f4, (rd_T30 l0 x41_2).f5, (rd_T30 l0 x41_2).f6⟩ : S30) [.string ((rd_T30 l0 x41_2).f0), .int .i64 ((rd_T30 l0 x41_2).f1), .string ((rd_T30 l0 x41_2).f2), .int .i64 ((rd_T30 l0 x41_2).f3.f0), .int .i64 ((rd_T30 l0 x41_2).f3.f1), .int .i64 ((rd_T30 l0 x41_2).f4), .int .i64 ((rd_T30 l0 x41_2).f5), .int .i64 ((rd_T30 l0 x41_2).f6)] (fun k_ => k_ ≠ gb220 ∧ k_ ≠ gb232) (fun _ => False) rfl rfl ?aP (fun _ hk => hk.elim) ?aF ?aO ?aB ?aS ?aL ?_; (case aP => exact k30_mkM _ _ _ (⟨(rd_T30 l0 x41_2).f0, (rd_T30 l0 x41_2).f1, (rd_T30 l0 x41_2).f2, (⟨(rd_T30 l0 x41_2).f3.f0, (rd_T30 l0 x41_2).f3.f1⟩ : S28), (rd_T30 l0 x41_2).f4, (rd_T30 l0 x41_2).f5, (rd_T30 l0 x41_2).f6⟩ : S30)); (case aB => exact u10_5); (case aF => exact (fun k_ hk => ⟨Kd.freshB (g := gb220) (o := .cells #[.string a1_0, .int .i64 a1_1, .string a1_2, .int .i64 a1_3, .int .i64 a1_4, .int .i64 a1_5, .int .i64 a1_6, .int .i64 a1_7] 30 (0, 0)) u10_3 k_ hk, Kd.freshB (g := gb232) (o := .cells #[.string ((rd_T30 l0 x41_2).f0), .int .i64 ((rd_T30 l0 x41_2).f1), .string ((rd_T30 l0 x41_2).f2), .int .i64 ((rd_T30 l0 x41_2).f3.f0), .int .i64 ((rd_T30 l0 x41_2).f3.f1), .int .i64 ((rd_T30 l0 x41_2).f4), .int .i64 ((rd_T30 l0 x41_2).f5), .int .i64 ((rd_T30 l0 x41_2).f6)] 30 (0, 0)) (by (with_reducible repeat (first | refine blk_drewN ?_ _ | refine blk_drew ?_ | refine blk_alloc ?_ _)); exact BK232.out) k_ hk⟩)); (case aO => exact (by (with_reducible repeat (first | apply Kd.R_alloc | apply Kd.R_drewN | apply Kd.R_drew)); exact HO238.out)); (case aS => exact (below_size u10_5)); (case aL => have := LMc50.out; omega); intro v240 w57 ho hb hg hat; rw [← Ny239.out] at ho; have n0_ := Aside0.mk (blk_grown (g := gb220) (o := .cells #[.string a1_0, .int .i64 a1_1, .string a1_2, .int .i64 a1_3, .int .i64 a1_4, .int .i64 a1_5, .int .i64 a1_6, .int .i64 a1_7] 30 (0, 0)) u10_3 hg (Kd.R_away HO238.out (fun _ hk => hk.1))); have n1_ := Aside0.mk (blk_grown (g := gb232) (o := .cells #[.string ((rd_T30 l0 x41_2).f0), .int .i64 ((rd_T30 l0 x41_2).f1), .string ((rd_T30 l0 x41_2).f2), .int .i64 ((rd_T30 l0 x41_2).f3.f0), .int .i64 ((rd_T30 l0 x41_2).f3.f1), .int .i64 ((rd_T30 l0 x41_2).f4), .int .i64 ((rd_T30 l0 x41_2).f5), .int .i64 ((rd_T30 l0 x41_2).f6)] 30 (0, 0)) (by (with_reducible repeat (first | refine blk_drewN ?_ _ | refine blk_drew ?_ | refine blk_alloc ?_ _)); exact BK232.out) hg (Kd.R_away HO238.out (fun _ hk => hk.2))); have n2_ := Aside0.mk (hb); have n3_ := Aside0.mk (ho); clear BK220; clear BK232; clear HB; clear HO238; have BK220 := n0_; have BK232 := n1_; have HB := n2_; have HO241 := n3_; clear n0_ n1_ n2_ n3_; clear ho hb hg hat))
             go_roundg k2
             case measure => have := HJ2.out; have := HK2.out; omega
             case rel => exact ⟨(y239), (true), (wrap64 (x41_2 + 1)), u10_8, u10_8, H', ⟨by have := HJ2.out; have := HK2.out; omega⟩, ⟨by (with_reducible repeat (first | apply Kd.R_alloc | apply Kd.R_drewN | apply Kd.R_drew)); exact Kd.R_mono HO241.out (fun _ hk => hk.1)⟩, ⟨by (with_reducible repeat (first | refine blk_drewN ?_ _ | refine blk_drew ?_ | refine blk_alloc ?_ _)); exact BK220.out⟩, ⟨s10_0⟩⟩
            ·rw [if_neg c50] at H
             exact absurd H (by simp)
           ·rw [if_neg c49] at H
            exact absurd H (by simp)
          ·rw [if_neg c48] at H
           have c48b0 : (Op.bytesLess a1_0.toList (((rd_T30 l0 x41_2).f0).toList)) = false := by simpa using c48
           have c48e : (Op.bytesLess (((rd_T30 l0 x41_2).f0).toList) a1_0.toList || (((rd_T30 l0 x41_2).f0).toList) == a1_0.toList) = true := blU_leT c48b0
           clear c48
           by_cases c58 : x6_2.length < 1759218604441
           ·rw [if_pos c58] at H
            have LMc58 := Aside0.mk c58
            clear c58
            obtain ⟨y242, hy242⟩ : ∃ y_ : List (S30), y_ = (x6_2 ++ [(⟨(rd_T30 l0 x41_2).f0, (rd_T30 l0 x41_2).f1, (rd_T30 l0 x41_2).f2, (⟨(rd_T30 l0 x41_2).f3.f0, (rd_T30 l0 x41_2).f3.f1⟩ : S28), (rd_T30 l0 x41_2).f4, (rd_T30 l0 x41_2).f5, (rd_T30 l0 x41_2).f6⟩ : S30)]) := ⟨_, rfl⟩
            replace H : (spec_AddDevice.l0 k2 y242 false l0 (l0.length : Int) (wrap64 (x41_2 + 1)) a1_0 a1_1 a1_2 a1_3 a1_4 a1_5 a1_6 a1_7) = some (r1, r2) := by first | (rw [hy242]; with_reducible exact H) | (have H2_ := (Option.bind_some _ _).symm.trans H; rw [hy242]; with_reducible exact H2_) | (have H2_ := (Option.bind_some _ _).symm.trans H; with_reducible exact H2_) | with_reducible exact H | (rw [hy242]; exact H) | exact H
            have Ny242 := Aside0.mk hy242
            clear hy242
            have H' := Aside0.mk H
            clear H
            have p231 : 0 ≤ (x41_2 : Int) := of_decide_eq_true (by assumption)
            have q231 : x41_2 < (l0.length : Int) := of_decide_eq_true (by assumption)
            obtain ⟨ad231, e231, hx231_0, hx231_1, hx231_2, hx231_3, hx231_4, hx231_5, hx231_6, hx231_7⟩ := at_T30 (Kd.C_below HR0.out HB.out) x41_2 p231 q231
            cases e231
            replace p231 := eq_true p231
            replace q231 := eq_true q231
            go_wp2_with (first | ((with_reducible refine gate_dst (N := 9) rfl ?_); (try (refine gate_guard (by rfl) ?_; dsimp only)); refine box_event ?hg (N := 9) ?hd (cs := #[.string (⟨#[]⟩ : ByteArray), .int .i64 0, .string (⟨#[]⟩ : ByteArray), .int .i64 0, .int .i64 0, .int .i64 0, .int .i64 0, .int .i64 0]) (t := 30) ?hr ?_; (case hd => rfl); (case hg => rfl); (case hr => exact gq); intro gb232 hg w59 hbox hb; have n0_ := Aside0.mk (Kd.R_below (Kd.R_elderB u10_9 gb232 (Nat.le_of_eq hg.symm)) hb); have n1_ := Aside0.mk (blk_below (g := gb220) (o := .cells #[.string a1_0, .int .i64 a1_1, .string a1_2, .int .i64 a1_3, .int .i64 a1_4, .int .i64 a1_5, .int .i64 a1_6, .int .i64 a1_7] 30 (0, 0)) u10_3 hb); have n2_ := Aside0.mk (below_step u10_2 hb); have n3_ := Aside0.mk (hbox); have n4_ := bsw w hg (below_size u10_2); have n5_ := bsw w hg (below_size u10_2); have n6_ := Aside0.mk ((by rw [hg]; exact Nat.ne_of_lt (blk_lt (g := gb220) (o := .cells #[.string a1_0, .int .i64 a1_1, .string a1_2, .int .i64 a1_3, .int .i64 a1_4, .int .i64 a1_5, .int .i64 a1_6, .int .i64 a1_7] 30 (0, 0)) u10_3) : gb220 ≠ gb232)); have n7_ := Aside0.mk ((by rw [hg]; exact Nat.ne_of_gt (blk_lt (g := gb220) (o := .cells #[.string a1_0, .int .i64 a1_1, .string a1_2, .int .i64 a1_3, .int .i64 a1_4, .int .i64 a1_5, .int .i64 a1_6, .int .i64 a1_7] 30 (0, 0)) u10_3) : gb232 ≠ gb220)); clear HO_6; clear BK220; clear HB; have HO_6 := n0_; have BK220 := n1_; have HB := n2_; have BK232 := n3_; have GW232 := n4_; have GE232 := n5_; have NB220_232 := n6_; have NB232_220 := n7_; clear n0_ n1_ n2_ n3_ n4_ n5_ n6_ n7_; clear hb hbox hg; have hnb60 := NB232_220.out; have hnc60 := NB220_232.out; obtain ⟨hcz61_0, hcz61_1, hcz61_2, hcz61_3, hcz61_4, hcz61_5, hcz61_6, hcz61_7, hfz61_0, hfz61_1, hfz61_2, hfz61_3, hfz61_4, hfz61_5, hfz61_6, hfz61_7⟩ := cf8 BK232.out; obtain ⟨hcz62_0, hcz62_1, hcz62_2, hcz62_3, hcz62_4, hcz62_5, hcz62_6, hcz62_7, hfz62_0, hfz62_1, hfz62_2, hfz62_3, hfz62_4, hfz62_5, hfz62_6, hfz62_7⟩ := cf8 BK220.out) | ((with_reducible refine gate_builtin (b := .append) (xs := #[.tmp 58, .tmp 60]) rfl ?_); (try (refine gate_guard (by rfl) ?_; dsimp only)); at_builtin; refine Kd.R_append k30 (w0 := w) w.heap.size rfl (.tmp 58) (.tmp 60) 36 30 (.agg #[(.string ⟨#[]⟩), (.int .i64 0), (.string ⟨#[]⟩), (.int .i64 0), (.int .i64 0), (.int .i64 0), (.int .i64 0), (.int .i64 0)]) 80 rfl Try.underlying36 info30 rfl (by decide) (by omega) u6 x6_2 (⟨(rd_T30 l0 x41_2).f0, (rd_T30 l0 x41_2).f1, (rd_T30 l0 x41_2).f2, (⟨(rd_T30 l0 x41_2).f3.f0, (rd_T30 l0 x41_2).f3.f1⟩ : S28), (rd_T30 l0 x41_2).f4, (rd_T30 l0 x41_2).f5, (rd_T30 l0 x41_2).f6⟩ : S30) [.string ((rd_T30 l0 x41_2).f0), .int .i64 ((rd_T30 l0 x41_2).f1), .string ((rd_T30 l0 x41_2).f2), .int .i64 ((rd_T30 l0 x41_2).f3.f0), .int .i64 ((rd_T30 l0 x41_2).f3.f1), .int .i64 ((rd_T30 l0 x41_2).f4), .int .i64 ((rd_T30 l0 x41_2).f5), .int .i64 ((rd_T30 l0 x41_2).f6)] (fun k_ => k_ ≠ gb220 ∧ k_ ≠ gb232) (fun _ => False) rfl (by first | (go_simp; done) | (go_simp; rfl)) ?aP (fun _ hk => hk.elim) ?aF ?aO ?aB ?aS ?aL ?_; (case aP => exact k30_mkM _ _ _ (⟨(rd_T30 l0 x41_2).f0, (rd_T30 l0 x41_2).f1, (rd_T30 l0 x41_2).f2, (⟨(rd_T30 l0 x41_2).f3.f0, (rd_T30 l0 x41_2).f3.f1⟩ : S28), (rd_T30 l0 x41_2).f4, (rd_T30 l0 x41_2).f5, (rd_T30 l0 x41_2).f6⟩ : S30)); (case aB => exact u10_5); (case aF => exact (fun k_ hk => ⟨Kd.freshB (g := gb220) (o := .cells #[.string a1_0, .int .i64 a1_1, .string a1_2, .int .i64 a1_3, .int .i64 a1_4, .int .i64 a1_5, .int .i64 a1_6, .int .i64 a1_7] 30 (0, 0)) u10_1 k_ hk, Kd.freshB (g := gb232) (o := .cells #[.string ((rd_T30 l0 x41_2).f0), .int .i64 ((rd_T30 l0 x41_2).f1), .string ((rd_T30 l0 x41_2).f2), .int .i64 ((rd_T30 l0 x41_2).f3.f0), .int .i64 ((rd_T30 l0 x41_2).f3.f1), .int .i64 ((rd_T30 l0 x41_2).f4), .int .i64 ((rd_T30 l0 x41_2).f5), .int .i64 ((rd_T30 l0 x41_2).f6)] 30 (0, 0)) u10_0 k_ hk⟩)); (case aO => exact u10_4); (case aS => exact (below_size u10_5)); (case aL => have := LMc58.out; omega); intro v243 w63 ho hb hg hat; rw [← Ny242.out] at ho; have n0_ := Aside0.mk (blk_grown (g := gb220) (o := .cells #[.string a1_0, .int .i64 a1_1, .string a1_2, .int .i64 a1_3, .int .i64 a1_4, .int .i64 a1_5, .int .i64 a1_6, .int .i64 a1_7] 30 (0, 0)) u10_1 hg (Kd.R_away HO_6.out (fun _ hk => hk.1))); have n1_ := Aside0.mk (blk_grown (g := gb232) (o := .cells #[.string ((rd_T30 l0 x41_2).f0), .int .i64 ((rd_T30 l0 x41_2).f1), .string ((rd_T30 l0 x41_2).f2), .int .i64 ((rd_T30 l0 x41_2).f3.f0), .int .i64 ((rd_T30 l0 x41_2).f3.f1), .int .i64 ((rd_T30 l0 x41_2).f4), .int .i64 ((rd_T30 l0 x41_2).f5), .int .i64 ((rd_T30 l0 x41_2).f6)] 30 (0, 0)) u10_0 hg (Kd.R_away HO_6.out (fun _ hk => hk.2))); have n2_ := Aside0.mk (hb); have n3_ := Aside0.mk (ho); clear BK220; clear BK232; clear HB; clear HO_6; have BK220 := n0_; have BK232 := n1_; have HB := n2_; have HO244 := n3_; clear n0_ n1_ n2_ n3_; clear ho hb hg hat))
            go_roundg k2
            case measure => have := HJ2.out; have := HK2.out; omega
            case rel => exact ⟨(y242), (false), (wrap64 (x41_2 + 1)), u10_8, u10_8, H', ⟨by have := HJ2.out; have := HK2.out; omega⟩, ⟨by (with_reducible repeat (first | apply Kd.R_alloc | apply Kd.R_drewN | apply Kd.R_drew)); exact Kd.R_mono HO244.out (fun _ hk => hk.1)⟩, ⟨by (with_reducible repeat (first | refine blk_drewN ?_ _ | refine blk_drew ?_ | refine blk_alloc ?_ _)); exact BK220.out⟩, ⟨s10_0⟩⟩
           ·rw [if_neg c58] at H
            exact absurd H (by simp)
        ·rw [if_neg c41] at H
         exact absurd H (by simp)
       ·rw [if_neg c40] at H
        exact absurd H (by simp)
      ·rw [if_neg c39] at H
       have c39b0 : decide (x41_2 < (l0.length : Int)) = false := decide_eq_false c39
       clear c39
       by_cases c64 : x7_2 = true
       ·subst c64
        have H1 : (some (x6_2, true)) = some (r1, r2) := by rw [if_pos rfl] at H; exact H
        clear H
        have H := H1
        clear H1
        simp only [Option.some.injEq, Prod.mk.injEq] at H
        obtain ⟨rfl, rfl⟩ := H
        go_wp2
        go_ret2
        exact ⟨_, by first | rfl | (simp [*] <;> rfl), by (with_reducible repeat (first | apply Kd.R_alloc | apply Kd.R_drewN | apply Kd.R_drew)); exact Kd.R_mono HO_6.out (fun _ hk => trivial), s10_3⟩
       ·replace c64 := Bool.eq_false_iff.mpr c64
        subst c64
        have H1 : (if x6_2.length < 1759218604441 then (some ((x6_2 ++ [(⟨a1_0, a1_1, a1_2, (⟨a1_3, a1_4⟩ : S28), a1_5, a1_6, a1_7⟩ : S30)]), true)) else (none)) = some (r1, r2) := by rw [if_neg (show ¬ (false = true) by decide)] at H; exact H
        clear H
        have H := H1
        clear H1
        by_cases c65 : x6_2.length < 1759218604441
        ·rw [if_pos c65] at H
         have LMc65 := Aside0.mk c65
         clear c65
         obtain ⟨y245, hy245⟩ : ∃ y_ : List (S30), y_ = (x6_2 ++ [(⟨a1_0, a1_1, a1_2, (⟨a1_3, a1_4⟩ : S28), a1_5, a1_6, a1_7⟩ : S30)]) := ⟨_, rfl⟩
         replace H : (some (y245, true)) = some (r1, r2) := by first | (rw [hy245]; with_reducible exact H) | (have H2_ := (Option.bind_some _ _).symm.trans H; rw [hy245]; with_reducible exact H2_) | (have H2_ := (Option.bind_some _ _).symm.trans H; with_reducible exact H2_) | with_reducible exact H | (rw [hy245]; exact H) | exact H
         have Ny245 := Aside0.mk hy245
         clear hy245
         simp only [Option.some.injEq, Prod.mk.injEq] at H
         obtain ⟨rfl, rfl⟩ := H
         obtain ⟨hcz66_0, hcz66_1, hcz66_2, hcz66_3, hcz66_4, hcz66_5, hcz66_6, hcz66_7, hfz66_0, hfz66_1, hfz66_2, hfz66_3, hfz66_4, hfz66_5, hfz66_6, hfz66_7⟩ := cf8 BK220.out
         go_wp2_with (first | ((with_reducible refine gate_builtin (b := .append) (xs := #[.tmp 65, .tmp 67]) rfl ?_); (try (refine gate_guard (by rfl) ?_; dsimp only)); at_builtin; refine Kd.R_append k30 (w0 := w) w.heap.size rfl (.tmp 65) (.tmp 67) 36 30 (.agg #[(.string ⟨#[]⟩), (.int .i64 0), (.string ⟨#[]⟩), (.int .i64 0), (.int .i64 0), (.int .i64 0), (.int .i64 0), (.int .i64 0)]) 80 rfl Try.underlying36 info30 rfl (by decide) (by omega) u6 x6_2 (⟨a1_0, a1_1, a1_2, (⟨a1_3, a1_4⟩ : S28), a1_5, a1_6, a1_7⟩ : S30) [.string a1_0, .int .i64 a1_1, .string a1_2, .int .i64 a1_3, .int .i64 a1_4, .int .i64 a1_5, .int .i64 a1_6, .int .i64 a1_7] (fun k_ => k_ ≠ gb220) (fun _ => False) rfl rfl ?aP (fun _ hk => hk.elim) ?aF ?aO ?aB ?aS ?aL ?_; (case aP => exact k30_mkM _ _ _ (⟨a1_0, a1_1, a1_2, (⟨a1_3, a1_4⟩ : S28), a1_5, a1_6, a1_7⟩ : S30)); (case aB => exact u10_2); (case aF => exact (fun k_ hk => Kd.freshB (g := gb220) (o := .cells #[.string a1_0, .int .i64 a1_1, .string a1_2, .int .i64 a1_3, .int .i64 a1_4, .int .i64 a1_5, .int .i64 a1_6, .int .i64 a1_7] 30 (0, 0)) u10_3 k_ hk)); (case aO => exact u10_9); (case aS => exact (below_size u10_2)); (case aL => have := LMc65.out; omega); intro v246 w67 ho hb hg hat; rw [← Ny245.out] at ho; have n0_ := Aside0.mk (blk_grown (g := gb220) (o := .cells #[.string a1_0, .int .i64 a1_1, .string a1_2, .int .i64 a1_3, .int .i64 a1_4, .int .i64 a1_5, .int .i64 a1_6, .int .i64 a1_7] 30 (0, 0)) u10_3 hg (Kd.R_away HO_6.out (fun _ hk => hk))); have n1_ := Aside0.mk (hb); have n2_ := Aside0.mk (ho); clear BK220; clear HB; clear HO_6; have BK220 := n0_; have HB := n1_; have HO247 := n2_; clear n0_ n1_ n2_; clear ho hb hg hat))
         go_ret2
         exact ⟨_, by first | rfl | (simp [*] <;> rfl), by (with_reducible repeat (first | apply Kd.R_alloc | apply Kd.R_drewN | apply Kd.R_drew)); exact Kd.R_mono HO247.out (fun _ hk => trivial), s10_3⟩
        ·rw [if_neg c65] at H
         exact absurd H (by simp)

def spec_l1Byte.f (s0_0 : List Int) (s0_1 : Int) (s0_2 : Int) : Option (Int × Int × Int) := if s0_1 < (s0_0.length : Int) then (if 0 ≤ s0_1 then (some (Go.bits .and .i64 (wrap64 ((Go.bits .and .i64 (Go.bits .xor .i64 ((wrap64 ((wrap64 (s0_2 * 6364136223846793005)) + 1442695040888963407)) / 34359738368) ((wrap64 ((wrap64 (s0_2 * 6364136223846793005)) + 1442695040888963407)) / 35184372088832)) 255) + (wrap64 (rd s0_0 s0_1)))) 255, wrap64 (s0_1 + 1), wrap64 ((wrap64 (s0_2 * 6364136223846793005)) + 1442695040888963407))) else (none)) else (some (Go.bits .and .i64 (Go.bits .xor .i64 ((wrap64 ((wrap64 (s0_2 * 6364136223846793005)) + 1442695040888963407)) / 34359738368) ((wrap64 ((wrap64 (s0_2 * 6364136223846793005)) + 1442695040888963407)) / 35184372088832)) 255, s0_1, wrap64 ((wrap64 (s0_2 * 6364136223846793005)) + 1442695040888963407)))
set_option maxHeartbeats 8000000 in
set_option maxRecDepth 100000 in
theorem spec_l1Byte.calls (g : Nat) (s0_0 : List Int) (s0_1 : Int) (s0_2 : Int) (r1 : Int) (r2 : Int) (r3 : Int) (w0 w : World) (hI : IsS95 w0 w g s0_0 s0_1 s0_2) (hB : Below w0.heap.size w0 w) (h : spec_l1Byte.f s0_0 s0_1 s0_2 = some (r1, r2, r3)) :
  Calls Try.prog 102 #[.pointer (some ⟨g, 0, none⟩)] w fun e w' => e = .returned (.int .i64 r1) ∧ IsS95 w0 w' g s0_0 r2 r3 ∧ Below w0.heap.size w0 w' ∧ KeepBut w w' g none := by
 have HI0 := Aside0.mk hI
 have HK := Aside0.mk (KeepBut.refl w g none)
 have HL := Aside0.mk hB.size
 clear hI
 have HW0 := Aside0.mk hB.size
 have HB := Aside0.mk hB
 clear hB
 have H : (if s0_1 < (s0_0.length : Int) then (if 0 ≤ s0_1 then (some (Go.bits .and .i64 (wrap64 ((Go.bits .and .i64 (Go.bits .xor .i64 ((wrap64 ((wrap64 (s0_2 * 6364136223846793005)) + 1442695040888963407)) / 34359738368) ((wrap64 ((wrap64 (s0_2 * 6364136223846793005)) + 1442695040888963407)) / 35184372088832)) 255) + (wrap64 (rd s0_0 s0_1)))) 255, wrap64 (s0_1 + 1), wrap64 ((wrap64 (s0_2 * 6364136223846793005)) + 1442695040888963407))) else (none)) else (some (Go.bits .and .i64 (Go.bits .xor .i64 ((wrap64 ((wrap64 (s0_2 * 6364136223846793005)) + 1442695040888963407)) / 34359738368) ((wrap64 ((wrap64 (s0_2 * 6364136223846793005)) + 1442695040888963407)) / 35184372088832)) 255, s0_1, wrap64 ((wrap64 (s0_2 * 6364136223846793005)) + 1442695040888963407)))) = some (r1, r2, r3) := h
 clear h
 by_cases c2 : s0_1 < (s0_0.length : Int)
 ·rw [if_pos c2] at H
  have c2b0 : decide (s0_1 < (s0_0.length : Int)) = true := decide_eq_true c2
  clear c2
  by_cases c3 : 0 ≤ s0_1
  ·rw [if_pos c3] at H
   have c3b0 : decide (0 ≤ s0_1) = true := decide_eq_true c3
   clear c3
   simp only [Option.some.injEq, Prod.mk.injEq] at H
   obtain ⟨rfl, rfl, rfl⟩ := H
   obtain ⟨ASz4_0, cSz4_0, HGz4, hgz4, HSz4_0⟩ := HI0.out
   have hcz4_0 := cellS95_0 HGz4
   have hcz4_1 := cellS95_1 HGz4
   have hcz4_2 := cellS95_2 HGz4
   have hfz4_1 := blk_frozen HGz4 1
   have hfz4_2 := blk_frozen HGz4 2
   clear HGz4 hgz4
   have p248 : 0 ≤ (s0_1 : Int) := of_decide_eq_true (by assumption)
   have q248 : s0_1 < (s0_0.length : Int) := of_decide_eq_true (by assumption)
   obtain ⟨ad248, e248, hx248_0⟩ := Kd.at_int HSz4_0 s0_1 p248 q248
   cases e248
   have hn248_0 : ad248.block ≠ g := Nat.ne_of_lt (Nat.lt_of_lt_of_le (by have := World.block_lt_of_cell? _ _ hx248_0; first | rwa [add_block] at this | exact this) (IsS95.ge HI0.out))
   replace hx248_0 := pw_cell_below HB.out hx248_0
   replace hx248_0 := (cell_far (p := ⟨g, 2, none⟩) (by first | (rw [add_block]; exact hn248_0) | (show (Addr.add _ _).block ≠ _; rw [add_block]; exact hn248_0) | exact hn248_0) (.int .i64 (wrap64 ((wrap64 (s0_2 * 6364136223846793005)) + 1442695040888963407)))).trans hx248_0
   (try have hy248_0 := fun (n_ : Nat) => (show (((w.drewN n_).setCell ⟨g, 2, none⟩ (.int .i64 (wrap64 ((wrap64 (s0_2 * 6364136223846793005)) + 1442695040888963407))))).cell? _ = some _ from hx248_0))
   clear hn248_0
   replace p248 := eq_true p248
   replace q248 := eq_true q248
   go_enter Try.func102, Try.ntmps102
   go_wp2
   repeat (go_quiet (fail); try go_wp2)
   go_ret
   exact ⟨by first | rfl | (simp [*] <;> rfl), s10_2, s10_1, s10_4⟩
  ·rw [if_neg c3] at H
   exact absurd H (by simp)
 ·rw [if_neg c2] at H
  have c2b0 : decide (s0_1 < (s0_0.length : Int)) = false := decide_eq_false c2
  clear c2
  simp only [Option.some.injEq, Prod.mk.injEq] at H
  obtain ⟨rfl, rfl, rfl⟩ := H
  obtain ⟨ASz5_0, cSz5_0, HGz5, hgz5, HSz5_0⟩ := HI0.out
  have hcz5_0 := cellS95_0 HGz5
  have hcz5_1 := cellS95_1 HGz5
  have hcz5_2 := cellS95_2 HGz5
  have hfz5_1 := blk_frozen HGz5 1
  have hfz5_2 := blk_frozen HGz5 2
  clear HGz5 hgz5
  go_enter Try.func102, Try.ntmps102
  go_wp2
  repeat (go_quiet (fail); try go_wp2)
  go_ret
  exact ⟨by first | rfl | (simp [*] <;> rfl), s10_2, s10_1, s10_4⟩

def spec_l1Below.f (s0_0 : List Int) (s0_1 : Int) (s0_2 : Int) (a1 : Int) : Option (Int × Int × Int) := if a1 ≤ 0 then (some (0, s0_1, s0_2)) else (if a1 ≤ 256 then ((spec_l1Byte.f s0_0 s0_1 s0_2).bind fun bt249 => (if a1 = 0 then (none) else (some (Int.tmod bt249.1 a1, bt249.2.1, bt249.2.2)))) else ((spec_l1Byte.f s0_0 s0_1 s0_2).bind fun bt252 => ((spec_l1Byte.f s0_0 bt252.2.1 bt252.2.2).bind fun bt255 => ((spec_l1Byte.f s0_0 bt255.2.1 bt255.2.2).bind fun bt258 => (if a1 = 0 then (none) else (some (Int.tmod (wrap64 ((wrap64 ((wrap64 (bt252.1 * 65536)) + (wrap64 (bt255.1 * 256)))) + bt258.1)) a1, bt258.2.1, bt258.2.2)))))))
set_option maxHeartbeats 8000000 in
set_option maxRecDepth 100000 in
theorem spec_l1Below.calls (g : Nat) (s0_0 : List Int) (s0_1 : Int) (s0_2 : Int) (a1 : Int) (r1 : Int) (r2 : Int) (r3 : Int) (w0 w : World) (hI : IsS95 w0 w g s0_0 s0_1 s0_2) (hB : Below w0.heap.size w0 w) (h : spec_l1Below.f s0_0 s0_1 s0_2 a1 = some (r1, r2, r3)) :
  Calls Try.prog 84 #[.pointer (some ⟨g, 0, none⟩), .int .i64 a1] w fun e w' => e = .returned (.int .i64 r1) ∧ IsS95 w0 w' g s0_0 r2 r3 ∧ Below w0.heap.size w0 w' ∧ KeepBut w w' g none := by
 have HI0 := Aside0.mk hI
 have HK := Aside0.mk (KeepBut.refl w g none)
 have HL := Aside0.mk hB.size
 clear hI
 have HW0 := Aside0.mk hB.size
 have HB := Aside0.mk hB
 clear hB
 have H : (if a1 ≤ 0 then (some (0, s0_1, s0_2)) else (if a1 ≤ 256 then ((spec_l1Byte.f s0_0 s0_1 s0_2).bind fun bt249 => (if a1 = 0 then (none) else (some (Int.tmod bt249.1 a1, bt249.2.1, bt249.2.2)))) else ((spec_l1Byte.f s0_0 s0_1 s0_2).bind fun bt252 => ((spec_l1Byte.f s0_0 bt252.2.1 bt252.2.2).bind fun bt255 => ((spec_l1Byte.f s0_0 bt255.2.1 bt255.2.2).bind fun bt258 => (if a1 = 0 then (none) else (some (Int.tmod (wrap64 ((wrap64 ((wrap64 (bt252.1 * 65536)) + (wrap64 (bt255.1 * 256)))) + bt258.1)) a1, bt258.2.1, bt258.2.2)))))))) = some (r1, r2, r3) := h
 clear h
 by_cases c3 : a1 ≤ 0
 ·rw [if_pos c3] at H
  have c3b0 : decide (a1 ≤ 0) = true := decide_eq_true c3
  clear c3
  simp only [Option.some.injEq, Prod.mk.injEq] at H
  obtain ⟨rfl, rfl, rfl⟩ := H
  go_enter Try.func84, Try.ntmps84
  go_wp2
  go_ret
  exact ⟨by first | rfl | (simp [*] <;> rfl), s10_2, s10_1, s10_4⟩
 ·rw [if_neg c3] at H
  have c3b0 : decide (a1 ≤ 0) = false := decide_eq_false c3
  clear c3
  by_cases c4 : a1 ≤ 256
  ·rw [if_pos c4] at H
   have c4b0 : decide (a1 ≤ 256) = true := decide_eq_true c4
   clear c4
   replace H := Option.bind_eq_some_iff.mp H
   obtain ⟨⟨t249, t250, t251⟩, A50, H⟩ := H
   replace H : (if a1 = 0 then (none) else (some (Int.tmod t249 a1, t250, t251))) = some (r1, r2, r3) := H
   have A5 := Aside0.mk A50
   clear A50
   by_cases c6 : a1 = 0
   ·rw [if_pos c6] at H
    exact absurd H (by simp)
   ·rw [if_neg c6] at H
    have c6b0 : (a1 == 0) = false := beq_eq_false_iff_ne.mpr c6
    have c6b1 : (a1 != 0) = true := bne_iff_ne.mpr c6
    simp only [Option.some.injEq, Prod.mk.injEq] at H
    obtain ⟨rfl, rfl, rfl⟩ := H
    go_enter Try.func84, Try.ntmps84
    go_wp2_with (first | ((with_reducible refine gate_callee (f := 102) rfl ?_); refine goesL_ (some 13) rfl rfl Try.func102 (by kernel_rfl) rfl #[.pointer (some ⟨g, 0, none⟩)] rfl u10_6 ?_; (with_reducible refine (spec_l1Byte.calls g s0_0 s0_1 s0_2 t249 t250 t251 w0 _ ?side1 ?side2 A5.out).mono ?_); (case side1 => exact s10_2); (case side2 => exact s10_1); rintro e w7 ⟨rfl, hi, hb, hk⟩; refine ⟨_, rfl, ?_⟩; have n0_ := Aside0.mk (KeepBut.trans u10_7 hk (.inl rfl)); have n1_ := Aside0.mk (hb); have n2_ := Aside0.mk (hi); clear HK; clear HB; clear HI0; have HK := n0_; have HB := n1_; have HI0 := n2_; clear n0_ n1_ n2_; (try clear hb); (try clear hb2); (try clear hk); (try clear hi)))
    go_ret
    exact ⟨by first | rfl | (simp [*] <;> rfl), s10_2, s10_1, s10_4⟩
  ·rw [if_neg c4] at H
   have c4b0 : decide (a1 ≤ 256) = false := decide_eq_false c4
   clear c4
   replace H := Option.bind_eq_some_iff.mp H
   obtain ⟨⟨t252, t253, t254⟩, A80, H⟩ := H
   replace H : ((spec_l1Byte.f s0_0 t253 t254).bind fun bt255 => ((spec_l1Byte.f s0_0 bt255.2.1 bt255.2.2).bind fun bt258 => (if a1 = 0 then (none) else (some (Int.tmod (wrap64 ((wrap64 ((wrap64 (t252 * 65536)) + (wrap64 (bt255.1 * 256)))) + bt258.1)) a1, bt258.2.1, bt258.2.2))))) = some (r1, r2, r3) := H
   have A8 := Aside0.mk A80
   clear A80
   replace H := Option.bind_eq_some_iff.mp H
   obtain ⟨⟨t255, t256, t257⟩, A90, H⟩ := H
   replace H : ((spec_l1Byte.f s0_0 t256 t257).bind fun bt258 => (if a1 = 0 then (none) else (some (Int.tmod (wrap64 ((wrap64 ((wrap64 (t252 * 65536)) + (wrap64 (t255 * 256)))) + bt258.1)) a1, bt258.2.1, bt258.2.2)))) = some (r1, r2, r3) := H
   have A9 := Aside0.mk A90
   clear A90
   replace H := Option.bind_eq_some_iff.mp H
   obtain ⟨⟨t258, t259, t260⟩, A100, H⟩ := H
   replace H : (if a1 = 0 then (none) else (some (Int.tmod (wrap64 ((wrap64 ((wrap64 (t252 * 65536)) + (wrap64 (t255 * 256)))) + t258)) a1, t259, t260))) = some (r1, r2, r3) := H
   have A10 := Aside0.mk A100
   clear A100
   by_cases c11 : a1 = 0
   ·rw [if_pos c11] at H
    exact absurd H (by simp)
   ·rw [if_neg c11] at H
    have c11b0 : (a1 == 0) = false := beq_eq_false_iff_ne.mpr c11
    have c11b1 : (a1 != 0) = true := bne_iff_ne.mpr c11
    simp only [Option.some.injEq, Prod.mk.injEq] at H
    obtain ⟨rfl, rfl, rfl⟩ := H
    go_enter Try.func84, Try.ntmps84
    go_wp2_with (first | ((with_reducible refine gate_callee (f := 102) rfl ?_); refine goesL_ (some 17) rfl rfl Try.func102 (by kernel_rfl) rfl #[.pointer (some ⟨g, 0, none⟩)] rfl u10_6 ?_; (with_reducible refine (spec_l1Byte.calls g s0_0 s0_1 s0_2 t252 t253 t254 w0 _ ?side1 ?side2 A8.out).mono ?_); (case side1 => exact s10_2); (case side2 => exact s10_1); rintro e w12 ⟨rfl, hi, hb, hk⟩; refine ⟨_, rfl, ?_⟩; have n0_ := Aside0.mk (KeepBut.trans u10_7 hk (.inl rfl)); have n1_ := Aside0.mk (hb); have n2_ := Aside0.mk (hi); clear HK; clear HB; clear HI0; have HK := n0_; have HB := n1_; have HI0 := n2_; clear n0_ n1_ n2_; (try clear hb); (try clear hb2); (try clear hk); (try clear hi)) | ((with_reducible refine gate_callee (f := 102) rfl ?_); refine goesL_ (some 19) rfl rfl Try.func102 (by kernel_rfl) rfl #[.pointer (some ⟨g, 0, none⟩)] rfl u10_6 ?_; (with_reducible refine (spec_l1Byte.calls g s0_0 t253 t254 t255 t256 t257 w0 _ ?side1 ?side2 A9.out).mono ?_); (case side1 => exact s10_2); (case side2 => exact s10_1); rintro e w13 ⟨rfl, hi, hb, hk⟩; refine ⟨_, rfl, ?_⟩; have n0_ := Aside0.mk (KeepBut.trans u10_7 hk (.inl rfl)); have n1_ := Aside0.mk (hb); have n2_ := Aside0.mk (hi); clear HK; clear HB; clear HI0; have HK := n0_; have HB := n1_; have HI0 := n2_; clear n0_ n1_ n2_; (try clear hb); (try clear hb2); (try clear hk); (try clear hi)) | ((with_reducible refine gate_callee (f := 102) rfl ?_); refine goesL_ (some 21) rfl rfl Try.func102 (by kernel_rfl) rfl #[.pointer (some ⟨g, 0, none⟩)] rfl u10_6 ?_; (with_reducible refine (spec_l1Byte.calls g s0_0 t256 t257 t258 t259 t260 w0 _ ?side1 ?side2 A10.out).mono ?_); (case side1 => exact s10_2); (case side2 => exact s10_1); rintro e w14 ⟨rfl, hi, hb, hk⟩; refine ⟨_, rfl, ?_⟩; have n0_ := Aside0.mk (KeepBut.trans u10_7 hk (.inl rfl)); have n1_ := Aside0.mk (hb); have n2_ := Aside0.mk (hi); clear HK; clear HB; clear HI0; have HK := n0_; have HB := n1_; have HI0 := n2_; clear n0_ n1_ n2_; (try clear hb); (try clear hb2); (try clear hk); (try clear hi)))
    go_ret
    exact ⟨by first | rfl | (simp [*] <;> rfl), s10_2, s10_1, s10_4⟩

def spec_l1Some.f (s0_0 : List Int) (s0_1 : Int) (s0_2 : Int) (a1 : Int) (a2 : Int) : Option (Int × Int × Int) := (spec_l1Below.f s0_0 s0_1 s0_2 (wrap64 ((wrap64 (a2 - a1)) + 1))).bind fun bt261 => (some (wrap64 (a1 + bt261.1), bt261.2.1, bt261.2.2))
set_option maxHeartbeats 8000000 in
set_option maxRecDepth 100000 in
theorem spec_l1Some.calls (g : Nat) (s0_0 : List Int) (s0_1 : Int) (s0_2 : Int) (a1 : Int) (a2 : Int) (r1 : Int) (r2 : Int) (r3 : Int) (w0 w : World) (hI : IsS95 w0 w g s0_0 s0_1 s0_2) (hB : Below w0.heap.size w0 w) (h : spec_l1Some.f s0_0 s0_1 s0_2 a1 a2 = some (r1, r2, r3)) :
  Calls Try.prog 104 #[.pointer (some ⟨g, 0, none⟩), .int .i64 a1, .int .i64 a2] w fun e w' => e = .returned (.int .i64 r1) ∧ IsS95 w0 w' g s0_0 r2 r3 ∧ Below w0.heap.size w0 w' ∧ KeepBut w w' g none := by
 have HI0 := Aside0.mk hI
 have HK := Aside0.mk (KeepBut.refl w g none)
 have HL := Aside0.mk hB.size
 clear hI
 have HW0 := Aside0.mk hB.size
 have HB := Aside0.mk hB
 clear hB
 have H : ((spec_l1Below.f s0_0 s0_1 s0_2 (wrap64 ((wrap64 (a2 - a1)) + 1))).bind fun bt261 => (some (wrap64 (a1 + bt261.1), bt261.2.1, bt261.2.2))) = some (r1, r2, r3) := h
 clear h
 replace H := Option.bind_eq_some_iff.mp H
 obtain ⟨⟨t261, t262, t263⟩, A40, H⟩ := H
 replace H : (some (wrap64 (a1 + t261), t262, t263)) = some (r1, r2, r3) := H
 have A4 := Aside0.mk A40
 clear A40
 simp only [Option.some.injEq, Prod.mk.injEq] at H
 obtain ⟨rfl, rfl, rfl⟩ := H
 go_enter Try.func104, Try.ntmps104
 go_wp2_with (first | ((with_reducible refine gate_callee (f := 84) rfl ?_); refine goesL_ (some 13) rfl rfl Try.func84 (by kernel_rfl) rfl #[.pointer (some ⟨g, 0, none⟩), .int .i64 (wrap64 ((wrap64 (a2 - a1)) + 1))] rfl u10_6 ?_; (with_reducible refine (spec_l1Below.calls g s0_0 s0_1 s0_2 (wrap64 ((wrap64 (a2 - a1)) + 1)) t261 t262 t263 w0 _ ?side1 ?side2 A4.out).mono ?_); (case side1 => exact s10_2); (case side2 => exact s10_1); rintro e w5 ⟨rfl, hi, hb, hk⟩; refine ⟨_, rfl, ?_⟩; have n0_ := Aside0.mk (KeepBut.trans u10_7 hk (.inl rfl)); have n1_ := Aside0.mk (hb); have n2_ := Aside0.mk (hi); clear HK; clear HB; clear HI0; have HK := n0_; have HB := n1_; have HI0 := n2_; clear n0_ n1_ n2_; (try clear hb); (try clear hb2); (try clear hk); (try clear hi)))
 go_ret
 exact ⟨by first | rfl | (simp [*] <;> rfl), s10_2, s10_1, s10_4⟩

end Go.Proofs.Ytkedcokhcgklpaa.MFnRig
