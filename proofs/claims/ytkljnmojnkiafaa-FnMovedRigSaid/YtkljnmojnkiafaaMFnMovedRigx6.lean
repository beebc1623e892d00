-- Written by a program for this claim.
import Derived.Laws.Cover1
import Derived.Test.YtkljnmojnkiafaaMFnMovedRigx0
import Derived.Test.YtkljnmojnkiafaaMFnMovedRigx2
import Derived.Test.YtkljnmojnkiafaaMFnMovedRigx3
import Derived.Test.YtkljnmojnkiafaaMFnMovedRigx4
import Derived.Test.YtkljnmojnkiafaaMFnMovedRigx5
namespace Go.Proofs.Ytkljnmojnkiafaa.MFnMovedRig
open Go.RowKit Go.Proofs.YtkljnmojnkiafaaW.PrintWords Go.Proofs.YtkljnmojnkiafaaW.PrintLast Go.Proofs.YtkljnmojnkiafaaW.PrintMore
attribute [local go_sem] max2_int min2_int max_two min_two max_three min_three max_four min_four   -- for this text's walks alone
set_option linter.unusedVariables false
set_option linter.unusedSimpArgs false

theorem s6_0 {p : Prop} (h : p := by repeat (first | (with_reducible first | exact HI0.out | apply IsS133.alloc | apply IsS133.drewN | apply IsS133.drew | apply IsS133.set_1 | apply IsS133.set_2 | refine IsS133.far ?_ NB0_189.out _) | exact HI0.out)) : p := h
theorem s6_1 {p : Prop} (h : p := by repeat (first | (with_reducible first | exact HI0.out | apply IsS133.alloc | apply IsS133.drewN | apply IsS133.drew | apply IsS133.set_1 | apply IsS133.set_2 | refine IsS133.far ?_ NB0_196.out _) | exact HI0.out)) : p := h
theorem s6_2 {p : Prop} (h : p := by repeat (first | (with_reducible first | exact HB.out | apply below_alloc | apply pw_below_drewN | apply below_drew1 | refine below_set ?_ (IsS133.ge HI0.out) | refine below_set ?_ GE189.out) | exact HB.out)) : p := h
theorem s6_3 {p : Prop} (h : p := by repeat (first | (with_reducible first | exact HB.out | apply below_alloc | apply pw_below_drewN | apply below_drew1 | refine below_set ?_ (IsS133.ge HI0.out) | refine below_set ?_ GE196.out) | exact HB.out)) : p := h
theorem s6_4 {p : Prop} (h : p := by repeat (first | (with_reducible first | exact HB.out | apply below_alloc | apply pw_below_drewN | apply below_drew1 | refine below_set ?_ GE158.out | refine below_set ?_ GE170.out) | exact HB.out)) : p := h
theorem s6_5 {p : Prop} (h : p := by repeat (first | (with_reducible first | exact HI0.out | apply IsS133.alloc | apply IsS133.drewN | apply IsS133.drew | apply IsS133.set_1 | apply IsS133.set_2) | exact HI0.out)) : p := h
theorem s6_6 {p : Prop} (h : p := by repeat (first | (with_reducible first | exact HB.out | apply below_alloc | apply pw_below_drewN | apply below_drew1 | refine below_set ?_ (IsS133.ge HI0.out)) | exact HB.out)) : p := h
theorem s6_7 {p : Prop} (h : p := by repeat (first | (with_reducible first | exact HB.out | apply below_alloc | apply pw_below_drewN | apply below_drew1 | refine below_set ?_ GE158.out) | exact HB.out)) : p := h
theorem y6_0 {p : Prop} (h : p := by repeat (first | exact (Kd.C_below HR0.out HB.out) | (with_reducible refine Kd.C_alloc ?_ _) | (with_reducible refine Kd.C_drewN ?_ _) | (with_reducible refine Kd.C_drew ?_))) : p := h
theorem u6_0 {p : Prop} (h : p := by (with_reducible repeat (first | refine blk_drewN ?_ _ | refine blk_drew ?_ | refine blk_alloc ?_ _)); refine blk_put (cs := zr5 ((rd_T87 l0 x41_2).f0) ((rd_T87 l0 x41_2).f1) ((rd_T87 l0 x41_2).f2) ((rd_T87 l0 x41_2).f3.f0) ((rd_T87 l0 x41_2).f3.f1) ((rd_T87 l0 x41_2).f4) ((rd_T87 l0 x41_2).f5) 0) ?_ 7 _ rfl; refine blk_put (cs := zr5 ((rd_T87 l0 x41_2).f0) ((rd_T87 l0 x41_2).f1) ((rd_T87 l0 x41_2).f2) ((rd_T87 l0 x41_2).f3.f0) ((rd_T87 l0 x41_2).f3.f1) ((rd_T87 l0 x41_2).f4) 0 0) ?_ 6 _ rfl; refine blk_put (cs := zr5 ((rd_T87 l0 x41_2).f0) ((rd_T87 l0 x41_2).f1) ((rd_T87 l0 x41_2).f2) ((rd_T87 l0 x41_2).f3.f0) ((rd_T87 l0 x41_2).f3.f1) 0 0 0) ?_ 5 _ rfl; refine blk_put (cs := zr5 ((rd_T87 l0 x41_2).f0) ((rd_T87 l0 x41_2).f1) ((rd_T87 l0 x41_2).f2) ((rd_T87 l0 x41_2).f3.f0) 0 0 0 0) ?_ 4 _ rfl; refine blk_put (cs := zr5 ((rd_T87 l0 x41_2).f0) ((rd_T87 l0 x41_2).f1) ((rd_T87 l0 x41_2).f2) 0 0 0 0 0) ?_ 3 _ rfl; refine blk_put (cs := zr5 ((rd_T87 l0 x41_2).f0) ((rd_T87 l0 x41_2).f1) (⟨#[]⟩ : ByteArray) 0 0 0 0 0) ?_ 2 _ rfl; (with_reducible repeat (first | refine blk_drewN ?_ _ | refine blk_drew ?_ | refine blk_alloc ?_ _)); refine blk_put (cs := zr5 ((rd_T87 l0 x41_2).f0) 0 (⟨#[]⟩ : ByteArray) 0 0 0 0 0) ?_ 1 _ rfl; (with_reducible repeat (first | refine blk_drewN ?_ _ | refine blk_drew ?_ | refine blk_alloc ?_ _)); refine blk_put (cs := zr5 (⟨#[]⟩ : ByteArray) 0 (⟨#[]⟩ : ByteArray) 0 0 0 0 0) ?_ 0 _ rfl; (with_reducible repeat (first | refine blk_drewN ?_ _ | refine blk_drew ?_ | refine blk_alloc ?_ _)); exact BK170.out) : p := h
theorem u6_1 {p : Prop} (h : p := by (with_reducible repeat (first | refine blk_drewN ?_ _ | refine blk_drew ?_ | refine blk_alloc ?_ _)); refine blk_far ?_ NB158_170.out _; (with_reducible repeat (first | refine blk_drewN ?_ _ | refine blk_drew ?_ | refine blk_alloc ?_ _)); refine blk_far ?_ NB158_170.out _; (with_reducible repeat (first | refine blk_drewN ?_ _ | refine blk_drew ?_ | refine blk_alloc ?_ _)); refine blk_far ?_ NB158_170.out _; (with_reducible repeat (first | refine blk_drewN ?_ _ | refine blk_drew ?_ | refine blk_alloc ?_ _)); refine blk_far ?_ NB158_170.out _; (with_reducible repeat (first | refine blk_drewN ?_ _ | refine blk_drew ?_ | refine blk_alloc ?_ _)); refine blk_far ?_ NB158_170.out _; (with_reducible repeat (first | refine blk_drewN ?_ _ | refine blk_drew ?_ | refine blk_alloc ?_ _)); refine blk_far ?_ NB158_170.out _; (with_reducible repeat (first | refine blk_drewN ?_ _ | refine blk_drew ?_ | refine blk_alloc ?_ _)); refine blk_far ?_ NB158_170.out _; (with_reducible repeat (first | refine blk_drewN ?_ _ | refine blk_drew ?_ | refine blk_alloc ?_ _)); refine blk_far ?_ NB158_170.out _; (with_reducible repeat (first | refine blk_drewN ?_ _ | refine blk_drew ?_ | refine blk_alloc ?_ _)); exact BK158.out) : p := h
theorem u6_2 {p : Prop} (h : p := by repeat (first | (with_reducible first | exact HB.out | apply below_alloc | apply pw_below_drewN | apply below_drew1 | refine below_set ?_ GE158.out) | exact HB.out)) : p := h
theorem u6_3 {p : Prop} (h : p := by (with_reducible repeat (first | refine blk_drewN ?_ _ | refine blk_drew ?_ | refine blk_alloc ?_ _)); exact BK158.out) : p := h
theorem u6_4 {p : Prop} (h : p := by (with_reducible repeat (first | apply Kd.R_alloc | apply Kd.R_drewN | apply Kd.R_drew)); exact Kd.R_mono (Kd.R_far (p := ⟨gb170, 7, none⟩) (Kd.R_far (p := ⟨gb170, 6, none⟩) (Kd.R_far (p := ⟨gb170, 5, none⟩) (Kd.R_far (p := ⟨gb170, 4, none⟩) (Kd.R_far (p := ⟨gb170, 3, none⟩) (Kd.R_far (p := ⟨gb170, 2, none⟩) (Kd.R_far (p := ⟨gb170, 1, none⟩) (Kd.R_far (p := ⟨gb170, 0, none⟩) (Kd.R_mono HO_6.out (fun k_ hk => (⟨hk, hk.2⟩ : _ ∧ k_ ≠ gb170))) (fun _ hk => hk.2) (.string ((rd_T87 l0 x41_2).f0))) (fun _ hk => hk.2) (.int .i64 ((rd_T87 l0 x41_2).f1))) (fun _ hk => hk.2) (.string ((rd_T87 l0 x41_2).f2))) (fun _ hk => hk.2) (.int .i64 ((rd_T87 l0 x41_2).f3.f0))) (fun _ hk => hk.2) (.int .i64 ((rd_T87 l0 x41_2).f3.f1))) (fun _ hk => hk.2) (.int .i64 ((rd_T87 l0 x41_2).f4))) (fun _ hk => hk.2) (.int .i64 ((rd_T87 l0 x41_2).f5))) (fun _ hk => hk.2) (.int .i64 ((rd_T87 l0 x41_2).f6))) (fun _ hk => ⟨hk.1.1, hk.1.2⟩)) : p := h
theorem u6_5 {p : Prop} (h : p := by repeat (first | (with_reducible first | exact HB.out | apply below_alloc | apply pw_below_drewN | apply below_drew1 | refine below_set ?_ GE158.out | refine below_set ?_ GE170.out) | exact HB.out)) : p := h
theorem u6_6 {p : Prop} (h : p := by (try simp only [List.map_toArray, List.map_cons, List.map_nil]); first | done | rfl) : p := h
theorem u6_7 {p : Prop} (h : p := by repeat (first | (with_reducible first | exact HK.out | apply KeepBut.set_ | apply keep_drewN | apply keep_drew | apply keep_alloc) | exact HK.out)) : p := h
theorem u6_8 {p : Prop} (h : p := by repeat (first | (with_reducible first | exact HB.out | apply below_alloc | apply pw_below_drewN | apply below_drew1) | exact HB.out)) : p := h
theorem u6_9 {p : Prop} (h : p := by first | rfl | (simp; done) | (simp [*]; done)) : p := h
theorem u6_10 {p : Prop} (h : p := by repeat (first | (with_reducible first | exact HK.out | apply KeepBut.set_ | apply keep_drewN | apply keep_drew | apply keep_alloc | refine keep_far ?_ GW196.out _) | exact HK.out)) : p := h
theorem u6_11 {p : Prop} (h : p := by (with_reducible repeat (first | refine blk_drewN ?_ _ | refine blk_drew ?_ | refine blk_alloc ?_ _)); exact BK196.out) : p := h
theorem u6_12 {p : Prop} (h : p := by (with_reducible repeat (first | apply Kd.R_alloc | apply Kd.R_drewN | apply Kd.R_drew)); exact HO_6.out) : p := h
def spec_l6Copies.f (l0 : List (S87)) : Option ((List (S87))) := (some (([] : List (S87)) : List (S87))).bind fun y152 => (if y152.length + l0.length < 1759218604441 then (some (y152 ++ l0)) else (none))
set_option maxHeartbeats 8000000 in
set_option maxRecDepth 100000 in
theorem spec_l6Copies.calls (A0 : Option Addr) (c0 : Nat) (l0 : List (S87)) (r : List (S87)) (w : World) (hr0 : Kd.C k87 w A0 l0.length l0) (hc0 : l0.length ≤ c0) (h : spec_l6Copies.f l0 = some r) :
  Calls Try.prog 157 #[.slice A0 l0.length c0] w fun e w' => ∃ v0_ : Value, e = .returned (v0_) ∧ Kd.R k87 87 w' w.heap.size (fun _ => True) v0_ r ∧ Below w.heap.size w w' := by
 have HR0 := am hr0
 have HC0 := am hc0
 clear hr0 hc0
 have HB := am (Below.refl w.heap.size w)
 have H : ((some (([] : List (S87)) : List (S87))).bind fun y152 => (if y152.length + l0.length < 1759218604441 then (some (y152 ++ l0)) else (none))) = some r := h
 clear h
 obtain ⟨y152, hy152⟩ : ∃ y_ : List (S87), y_ = (([] : List (S87))) := ⟨_, rfl⟩
 replace H : (if y152.length + l0.length < 1759218604441 then (some (y152 ++ l0)) else (none)) = some r := by first | (rw [hy152]; with_reducible exact H) | (have H2_ := (Option.bind_some _ _).symm.trans H; rw [hy152]; with_reducible exact H2_) | (have H2_ := (Option.bind_some _ _).symm.trans H; with_reducible exact H2_) | with_reducible exact H | (rw [hy152]; exact H) | exact H
 have Ny152 := am hy152
 clear hy152
 by_cases c2 : y152.length + l0.length < 1759218604441
 ·rw [if_pos c2] at H
  have LMc2 := am c2
  clear c2
  obtain ⟨y155, hy155⟩ : ∃ y_ : List (S87), y_ = (y152 ++ l0) := ⟨_, rfl⟩
  replace H : (some y155) = some r := by first | (rw [hy155]; with_reducible exact H) | (have H2_ := (Option.bind_some _ _).symm.trans H; rw [hy155]; with_reducible exact H2_) | (have H2_ := (Option.bind_some _ _).symm.trans H; with_reducible exact H2_) | with_reducible exact H | (rw [hy155]; exact H) | exact H
  have Ny155 := am hy155
  clear hy155
  obtain rfl := Option.some.inj H
  go_enter Try.func157, Try.ntmps157
  go_wp2_with (first | ((with_reducible refine gate_dst (N := 3) rfl ?_); refine Kd.R_lit k87 _ 87 ?hg (N := 3) ?hd (xs := ([] : List (S87))) (inner := []) (ok := fun _ => True) (okp := fun _ => True) ?hr ?hp (fun _ hk => hk) trivial (Below.refl _ _) (Nat.le_refl _) (by simp) ?_; (case hd => rfl); (case hg => rfl); (case hr => exact gq); (case hp => exact (Reps.none _ _)); intro v153 w3 ho4 hb hg_ hnew_; clear hg_ hnew_; (first | rw [← Ny152.out] at ho4 | (simp only [Int.reduceToNat] at ho4; rw [← Ny152.out] at ho4)); have n0_ := am (Kd.R_lower ho4 (below_size u6_8)); have n1_ := am (below_step u6_8 hb); clear HB; have HO154 := n0_; have HB := n1_; clear n0_ n1_ hb ho4) | ((with_reducible refine gate_builtin (b := .append) (xs := #[.tmp 3, .tmp 4]) rfl ?_); at_builtin; refine Kd.R_append_rows k87 (w0 := w) w.heap.size rfl (.tmp 3) (.tmp 4) 77 87 (.agg #[(.string ⟨#[]⟩), (.int .i64 0), (.string ⟨#[]⟩), (.int .i64 0), (.int .i64 0), (.int .i64 0), (.int .i64 0), (.int .i64 0)]) 80 rfl Try.underlying77 info87 rfl (by decide) (by omega) v153 y152 l0 _ _ _ (fun _ => True) (fun _ => False) rfl rfl ?aO ?aR (fun _ _ h => h) (fun _ h => h.elim) ?aF ?aB ?aS ?aL ?_; (case aR => repeat (first | exact (Kd.C_below HR0.out HB.out) | (with_reducible refine Kd.C_alloc ?_ _) | (with_reducible refine Kd.C_drewN ?_ _) | (with_reducible refine Kd.C_drew ?_))); (case aB => exact u6_8); (case aF => exact (fun _ _ => trivial)); (case aO => exact (by (with_reducible repeat (first | apply Kd.R_alloc | apply Kd.R_drewN | apply Kd.R_drew)); exact HO154.out)); (case aS => exact (below_size u6_8)); (case aL => have := LMc2.out; omega); intro v156 w5 ho hb hg hat; rw [← Ny155.out] at ho; have n0_ := am (hb); have n1_ := am (ho); clear HB HO154; have HB := n0_; have HO157 := n1_; clear n0_ n1_ ho hb hg hat))
  go_ret
  exact ⟨_, by first | rfl | (simp [*] <;> rfl), by (with_reducible repeat (first | apply Kd.R_alloc | apply Kd.R_drewN | apply Kd.R_drew)); exact HO157.out, by repeat (first | (with_reducible first | exact HB.out | apply below_alloc | apply pw_below_drewN | apply below_drew1) | exact HB.out)⟩
 ·rw [if_neg c2] at H
  exact absurd H (by simp)

theorem blU_irr : ∀ x, Op.bytesLess x x = false
 | [] => rfl
 | a :: x => by
  simp only [Op.bytesLess, blU_irr x, Bool.and_false, Bool.or_false, decide_eq_false_iff_not]
  exact UInt8.lt_irrefl a
theorem blU_tri : ∀ x y, Op.bytesLess x y = false → Op.bytesLess y x = false → x = y
 | [], [], _, _ => rfl
 | [], _ :: _, h, _ => by simp [Op.bytesLess] at h
 | _ :: _, [], _, h => by simp [Op.bytesLess] at h
 | a :: x, b :: y, h, h' => by
  simp only [Op.bytesLess, Bool.or_eq_false_iff, decide_eq_false_iff_not] at h h'
  have hab : a = b := by
   have h1 := h.1; have h2 := h'.1
   exact UInt8.le_antisymm (UInt8.not_lt.1 h2) (UInt8.not_lt.1 h1)
  subst hab
  simp only [beq_self_eq_true, Bool.true_and] at h h'
  rw [blU_tri x y h.2 h'.2]
theorem blU_ne {x y : List UInt8} (h : Op.bytesLess y x = true) : (x == y) = false := by
 refine beq_eq_false_iff_ne.2 (fun e => ?_)
 rw [e, blU_irr] at h; cases h
theorem blU_eq {x y : List UInt8} (h : Op.bytesLess y x = false) (h' : Op.bytesLess x y = false) : (x == y) = true := by
 rw [blU_tri x y h' h]; exact beq_self_eq_true _

theorem blU_asym : ∀ x y, Op.bytesLess x y = true → Op.bytesLess y x = false
 | [], [], _ => rfl
 | _ :: _, [], h => by simp [Op.bytesLess] at h
 | [], _ :: _, _ => rfl
 | a :: x, b :: y, h => by
  simp only [Op.bytesLess, Bool.or_eq_true, decide_eq_true_eq, Bool.and_eq_true, beq_iff_eq] at h
  simp only [Op.bytesLess, Bool.or_eq_false_iff, decide_eq_false_iff_not, Bool.and_eq_false_iff, beq_eq_false_iff_ne]
  rcases h with h | ⟨h, h2⟩
  ·exact ⟨fun c => UInt8.lt_irrefl a (UInt8.lt_trans h c), .inl (fun c => by subst c; exact UInt8.lt_irrefl _ h)⟩
  ·subst h; exact ⟨UInt8.lt_irrefl a, .inr (blU_asym x y h2)⟩
theorem blU_leF {x y : List UInt8} (h : Op.bytesLess x y = true) : (Op.bytesLess y x || y == x) = false := by
 rw [blU_asym x y h, blU_ne h, Bool.or_false]
theorem blU_leT {x y : List UInt8} (h : Op.bytesLess x y = false) : (Op.bytesLess y x || y == x) = true := by
 cases h' : Op.bytesLess y x
 ·rw [blU_tri x y h h', beq_self_eq_true, Bool.or_true]
 ·rw [Bool.true_or]

mutual
def spec_AddDevice.j0 : Nat → List (S87) → Bool → ByteArray → Int → ByteArray → Int → Int → Int → Int → Int → Option ((List (S87)) × Bool)
 | 0, _, _, _, _, _, _, _, _, _, _ => none
 | k + 1, x0, x35, x159000, x159001, x159002, x159003, x159004, x159005, x159006, x159007 => if x35 = true then ((spec_l6Copies.f x0).bind fun t163 => (some (t163, false))) else (spec_AddDevice.l0 k (([] : List (S87))) false x0 (x0.length : Int) 0 x159000 x159001 x159002 x159003 x159004 x159005 x159006 x159007)
def spec_AddDevice.l0 : Nat → List (S87) → Bool → List (S87) → Int → Int → ByteArray → Int → ByteArray → Int → Int → Int → Int → Int → Option ((List (S87)) × Bool)
 | 0, _, _, _, _, _, _, _, _, _, _, _, _, _ => none
 | k + 1, x6, x7, x39, x40, x41, x159000, x159001, x159002, x159003, x159004, x159005, x159006, x159007 => if x41 < x40 then (if 0 ≤ x41 then (if x41 < (x39.length : Int) then (if x7 = true then (if x6.length < 1759218604441 then (spec_AddDevice.l0 k (x6 ++ [(⟨(rd_T87 x39 x41).f0, (rd_T87 x39 x41).f1, (rd_T87 x39 x41).f2, (⟨(rd_T87 x39 x41).f3.f0, (rd_T87 x39 x41).f3.f1⟩ : S66), (rd_T87 x39 x41).f4, (rd_T87 x39 x41).f5, (rd_T87 x39 x41).f6⟩ : S87)]) x7 x39 x40 (wrap64 (x41 + 1)) x159000 x159001 x159002 x159003 x159004 x159005 x159006 x159007) else (none)) else (if (Op.bytesLess x159000.toList (((rd_T87 x39 x41).f0).toList)) = true then (if x6.length < 1759218604441 then ((some (x6 ++ [(⟨x159000, x159001, x159002, (⟨x159003, x159004⟩ : S66), x159005, x159006, x159007⟩ : S87)] : List (S87))).bind fun y174 => (if y174.length < 1759218604441 then (spec_AddDevice.l0 k (y174 ++ [(⟨(rd_T87 x39 x41).f0, (rd_T87 x39 x41).f1, (rd_T87 x39 x41).f2, (⟨(rd_T87 x39 x41).f3.f0, (rd_T87 x39 x41).f3.f1⟩ : S66), (rd_T87 x39 x41).f4, (rd_T87 x39 x41).f5, (rd_T87 x39 x41).f6⟩ : S87)]) true x39 x40 (wrap64 (x41 + 1)) x159000 x159001 x159002 x159003 x159004 x159005 x159006 x159007) else (none))) else (none)) else (if x6.length < 1759218604441 then (spec_AddDevice.l0 k (x6 ++ [(⟨(rd_T87 x39 x41).f0, (rd_T87 x39 x41).f1, (rd_T87 x39 x41).f2, (⟨(rd_T87 x39 x41).f3.f0, (rd_T87 x39 x41).f3.f1⟩ : S66), (rd_T87 x39 x41).f4, (rd_T87 x39 x41).f5, (rd_T87 x39 x41).f6⟩ : S87)]) x7 x39 x40 (wrap64 (x41 + 1)) x159000 x159001 x159002 x159003 x159004 x159005 x159006 x159007) else (none)))) else (none)) else (none)) else (if x7 = true then (some (x6, true)) else (if x6.length < 1759218604441 then (some ((x6 ++ [(⟨x159000, x159001, x159002, (⟨x159003, x159004⟩ : S66), x159005, x159006, x159007⟩ : S87)]), true)) else (none)))
end
def spec_AddDevice.f (k : Nat) (l0 : List (S87)) (a1_0 : ByteArray) (a1_1 : Int) (a1_2 : ByteArray) (a1_3 : Int) (a1_4 : Int) (a1_5 : Int) (a1_6 : Int) (a1_7 : Int) : Option ((List (S87)) × Bool) := (spec_IsRig.f k l0).bind fun t159 => (if t159 = true then ((spec_IsDevice.f k a1_0 a1_1 a1_2 a1_3 a1_4 a1_5 a1_6 a1_7).bind fun t160 => (if t160 = true then ((spec_FindDevice.f k l0 a1_0).bind fun t161 => (if t161 ≥ 0 then (spec_AddDevice.j0 k l0 true a1_0 a1_1 a1_2 a1_3 a1_4 a1_5 a1_6 a1_7) else (if (l0.length : Int) = 8 then (spec_AddDevice.j0 k l0 true a1_0 a1_1 a1_2 a1_3 a1_4 a1_5 a1_6 a1_7) else ((spec_l6Hangs.f k l0 a1_0 a1_1 a1_2 a1_3 a1_4 a1_5 a1_6 a1_7).bind fun t162 => (spec_AddDevice.j0 k l0 (!t162) a1_0 a1_1 a1_2 a1_3 a1_4 a1_5 a1_6 a1_7))))) else (spec_AddDevice.j0 k l0 true a1_0 a1_1 a1_2 a1_3 a1_4 a1_5 a1_6 a1_7))) else (spec_AddDevice.j0 k l0 true a1_0 a1_1 a1_2 a1_3 a1_4 a1_5 a1_6 a1_7))
theorem spec_AddDevice.mono_l : ∀ k, (∀ y0 y1 y2 y3 y4 y5 y6 y7 y8 y9, LeO (spec_AddDevice.j0 k y0 y1 y2 y3 y4 y5 y6 y7 y8 y9) (spec_AddDevice.j0 (k + 1) y0 y1 y2 y3 y4 y5 y6 y7 y8 y9)) ∧ (∀ y0 y1 y2 y3 y4 y5 y6 y7 y8 y9 y10 y11 y12, LeO (spec_AddDevice.l0 k y0 y1 y2 y3 y4 y5 y6 y7 y8 y9 y10 y11 y12) (spec_AddDevice.l0 (k + 1) y0 y1 y2 y3 y4 y5 y6 y7 y8 y9 y10 y11 y12))
 | 0 => ⟨fun _ _ _ _ _ _ _ _ _ _ r h => by simp [spec_AddDevice.j0] at h, fun _ _ _ _ _ _ _ _ _ _ _ _ _ r h => by simp [spec_AddDevice.l0] at h⟩
 | k + 1 => by
  obtain ⟨ih0, ih1⟩ := spec_AddDevice.mono_l k
  refine ⟨?_, ?_⟩
  ·intro y0 y1 y2 y3 y4 y5 y6 y7 y8 y9
   unfold spec_AddDevice.j0
   repeat' first
   | (with_reducible exact ih0 _ _ _ _ _ _ _ _ _ _)
   | (with_reducible exact ih1 _ _ _ _ _ _ _ _ _ _ _ _ _)
   | (with_reducible exact spec_FindDevice.mono _ _ _)
   | (with_reducible exact spec_IsDevice.mono _ _ _ _ _ _ _ _ _)
   | (with_reducible exact spec_IsRig.mono _ _)
   | (with_reducible exact spec_l6Hangs.mono _ _ _ _ _ _ _ _ _ _)
   | (with_reducible exact LeO.refl _)
   | (with_reducible exact LeO.none _)
   | (with_reducible refine LeO.ite ?_ ?_)
   | (with_reducible refine LeO.bind ?_ (fun _ => ?_))
  ·intro y0 y1 y2 y3 y4 y5 y6 y7 y8 y9 y10 y11 y12
   unfold spec_AddDevice.l0
   repeat' first
   | (with_reducible exact ih0 _ _ _ _ _ _ _ _ _ _)
   | (with_reducible exact ih1 _ _ _ _ _ _ _ _ _ _ _ _ _)
   | (with_reducible exact spec_FindDevice.mono _ _ _)
   | (with_reducible exact spec_IsDevice.mono _ _ _ _ _ _ _ _ _)
   | (with_reducible exact spec_IsRig.mono _ _)
   | (with_reducible exact spec_l6Hangs.mono _ _ _ _ _ _ _ _ _ _)
   | (with_reducible exact LeO.refl _)
   | (with_reducible exact LeO.none _)
   | (with_reducible refine LeO.ite ?_ ?_)
   | (with_reducible refine LeO.bind ?_ (fun _ => ?_))
theorem spec_AddDevice.mono : ∀ a0 a1 a2 a3 a4 a5 a6 a7 a8 k, LeO (spec_AddDevice.f k a0 a1 a2 a3 a4 a5 a6 a7 a8) (spec_AddDevice.f (k + 1) a0 a1 a2 a3 a4 a5 a6 a7 a8) := by
 intro a0 a1 a2 a3 a4 a5 a6 a7 a8 k
 obtain ⟨ih0, ih1⟩ := spec_AddDevice.mono_l k
 unfold spec_AddDevice.f
 repeat' first
   | (with_reducible exact ih0 _ _ _ _ _ _ _ _ _ _)
   | (with_reducible exact ih1 _ _ _ _ _ _ _ _ _ _ _ _ _)
   | (with_reducible exact spec_FindDevice.mono _ _ _)
   | (with_reducible exact spec_IsDevice.mono _ _ _ _ _ _ _ _ _)
   | (with_reducible exact spec_IsRig.mono _ _)
   | (with_reducible exact spec_l6Hangs.mono _ _ _ _ _ _ _ _ _ _)
   | (with_reducible exact LeO.refl _)
   | (with_reducible exact LeO.none _)
   | (with_reducible refine LeO.ite ?_ ?_)
   | (with_reducible refine LeO.bind ?_ (fun _ => ?_))
set_option maxHeartbeats 8000000 in
set_option maxRecDepth 100000 in
theorem spec_AddDevice.calls (k : Nat) (A0 : Option Addr) (c0 : Nat) (l0 : List (S87)) (a1_0 : ByteArray) (a1_1 : Int) (a1_2 : ByteArray) (a1_3 : Int) (a1_4 : Int) (a1_5 : Int) (a1_6 : Int) (a1_7 : Int) (r1 : List (S87)) (r2 : Bool) (w : World) (hr0 : Kd.C k87 w A0 l0.length l0) (hc0 : l0.length ≤ c0) (h : spec_AddDevice.f k l0 a1_0 a1_1 a1_2 a1_3 a1_4 a1_5 a1_6 a1_7 = some (r1, r2)) :
  Calls Try.prog 126 #[.slice A0 l0.length c0, .agg #[.string a1_0, .int .i64 a1_1, .string a1_2, .int .i64 a1_3, .int .i64 a1_4, .int .i64 a1_5, .int .i64 a1_6, .int .i64 a1_7]] w fun e w' => ∃ v0_ : Value, e = .returned (.tuple #[v0_, .bool r2]) ∧ Kd.R k87 87 w' w.heap.size (fun _ => True) v0_ r1 ∧ Below w.heap.size w w' := by
 have hu87 := Try.underlying87
 have HR0 := am hr0
 have HC0 := am hc0
 clear hr0 hc0
 have HB := am (Below.refl w.heap.size w)
 have H : ((spec_IsRig.f k l0).bind fun t159 => (if t159 = true then ((spec_IsDevice.f k a1_0 a1_1 a1_2 a1_3 a1_4 a1_5 a1_6 a1_7).bind fun t160 => (if t160 = true then ((spec_FindDevice.f k l0 a1_0).bind fun t161 => (if t161 ≥ 0 then (spec_AddDevice.j0 k l0 true a1_0 a1_1 a1_2 a1_3 a1_4 a1_5 a1_6 a1_7) else (if (l0.length : Int) = 8 then (spec_AddDevice.j0 k l0 true a1_0 a1_1 a1_2 a1_3 a1_4 a1_5 a1_6 a1_7) else ((spec_l6Hangs.f k l0 a1_0 a1_1 a1_2 a1_3 a1_4 a1_5 a1_6 a1_7).bind fun t162 => (spec_AddDevice.j0 k l0 (!t162) a1_0 a1_1 a1_2 a1_3 a1_4 a1_5 a1_6 a1_7))))) else (spec_AddDevice.j0 k l0 true a1_0 a1_1 a1_2 a1_3 a1_4 a1_5 a1_6 a1_7))) else (spec_AddDevice.j0 k l0 true a1_0 a1_1 a1_2 a1_3 a1_4 a1_5 a1_6 a1_7))) = some (r1, r2) := h
 clear h
 have HC3 := am H
 clear H
 go_enter Try.func126, Try.ntmps126
 go_upto_region 1 with (first | ((with_reducible refine gate_dst (N := 3) rfl ?_); (try (refine gate_guard (by rfl) ?_; dsimp only)); refine box_event ?hg (N := 3) ?hd (cs := #[.string a1_0, .int .i64 a1_1, .string a1_2, .int .i64 a1_3, .int .i64 a1_4, .int .i64 a1_5, .int .i64 a1_6, .int .i64 a1_7]) (t := 87) ?hr ?_; (case hd => rfl); (case hg => rfl); (case hr => exact gq); intro gb158 hg w4 hbox hb; have n0_ := am (below_step u6_8 hb); have n1_ := am (hbox); have n2_ := bsw w hg (below_size u6_8); have n3_ := bsw w hg (below_size u6_8); clear HB; have HB := n0_; have BK158 := n1_; have GW158 := n2_; have GE158 := n3_; clear n0_ n1_ n2_ n3_ hb hbox hg))
 (try simp only [Act.put, List.setIfInBounds_toArray, List.set_cons_zero, List.set_cons_succ])
 go_cut [35] (fun v35 wc => ∃ (kq : Nat) (x35_2 : Bool), v35 = .bool x35_2 ∧ Aside0 (spec_AddDevice.j0 kq l0 x35_2 a1_0 a1_1 a1_2 a1_3 a1_4 a1_5 a1_6 a1_7 = some (r1, r2)) ∧ Aside0 (kq ≤ k) ∧ Aside0 (wc.heap[gb158]? = some (.cells #[.string a1_0, .int .i64 a1_1, .string a1_2, .int .i64 a1_3, .int .i64 a1_4, .int .i64 a1_5, .int .i64 a1_6, .int .i64 a1_7] 87 (0, 0))) ∧ Aside0 (Below w.heap.size w wc))
 case first =>
  have H := HC3.out
  clear HC3
  replace H := Option.bind_eq_some_iff.mp H
  obtain ⟨t159, A50, H⟩ := H
  replace H : (if t159 = true then ((spec_IsDevice.f k a1_0 a1_1 a1_2 a1_3 a1_4 a1_5 a1_6 a1_7).bind fun t160 => (if t160 = true then ((spec_FindDevice.f k l0 a1_0).bind fun t161 => (if t161 ≥ 0 then (spec_AddDevice.j0 k l0 true a1_0 a1_1 a1_2 a1_3 a1_4 a1_5 a1_6 a1_7) else (if (l0.length : Int) = 8 then (spec_AddDevice.j0 k l0 true a1_0 a1_1 a1_2 a1_3 a1_4 a1_5 a1_6 a1_7) else ((spec_l6Hangs.f k l0 a1_0 a1_1 a1_2 a1_3 a1_4 a1_5 a1_6 a1_7).bind fun t162 => (spec_AddDevice.j0 k l0 (!t162) a1_0 a1_1 a1_2 a1_3 a1_4 a1_5 a1_6 a1_7))))) else (spec_AddDevice.j0 k l0 true a1_0 a1_1 a1_2 a1_3 a1_4 a1_5 a1_6 a1_7))) else (spec_AddDevice.j0 k l0 true a1_0 a1_1 a1_2 a1_3 a1_4 a1_5 a1_6 a1_7)) = some (r1, r2) := H
  have A5 := am A50
  clear A50
  by_cases c6 : t159 = true
  ·subst c6
   have H1 : ((spec_IsDevice.f k a1_0 a1_1 a1_2 a1_3 a1_4 a1_5 a1_6 a1_7).bind fun t160 => (if t160 = true then ((spec_FindDevice.f k l0 a1_0).bind fun t161 => (if t161 ≥ 0 then (spec_AddDevice.j0 k l0 true a1_0 a1_1 a1_2 a1_3 a1_4 a1_5 a1_6 a1_7) else (if (l0.length : Int) = 8 then (spec_AddDevice.j0 k l0 true a1_0 a1_1 a1_2 a1_3 a1_4 a1_5 a1_6 a1_7) else ((spec_l6Hangs.f k l0 a1_0 a1_1 a1_2 a1_3 a1_4 a1_5 a1_6 a1_7).bind fun t162 => (spec_AddDevice.j0 k l0 (!t162) a1_0 a1_1 a1_2 a1_3 a1_4 a1_5 a1_6 a1_7))))) else (spec_AddDevice.j0 k l0 true a1_0 a1_1 a1_2 a1_3 a1_4 a1_5 a1_6 a1_7))) = some (r1, r2) := by rw [if_pos rfl] at H; exact H
   clear H
   have H := H1
   clear H1
   replace H := Option.bind_eq_some_iff.mp H
   obtain ⟨t160, A70, H⟩ := H
   replace H : (if t160 = true then ((spec_FindDevice.f k l0 a1_0).bind fun t161 => (if t161 ≥ 0 then (spec_AddDevice.j0 k l0 true a1_0 a1_1 a1_2 a1_3 a1_4 a1_5 a1_6 a1_7) else (if (l0.length : Int) = 8 then (spec_AddDevice.j0 k l0 true a1_0 a1_1 a1_2 a1_3 a1_4 a1_5 a1_6 a1_7) else ((spec_l6Hangs.f k l0 a1_0 a1_1 a1_2 a1_3 a1_4 a1_5 a1_6 a1_7).bind fun t162 => (spec_AddDevice.j0 k l0 (!t162) a1_0 a1_1 a1_2 a1_3 a1_4 a1_5 a1_6 a1_7))))) else (spec_AddDevice.j0 k l0 true a1_0 a1_1 a1_2 a1_3 a1_4 a1_5 a1_6 a1_7)) = some (r1, r2) := H
   have A7 := am A70
   clear A70
   by_cases c8 : t160 = true
   ·subst c8
    have H1 : ((spec_FindDevice.f k l0 a1_0).bind fun t161 => (if t161 ≥ 0 then (spec_AddDevice.j0 k l0 true a1_0 a1_1 a1_2 a1_3 a1_4 a1_5 a1_6 a1_7) else (if (l0.length : Int) = 8 then (spec_AddDevice.j0 k l0 true a1_0 a1_1 a1_2 a1_3 a1_4 a1_5 a1_6 a1_7) else ((spec_l6Hangs.f k l0 a1_0 a1_1 a1_2 a1_3 a1_4 a1_5 a1_6 a1_7).bind fun t162 => (spec_AddDevice.j0 k l0 (!t162) a1_0 a1_1 a1_2 a1_3 a1_4 a1_5 a1_6 a1_7))))) = some (r1, r2) := by rw [if_pos rfl] at H; exact H
    clear H
    have H := H1
    clear H1
    replace H := Option.bind_eq_some_iff.mp H
    obtain ⟨t161, A90, H⟩ := H
    replace H : (if t161 ≥ 0 then (spec_AddDevice.j0 k l0 true a1_0 a1_1 a1_2 a1_3 a1_4 a1_5 a1_6 a1_7) else (if (l0.length : Int) = 8 then (spec_AddDevice.j0 k l0 true a1_0 a1_1 a1_2 a1_3 a1_4 a1_5 a1_6 a1_7) else ((spec_l6Hangs.f k l0 a1_0 a1_1 a1_2 a1_3 a1_4 a1_5 a1_6 a1_7).bind fun t162 => (spec_AddDevice.j0 k l0 (!t162) a1_0 a1_1 a1_2 a1_3 a1_4 a1_5 a1_6 a1_7)))) = some (r1, r2) := H
    have A9 := am A90
    clear A90
    by_cases c10 : t161 ≥ 0
    ·rw [if_pos c10] at H
     have c10b0 : decide (0 ≤ t161) = true := decide_eq_true c10
     clear c10
     (first | rw [c10b0] | (simp only [i64_w, i32_w]; rw [c10b0]) | skip)
     have H' := am H
     clear H
     go_wp2_with (first | ((with_reducible refine gate_callee (f := 153) rfl ?_); refine goesL_ (some 11) rfl rfl Try.func153 (by kernel_rfl) rfl #[.slice A0 l0.length c0] rfl u6_6 ?_; (with_reducible refine (spec_IsRig.calls k _ _ l0 true _ ?side1 ?side2 A5.out).mono ?_); (case side1 => exact y6_0); (case side2 => exact HC0.out); rintro e w11 ⟨rfl, hb⟩; refine ⟨_, rfl, ?_⟩; have n0_ := am (blk_below (g := gb158) (o := zo0 a1_0 a1_1 a1_2 a1_3 a1_4 a1_5 a1_6 a1_7) u6_3 hb); have n1_ := am (below_step u6_2 hb); clear BK158 HB; have BK158 := n0_; have HB := n1_; clear n0_ n1_; (try clear hb); (try clear hb2); (try clear hk); (try clear hi); obtain ⟨hcz12_0, hcz12_1, hcz12_2, hcz12_3, hcz12_4, hcz12_5, hcz12_6, hcz12_7, hfz12_0, hfz12_1, hfz12_2, hfz12_3, hfz12_4, hfz12_5, hfz12_6, hfz12_7⟩ := cf8 BK158.out) | (go_at_call 154; (with_reducible refine (spec_IsDevice.calls k a1_0 a1_1 a1_2 a1_3 a1_4 a1_5 a1_6 a1_7 true _ A7.out).mono ?_); rintro e w13 ⟨rfl, hb⟩; have n0_ := am (blk_below (g := gb158) (o := zo0 a1_0 a1_1 a1_2 a1_3 a1_4 a1_5 a1_6 a1_7) u6_3 hb); have n1_ := am (below_step u6_2 hb); clear BK158 HB; have BK158 := n0_; have HB := n1_; clear n0_ n1_; (try clear hb); (try clear hb2); (try clear hk); (try clear hi); obtain ⟨hcz14_0, hcz14_1, hcz14_2, hcz14_3, hcz14_4, hcz14_5, hcz14_6, hcz14_7, hfz14_0, hfz14_1, hfz14_2, hfz14_3, hfz14_4, hfz14_5, hfz14_6, hfz14_7⟩ := cf8 BK158.out) | (go_at_call 155; (with_reducible refine (spec_FindDevice.calls k _ _ l0 a1_0 t161 _ ?side1 ?side2 A9.out).mono ?_); (case side1 => exact y6_0); (case side2 => exact HC0.out); rintro e w15 ⟨rfl, hb⟩; have n0_ := am (blk_below (g := gb158) (o := zo0 a1_0 a1_1 a1_2 a1_3 a1_4 a1_5 a1_6 a1_7) u6_3 hb); have n1_ := am (below_step u6_2 hb); clear BK158 HB; have BK158 := n0_; have HB := n1_; clear n0_ n1_; (try clear hb); (try clear hb2); (try clear hk); (try clear hi)))
     go_meet
     case rel => exact ⟨_, (true), u6_9, H', ⟨by first | omega | exact Nat.le_refl _⟩, ⟨by (with_reducible repeat (first | refine blk_drewN ?_ _ | refine blk_drew ?_ | refine blk_alloc ?_ _)); exact BK158.out⟩, ⟨s6_7⟩⟩
    ·rw [if_neg c10] at H
     have c10b0 : decide (0 ≤ t161) = false := decide_eq_false c10
     clear c10
     (first | rw [c10b0] | (simp only [i64_w, i32_w]; rw [c10b0]) | skip)
     by_cases c16 : (l0.length : Int) = 8
     ·rw [if_pos c16] at H
      have c16b0 : ((l0.length : Int) == 8) = true := beq_iff_eq.mpr c16
      have c16b1 : ((l0.length : Int) != 8) = false := bne_eq_false_iff_eq.mpr c16
      clear c16
      have H' := am H
      clear H
      go_wp2_with (first | ((with_reducible refine gate_callee (f := 153) rfl ?_); refine goesL_ (some 11) rfl rfl Try.func153 (by kernel_rfl) rfl #[.slice A0 l0.length c0] rfl u6_6 ?_; (with_reducible refine (spec_IsRig.calls k _ _ l0 true _ ?side1 ?side2 A5.out).mono ?_); (case side1 => exact y6_0); (case side2 => exact HC0.out); rintro e w17 ⟨rfl, hb⟩; refine ⟨_, rfl, ?_⟩; have n0_ := am (blk_below (g := gb158) (o := zo0 a1_0 a1_1 a1_2 a1_3 a1_4 a1_5 a1_6 a1_7) u6_3 hb); have n1_ := am (below_step u6_2 hb); clear BK158 HB; have BK158 := n0_; have HB := n1_; clear n0_ n1_; (try clear hb); (try clear hb2); (try clear hk); (try clear hi); obtain ⟨hcz18_0, hcz18_1, hcz18_2, hcz18_3, hcz18_4, hcz18_5, hcz18_6, hcz18_7, hfz18_0, hfz18_1, hfz18_2, hfz18_3, hfz18_4, hfz18_5, hfz18_6, hfz18_7⟩ := cf8 BK158.out) | (go_at_call 154; (with_reducible refine (spec_IsDevice.calls k a1_0 a1_1 a1_2 a1_3 a1_4 a1_5 a1_6 a1_7 true _ A7.out).mono ?_); rintro e w19 ⟨rfl, hb⟩; have n0_ := am (blk_below (g := gb158) (o := zo0 a1_0 a1_1 a1_2 a1_3 a1_4 a1_5 a1_6 a1_7) u6_3 hb); have n1_ := am (below_step u6_2 hb); clear BK158 HB; have BK158 := n0_; have HB := n1_; clear n0_ n1_; (try clear hb); (try clear hb2); (try clear hk); (try clear hi); obtain ⟨hcz20_0, hcz20_1, hcz20_2, hcz20_3, hcz20_4, hcz20_5, hcz20_6, hcz20_7, hfz20_0, hfz20_1, hfz20_2, hfz20_3, hfz20_4, hfz20_5, hfz20_6, hfz20_7⟩ := cf8 BK158.out) | (go_at_call 155; (with_reducible refine (spec_FindDevice.calls k _ _ l0 a1_0 t161 _ ?side1 ?side2 A9.out).mono ?_); (case side1 => exact y6_0); (case side2 => exact HC0.out); rintro e w21 ⟨rfl, hb⟩; have n0_ := am (blk_below (g := gb158) (o := zo0 a1_0 a1_1 a1_2 a1_3 a1_4 a1_5 a1_6 a1_7) u6_3 hb); have n1_ := am (below_step u6_2 hb); clear BK158 HB; have BK158 := n0_; have HB := n1_; clear n0_ n1_; (try clear hb); (try clear hb2); (try clear hk); (try clear hi)))
      go_meet
      case rel => exact ⟨_, (true), u6_9, H', ⟨by first | omega | exact Nat.le_refl _⟩, ⟨by (with_reducible repeat (first | refine blk_drewN ?_ _ | refine blk_drew ?_ | refine blk_alloc ?_ _)); exact BK158.out⟩, ⟨s6_7⟩⟩
     ·rw [if_neg c16] at H
      have c16b0 : ((l0.length : Int) == 8) = false := beq_eq_false_iff_ne.mpr c16
      have c16b1 : ((l0.length : Int) != 8) = true := bne_iff_ne.mpr c16
      replace H := Option.bind_eq_some_iff.mp H
      obtain ⟨t162, A220, H⟩ := H
      replace H : (spec_AddDevice.j0 k l0 (!t162) a1_0 a1_1 a1_2 a1_3 a1_4 a1_5 a1_6 a1_7) = some (r1, r2) := H
      have A22 := am A220
      clear A220
      have H' := am H
      clear H
      go_wp2_with (first | ((with_reducible refine gate_callee (f := 153) rfl ?_); refine goesL_ (some 11) rfl rfl Try.func153 (by kernel_rfl) rfl #[.slice A0 l0.length c0] rfl u6_6 ?_; (with_reducible refine (spec_IsRig.calls k _ _ l0 true _ ?side1 ?side2 A5.out).mono ?_); (case side1 => exact y6_0); (case side2 => exact HC0.out); rintro e w23 ⟨rfl, hb⟩; refine ⟨_, rfl, ?_⟩; have n0_ := am (blk_below (g := gb158) (o := zo0 a1_0 a1_1 a1_2 a1_3 a1_4 a1_5 a1_6 a1_7) u6_3 hb); have n1_ := am (below_step u6_2 hb); clear BK158 HB; have BK158 := n0_; have HB := n1_; clear n0_ n1_; (try clear hb); (try clear hb2); (try clear hk); (try clear hi); obtain ⟨hcz24_0, hcz24_1, hcz24_2, hcz24_3, hcz24_4, hcz24_5, hcz24_6, hcz24_7, hfz24_0, hfz24_1, hfz24_2, hfz24_3, hfz24_4, hfz24_5, hfz24_6, hfz24_7⟩ := cf8 BK158.out) | (go_at_call 154; (with_reducible refine (spec_IsDevice.calls k a1_0 a1_1 a1_2 a1_3 a1_4 a1_5 a1_6 a1_7 true _ A7.out).mono ?_); rintro e w25 ⟨rfl, hb⟩; have n0_ := am (blk_below (g := gb158) (o := zo0 a1_0 a1_1 a1_2 a1_3 a1_4 a1_5 a1_6 a1_7) u6_3 hb); have n1_ := am (below_step u6_2 hb); clear BK158 HB; have BK158 := n0_; have HB := n1_; clear n0_ n1_; (try clear hb); (try clear hb2); (try clear hk); (try clear hi); obtain ⟨hcz26_0, hcz26_1, hcz26_2, hcz26_3, hcz26_4, hcz26_5, hcz26_6, hcz26_7, hfz26_0, hfz26_1, hfz26_2, hfz26_3, hfz26_4, hfz26_5, hfz26_6, hfz26_7⟩ := cf8 BK158.out) | (go_at_call 155; (with_reducible refine (spec_FindDevice.calls k _ _ l0 a1_0 t161 _ ?side1 ?side2 A9.out).mono ?_); (case side1 => exact y6_0); (case side2 => exact HC0.out); rintro e w27 ⟨rfl, hb⟩; have n0_ := am (blk_below (g := gb158) (o := zo0 a1_0 a1_1 a1_2 a1_3 a1_4 a1_5 a1_6 a1_7) u6_3 hb); have n1_ := am (below_step u6_2 hb); clear BK158 HB; have BK158 := n0_; have HB := n1_; clear n0_ n1_; (try clear hb); (try clear hb2); (try clear hk); (try clear hi); obtain ⟨hcz28_0, hcz28_1, hcz28_2, hcz28_3, hcz28_4, hcz28_5, hcz28_6, hcz28_7, hfz28_0, hfz28_1, hfz28_2, hfz28_3, hfz28_4, hfz28_5, hfz28_6, hfz28_7⟩ := cf8 BK158.out) | (go_at_call 156; (with_reducible refine (spec_l6Hangs.calls k _ _ l0 a1_0 a1_1 a1_2 a1_3 a1_4 a1_5 a1_6 a1_7 t162 _ ?side1 ?side2 A22.out).mono ?_); (case side1 => exact y6_0); (case side2 => exact HC0.out); rintro e w29 ⟨rfl, hb⟩; have n0_ := am (blk_below (g := gb158) (o := zo0 a1_0 a1_1 a1_2 a1_3 a1_4 a1_5 a1_6 a1_7) u6_3 hb); have n1_ := am (below_step u6_2 hb); clear BK158 HB; have BK158 := n0_; have HB := n1_; clear n0_ n1_; (try clear hb); (try clear hb2); (try clear hk); (try clear hi)))
      go_meet
      case rel => exact ⟨_, (!t162), u6_9, H', ⟨by first | omega | exact Nat.le_refl _⟩, ⟨by (with_reducible repeat (first | refine blk_drewN ?_ _ | refine blk_drew ?_ | refine blk_alloc ?_ _)); exact BK158.out⟩, ⟨s6_7⟩⟩
   ·replace c8 := Bool.eq_false_iff.mpr c8
    subst c8
    have H1 : (spec_AddDevice.j0 k l0 true a1_0 a1_1 a1_2 a1_3 a1_4 a1_5 a1_6 a1_7) = some (r1, r2) := by rw [if_neg (show ¬ (false = true) by decide)] at H; exact H
    clear H
    have H := H1
    clear H1
    have H' := am H
    clear H
    go_wp2_with (first | ((with_reducible refine gate_callee (f := 153) rfl ?_); refine goesL_ (some 11) rfl rfl Try.func153 (by kernel_rfl) rfl #[.slice A0 l0.length c0] rfl u6_6 ?_; (with_reducible refine (spec_IsRig.calls k _ _ l0 true _ ?side1 ?side2 A5.out).mono ?_); (case side1 => exact y6_0); (case side2 => exact HC0.out); rintro e w30 ⟨rfl, hb⟩; refine ⟨_, rfl, ?_⟩; have n0_ := am (blk_below (g := gb158) (o := zo0 a1_0 a1_1 a1_2 a1_3 a1_4 a1_5 a1_6 a1_7) u6_3 hb); have n1_ := am (below_step u6_2 hb); clear BK158 HB; have BK158 := n0_; have HB := n1_; clear n0_ n1_; (try clear hb); (try clear hb2); (try clear hk); (try clear hi); obtain ⟨hcz31_0, hcz31_1, hcz31_2, hcz31_3, hcz31_4, hcz31_5, hcz31_6, hcz31_7, hfz31_0, hfz31_1, hfz31_2, hfz31_3, hfz31_4, hfz31_5, hfz31_6, hfz31_7⟩ := cf8 BK158.out) | (go_at_call 154; (with_reducible refine (spec_IsDevice.calls k a1_0 a1_1 a1_2 a1_3 a1_4 a1_5 a1_6 a1_7 false _ A7.out).mono ?_); rintro e w32 ⟨rfl, hb⟩; have n0_ := am (blk_below (g := gb158) (o := zo0 a1_0 a1_1 a1_2 a1_3 a1_4 a1_5 a1_6 a1_7) u6_3 hb); have n1_ := am (below_step u6_2 hb); clear BK158 HB; have BK158 := n0_; have HB := n1_; clear n0_ n1_; (try clear hb); (try clear hb2); (try clear hk); (try clear hi)))
    go_meet
    case rel => exact ⟨_, (true), u6_9, H', ⟨by first | omega | exact Nat.le_refl _⟩, ⟨by (with_reducible repeat (first | refine blk_drewN ?_ _ | refine blk_drew ?_ | refine blk_alloc ?_ _)); exact BK158.out⟩, ⟨s6_7⟩⟩
  ·replace c6 := Bool.eq_false_iff.mpr c6
   subst c6
   have H1 : (spec_AddDevice.j0 k l0 true a1_0 a1_1 a1_2 a1_3 a1_4 a1_5 a1_6 a1_7) = some (r1, r2) := by rw [if_neg (show ¬ (false = true) by decide)] at H; exact H
   clear H
   have H := H1
   clear H1
   have H' := am H
   clear H
   go_wp2_with (first | ((with_reducible refine gate_callee (f := 153) rfl ?_); refine goesL_ (some 11) rfl rfl Try.func153 (by kernel_rfl) rfl #[.slice A0 l0.length c0] rfl u6_6 ?_; (with_reducible refine (spec_IsRig.calls k _ _ l0 false _ ?side1 ?side2 A5.out).mono ?_); (case side1 => exact y6_0); (case side2 => exact HC0.out); rintro e w33 ⟨rfl, hb⟩; refine ⟨_, rfl, ?_⟩; have n0_ := am (blk_below (g := gb158) (o := zo0 a1_0 a1_1 a1_2 a1_3 a1_4 a1_5 a1_6 a1_7) u6_3 hb); have n1_ := am (below_step u6_2 hb); clear BK158 HB; have BK158 := n0_; have HB := n1_; clear n0_ n1_; (try clear hb); (try clear hb2); (try clear hk); (try clear hi)))
   go_meet
   case rel => exact ⟨_, (true), u6_9, H', ⟨by first | omega | exact Nat.le_refl _⟩, ⟨by (with_reducible repeat (first | refine blk_drewN ?_ _ | refine blk_drew ?_ | refine blk_alloc ?_ _)); exact BK158.out⟩, ⟨s6_7⟩⟩
 case rest =>
  clear HC3
  try clear c1
  try clear p2
  try clear c6
  try clear c8
  try clear c10
  try clear c10b0
  try clear c12
  try clear c15
  try clear c16
  try clear c16b0
  try clear c16b1
  try clear hcz12_0
  try clear hcz12_1
  try clear hcz12_2
  try clear hcz12_3
  try clear hcz12_4
  try clear hcz12_5
  try clear hcz12_6
  try clear hcz12_7
  try clear hcz14_0
  try clear hcz14_1
  try clear hcz14_2
  try clear hcz14_3
  try clear hcz14_4
  try clear hcz14_5
  try clear hcz14_6
  try clear hcz14_7
  try clear hcz18_0
  try clear hcz18_1
  try clear hcz18_2
  try clear hcz18_3
  try clear hcz18_4
  try clear hcz18_5
  try clear hcz18_6
  try clear hcz18_7
  try clear hcz20_0
  try clear hcz20_1
  try clear hcz20_2
  try clear hcz20_3
  try clear hcz20_4
  try clear hcz20_5
  try clear hcz20_6
  try clear hcz20_7
  try clear hcz24_0
  try clear hcz24_1
  try clear hcz24_2
  try clear hcz24_3
  try clear hcz24_4
  try clear hcz24_5
  try clear hcz24_6
  try clear hcz24_7
  try clear hcz26_0
  try clear hcz26_1
  try clear hcz26_2
  try clear hcz26_3
  try clear hcz26_4
  try clear hcz26_5
  try clear hcz26_6
  try clear hcz26_7
  try clear hcz28_0
  try clear hcz28_1
  try clear hcz28_2
  try clear hcz28_3
  try clear hcz28_4
  try clear hcz28_5
  try clear hcz28_6
  try clear hcz28_7
  try clear hcz31_0
  try clear hcz31_1
  try clear hcz31_2
  try clear hcz31_3
  try clear hcz31_4
  try clear hcz31_5
  try clear hcz31_6
  try clear hcz31_7
  try clear hfz12_0
  try clear hfz12_1
  try clear hfz12_2
  try clear hfz12_3
  try clear hfz12_4
  try clear hfz12_5
  try clear hfz12_6
  try clear hfz12_7
  try clear hfz14_0
  try clear hfz14_1
  try clear hfz14_2
  try clear hfz14_3
  try clear hfz14_4
  try clear hfz14_5
  try clear hfz14_6
  try clear hfz14_7
  try clear hfz18_0
  try clear hfz18_1
  try clear hfz18_2
  try clear hfz18_3
  try clear hfz18_4
  try clear hfz18_5
  try clear hfz18_6
  try clear hfz18_7
  try clear hfz20_0
  try clear hfz20_1
  try clear hfz20_2
  try clear hfz20_3
  try clear hfz20_4
  try clear hfz20_5
  try clear hfz20_6
  try clear hfz20_7
  try clear hfz24_0
  try clear hfz24_1
  try clear hfz24_2
  try clear hfz24_3
  try clear hfz24_4
  try clear hfz24_5
  try clear hfz24_6
  try clear hfz24_7
  try clear hfz26_0
  try clear hfz26_1
  try clear hfz26_2
  try clear hfz26_3
  try clear hfz26_4
  try clear hfz26_5
  try clear hfz26_6
  try clear hfz26_7
  try clear hfz28_0
  try clear hfz28_1
  try clear hfz28_2
  try clear hfz28_3
  try clear hfz28_4
  try clear hfz28_5
  try clear hfz28_6
  try clear hfz28_7
  try clear hfz31_0
  try clear hfz31_1
  try clear hfz31_2
  try clear hfz31_3
  try clear hfz31_4
  try clear hfz31_5
  try clear hfz31_6
  try clear hfz31_7
  obtain ⟨kq, x35_2, rfl, HA, HJ2, BK158, HB⟩ := hcut
  cases kq with
  | zero => exact absurd HA.out (by simp [spec_AddDevice.j0])
  | succ kj2 =>
   have H := HA.out
   clear HA
   simp only [spec_AddDevice.j0] at H
   by_cases c34 : x35_2 = true
   ·subst c34
    have H1 : ((spec_l6Copies.f l0).bind fun t163 => (some (t163, false))) = some (r1, r2) := by rw [if_pos rfl] at H; exact H
    clear H
    have H := H1
    clear H1
    replace H := Option.bind_eq_some_iff.mp H
    obtain ⟨t163, A350, H⟩ := H
    replace H : (some (t163, false)) = some (r1, r2) := H
    have A35 := am A350
    clear A350
    simp only [Option.some.injEq, Prod.mk.injEq] at H
    obtain ⟨rfl, rfl⟩ := H
    go_wp2_with (first | ((with_reducible refine gate_callee (f := 157) rfl ?_); refine goesL_ (some 37) rfl rfl Try.func157 (by kernel_rfl) rfl #[.slice A0 l0.length c0] rfl u6_6 ?_; (with_reducible refine (spec_l6Copies.calls _ _ l0 t163 _ ?side1 ?side2 A35.out).mono ?_); (case side1 => exact y6_0); (case side2 => exact HC0.out); rintro e w36 ⟨v164, rfl, ho0, hb⟩; refine ⟨_, rfl, ?_⟩; have n0_ := am (Kd.R_lower (Kd.R_newB ho0 (g := gb158) (o := zo0 a1_0 a1_1 a1_2 a1_3 a1_4 a1_5 a1_6 a1_7) u6_3) (below_size u6_2)); have n1_ := am (blk_below (g := gb158) (o := zo0 a1_0 a1_1 a1_2 a1_3 a1_4 a1_5 a1_6 a1_7) u6_3 hb); have n2_ := am (below_step u6_2 hb); clear BK158 HB; have HO165 := n0_; have BK158 := n1_; have HB := n2_; clear n0_ n1_ n2_; (try clear hb); (try clear hb2); (try clear hk); (try clear hi); (try clear ho0)))
    go_ret2
    exact ⟨_, by first | rfl | (simp [*] <;> rfl), by (with_reducible repeat (first | apply Kd.R_alloc | apply Kd.R_drewN | apply Kd.R_drew)); exact Kd.R_mono HO165.out (fun _ hk => trivial), s6_7⟩
   ·replace c34 := Bool.eq_false_iff.mpr c34
    subst c34
    have H1 : (spec_AddDevice.l0 kj2 (([] : List (S87))) false l0 (l0.length : Int) 0 a1_0 a1_1 a1_2 a1_3 a1_4 a1_5 a1_6 a1_7) = some (r1, r2) := by rw [if_neg (show ¬ (false = true) by decide)] at H; exact H
    clear H
    have H := H1
    clear H1
    obtain ⟨y166, hy166⟩ : ∃ y_ : List (S87), y_ = (([] : List (S87))) := ⟨_, rfl⟩
    replace H : (spec_AddDevice.l0 kj2 y166 false l0 (l0.length : Int) 0 a1_0 a1_1 a1_2 a1_3 a1_4 a1_5 a1_6 a1_7) = some (r1, r2) := by first | (rw [hy166]; with_reducible exact H) | (have H2_ := (Option.bind_some _ _).symm.trans H; rw [hy166]; with_reducible exact H2_) | (have H2_ := (Option.bind_some _ _).symm.trans H; with_reducible exact H2_) | with_reducible exact H | (rw [hy166]; exact H) | exact H
    have Ny166 := am hy166
    clear hy166
    have H' := am H
    clear H
    go_wp2_with (first | ((with_reducible refine gate_dst (N := 38) rfl ?_); (try (refine gate_guard (by rfl) ?_; dsimp only)); refine Kd.R_lit k87 _ 87 ?hg (N := 38) ?hd (xs := ([] : List (S87))) (inner := []) (ok := fun _ => True) (okp := fun _ => True) ?hr ?hp (fun _ hk => hk) trivial (Below.refl _ _) (Nat.le_refl _) (by simp) ?_; (case hd => rfl); (case hg => rfl); (case hr => exact gq); (case hp => exact (Reps.none _ _)); intro v167 w37 ho38 hb hg_ hnew_; clear hg_ hnew_; (first | rw [← Ny166.out] at ho38 | (simp only [Int.reduceToNat] at ho38; rw [← Ny166.out] at ho38)); have n0_ := am (Kd.R_lower (Kd.R_newB ho38 (g := gb158) (o := zo0 a1_0 a1_1 a1_2 a1_3 a1_4 a1_5 a1_6 a1_7) u6_3) (below_size u6_2)); have n1_ := am (blk_below (g := gb158) (o := zo0 a1_0 a1_1 a1_2 a1_3 a1_4 a1_5 a1_6 a1_7) u6_3 hb); have n2_ := am (below_step u6_2 hb); clear BK158 HB; have HO168 := n0_; have BK158 := n1_; have HB := n2_; clear n0_ n1_ n2_ hb ho38))
    go_loopg [6, 7, 41] kj2 (fun kq v6 v7 v41 w' => ∃ (x6_2 : List (S87)) (x7_2 : Bool) (x41_2 : Int), v7 = .bool x7_2 ∧ v41 = .int .i64 x41_2 ∧ Aside0 (spec_AddDevice.l0 kq x6_2 x7_2 l0 (l0.length : Int) x41_2 a1_0 a1_1 a1_2 a1_3 a1_4 a1_5 a1_6 a1_7 = some (r1, r2)) ∧ Aside0 (kq ≤ kj2) ∧ Aside0 (Kd.R k87 87 w' w.heap.size (fun k_ => k_ ≠ gb158) v6 x6_2) ∧ Aside0 (w'.heap[gb158]? = some (.cells #[.string a1_0, .int .i64 a1_1, .string a1_2, .int .i64 a1_3, .int .i64 a1_4, .int .i64 a1_5, .int .i64 a1_6, .int .i64 a1_7] 87 (0, 0))) ∧ Aside0 (Below w.heap.size w w'))
    case atStart => exact ⟨(y166), (false), (0), u6_9, u6_9, H', ⟨Nat.le_refl _⟩, ⟨by (with_reducible repeat (first | apply Kd.R_alloc | apply Kd.R_drewN | apply Kd.R_drew)); exact Kd.R_mono HO168.out (fun _ hk => hk.2)⟩, ⟨by (with_reducible repeat (first | refine blk_drewN ?_ _ | refine blk_drew ?_ | refine blk_alloc ?_ _)); exact BK158.out⟩, ⟨s6_7⟩⟩
    case round =>
     clear H'
     try clear c1
     try clear p2
     try clear c3
     try clear c6
     try clear c8
     try clear c10
     try clear c10b0
     try clear c12
     try clear c15
     try clear c16
     try clear c16b0
     try clear c16b1
     try clear c34
     try clear hcz12_0
     try clear hcz12_1
     try clear hcz12_2
     try clear hcz12_3
     try clear hcz12_4
     try clear hcz12_5
     try clear hcz12_6
     try clear hcz12_7
     try clear hcz14_0
     try clear hcz14_1
     try clear hcz14_2
     try clear hcz14_3
     try clear hcz14_4
     try clear hcz14_5
     try clear hcz14_6
     try clear hcz14_7
     try clear hcz18_0
     try clear hcz18_1
     try clear hcz18_2
     try clear hcz18_3
     try clear hcz18_4
     try clear hcz18_5
     try clear hcz18_6
     try clear hcz18_7
     try clear hcz20_0
     try clear hcz20_1
     try clear hcz20_2
     try clear hcz20_3
     try clear hcz20_4
     try clear hcz20_5
     try clear hcz20_6
     try clear hcz20_7
     try clear hcz24_0
     try clear hcz24_1
     try clear hcz24_2
     try clear hcz24_3
     try clear hcz24_4
     try clear hcz24_5
     try clear hcz24_6
     try clear hcz24_7
     try clear hcz26_0
     try clear hcz26_1
     try clear hcz26_2
     try clear hcz26_3
     try clear hcz26_4
     try clear hcz26_5
     try clear hcz26_6
     try clear hcz26_7
     try clear hcz28_0
     try clear hcz28_1
     try clear hcz28_2
     try clear hcz28_3
     try clear hcz28_4
     try clear hcz28_5
     try clear hcz28_6
     try clear hcz28_7
     try clear hcz31_0
     try clear hcz31_1
     try clear hcz31_2
     try clear hcz31_3
     try clear hcz31_4
     try clear hcz31_5
     try clear hcz31_6
     try clear hcz31_7
     try clear hfz12_0
     try clear hfz12_1
     try clear hfz12_2
     try clear hfz12_3
     try clear hfz12_4
     try clear hfz12_5
     try clear hfz12_6
     try clear hfz12_7
     try clear hfz14_0
     try clear hfz14_1
     try clear hfz14_2
     try clear hfz14_3
     try clear hfz14_4
     try clear hfz14_5
     try clear hfz14_6
     try clear hfz14_7
     try clear hfz18_0
     try clear hfz18_1
     try clear hfz18_2
     try clear hfz18_3
     try clear hfz18_4
     try clear hfz18_5
     try clear hfz18_6
     try clear hfz18_7
     try clear hfz20_0
     try clear hfz20_1
     try clear hfz20_2
     try clear hfz20_3
     try clear hfz20_4
     try clear hfz20_5
     try clear hfz20_6
     try clear hfz20_7
     try clear hfz24_0
     try clear hfz24_1
     try clear hfz24_2
     try clear hfz24_3
     try clear hfz24_4
     try clear hfz24_5
     try clear hfz24_6
     try clear hfz24_7
     try clear hfz26_0
     try clear hfz26_1
     try clear hfz26_2
     try clear hfz26_3
     try clear hfz26_4
     try clear hfz26_5
     try clear hfz26_6
     try clear hfz26_7
     try clear hfz28_0
     try clear hfz28_1
     try clear hfz28_2
     try clear hfz28_3
     try clear hfz28_4
     try clear hfz28_5
     try clear hfz28_6
     try clear hfz28_7
     try clear hfz31_0
     try clear hfz31_1
     try clear hfz31_2
     try clear hfz31_3
     try clear hfz31_4
     try clear hfz31_5
     try clear hfz31_6
     try clear hfz31_7
     try clear p2
     obtain ⟨x6_2, x7_2, x41_2, rfl, rfl, HA, HK2, HO_6, BK158, HB⟩ := hrel
     cases gk with
     | zero => exact absurd HA.out (by simp [spec_AddDevice.l0])
     | succ k2 =>
      have H := HA.out
      clear HA
      simp only [spec_AddDevice.l0] at H
      by_cases c39 : x41_2 < (l0.length : Int)
      ·rw [if_pos c39] at H
       have c39b0 : decide (x41_2 < (l0.length : Int)) = true := decide_eq_true c39
       clear c39
       by_cases c40 : 0 ≤ x41_2
       ·rw [if_pos c40] at H
        have c40b0 : decide (0 ≤ x41_2) = true := decide_eq_true c40
        clear c40
        by_cases c41 : x41_2 < (l0.length : Int)
        ·rw [if_pos c41] at H
         have c41b0 : decide (x41_2 < (l0.length : Int)) = true := decide_eq_true c41
         clear c41
         by_cases c42 : x7_2 = true
         ·subst c42
          have H1 : (if x6_2.length < 1759218604441 then (spec_AddDevice.l0 k2 (x6_2 ++ [(⟨(rd_T87 l0 x41_2).f0, (rd_T87 l0 x41_2).f1, (rd_T87 l0 x41_2).f2, (⟨(rd_T87 l0 x41_2).f3.f0, (rd_T87 l0 x41_2).f3.f1⟩ : S66), (rd_T87 l0 x41_2).f4, (rd_T87 l0 x41_2).f5, (rd_T87 l0 x41_2).f6⟩ : S87)]) true l0 (l0.length : Int) (wrap64 (x41_2 + 1)) a1_0 a1_1 a1_2 a1_3 a1_4 a1_5 a1_6 a1_7) else (none)) = some (r1, r2) := by rw [if_pos rfl] at H; exact H
          clear H
          have H := H1
          clear H1
          by_cases c43 : x6_2.length < 1759218604441
          ·rw [if_pos c43] at H
           have LMc43 := am c43
           clear c43
           obtain ⟨y171, hy171⟩ : ∃ y_ : List (S87), y_ = (x6_2 ++ [(⟨(rd_T87 l0 x41_2).f0, (rd_T87 l0 x41_2).f1, (rd_T87 l0 x41_2).f2, (⟨(rd_T87 l0 x41_2).f3.f0, (rd_T87 l0 x41_2).f3.f1⟩ : S66), (rd_T87 l0 x41_2).f4, (rd_T87 l0 x41_2).f5, (rd_T87 l0 x41_2).f6⟩ : S87)]) := ⟨_, rfl⟩
           replace H : (spec_AddDevice.l0 k2 y171 true l0 (l0.length : Int) (wrap64 (x41_2 + 1)) a1_0 a1_1 a1_2 a1_3 a1_4 a1_5 a1_6 a1_7) = some (r1, r2) := by first | (rw [hy171]; with_reducible exact H) | (have H2_ := (Option.bind_some _ _).symm.trans H; rw [hy171]; with_reducible exact H2_) | (have H2_ := (Option.bind_some _ _).symm.trans H; with_reducible exact H2_) | with_reducible exact H | (rw [hy171]; exact H) | exact H
           have Ny171 := am hy171
           clear hy171
           have H' := am H
           clear H
           have p169 : 0 ≤ (x41_2 : Int) := od (by assumption)
           have q169 : x41_2 < (l0.length : Int) := od (by assumption)
           obtain ⟨ad169, e169, hx169_0, hx169_1, hx169_2, hx169_3, hx169_4, hx169_5, hx169_6, hx169_7⟩ := at_T87 (Kd.C_below HR0.out HB.out) x41_2 p169 q169
           cases e169
           replace p169 := eq_true p169
           replace q169 := eq_true q169
           go_wp2_with (first | ((with_reducible refine gate_dst (N := 9) rfl ?_); (try (refine gate_guard (by rfl) ?_; dsimp only)); refine box_event ?hg (N := 9) ?hd (cs := #[.string (⟨#[]⟩ : ByteArray), .int .i64 0, .string (⟨#[]⟩ : ByteArray), .int .i64 0, .int .i64 0, .int .i64 0, .int .i64 0, .int .i64 0]) (t := 87) ?hr ?_; (case hd => rfl); (case hg => rfl); (case hr => exact gq); intro gb170 hg w44 hbox hb; have n0_ := am (Kd.R_below (Kd.R_elderB u6_12 gb170 (Nat.le_of_eq hg.symm)) hb); have n1_ := am (blk_below (g := gb158) (o := zo0 a1_0 a1_1 a1_2 a1_3 a1_4 a1_5 a1_6 a1_7) u6_3 hb); have n2_ := am (below_step u6_2 hb); have n3_ := am (hbox); have n4_ := bsw w hg (below_size u6_2); have n5_ := bsw w hg (below_size u6_2); have n6_ := am ((by rw [hg]; exact Nat.ne_of_lt (blk_lt (g := gb158) (o := zo0 a1_0 a1_1 a1_2 a1_3 a1_4 a1_5 a1_6 a1_7) u6_3) : gb158 ≠ gb170)); have n7_ := am ((by rw [hg]; exact Nat.ne_of_gt (blk_lt (g := gb158) (o := zo0 a1_0 a1_1 a1_2 a1_3 a1_4 a1_5 a1_6 a1_7) u6_3) : gb170 ≠ gb158)); clear HO_6 BK158 HB; have HO_6 := n0_; have BK158 := n1_; have HB := n2_; have BK170 := n3_; have GW170 := n4_; have GE170 := n5_; have NB158_170 := n6_; have NB170_158 := n7_; clear n0_ n1_ n2_ n3_ n4_ n5_ n6_ n7_ hb hbox hg; have hnb45 := NB170_158.out; have hnc45 := NB158_170.out; obtain ⟨hcz46_0, hcz46_1, hcz46_2, hcz46_3, hcz46_4, hcz46_5, hcz46_6, hcz46_7, hfz46_0, hfz46_1, hfz46_2, hfz46_3, hfz46_4, hfz46_5, hfz46_6, hfz46_7⟩ := cf8 BK170.out) | ((with_reducible refine gate_builtin (b := .append) (xs := #[.tmp 58, .tmp 60]) rfl ?_); (try (refine gate_guard (by rfl) ?_; dsimp only)); at_builtin; refine Kd.R_append k87 (w0 := w) w.heap.size rfl (.tmp 58) (.tmp 60) 77 87 (.agg #[(.string ⟨#[]⟩), (.int .i64 0), (.string ⟨#[]⟩), (.int .i64 0), (.int .i64 0), (.int .i64 0), (.int .i64 0), (.int .i64 0)]) 80 rfl Try.underlying77 info87 rfl (by decide) (by omega) u6 x6_2 (⟨(rd_T87 l0 x41_2).f0, (rd_T87 l0 x41_2).f1, (rd_T87 l0 x41_2).f2, (⟨(rd_T87 l0 x41_2).f3.f0, (rd_T87 l0 x41_2).f3.f1⟩ : S66), (rd_T87 l0 x41_2).f4, (rd_T87 l0 x41_2).f5, (rd_T87 l0 x41_2).f6⟩ : S87) [.string ((rd_T87 l0 x41_2).f0), .int .i64 ((rd_T87 l0 x41_2).f1), .string ((rd_T87 l0 x41_2).f2), .int .i64 ((rd_T87 l0 x41_2).f3.f0), .int .i64 ((rd_T87 l0 x41_2).f3.f1), .int .i64 ((rd_T87 l0 x41_2).f4), .int .i64 ((rd_T87 l0 x41_2).f5), .int .i64 ((rd_T87 l0 x41_2).f6)] (fun k_ => k_ ≠ gb158 ∧ k_ ≠ gb170) (fun _ => False) rfl (by first | (go_simp; done) | (go_simp; rfl)) ?aP (fun _ hk => hk.elim) ?aF ?aO ?aB ?aS ?aL ?_; (case aP => exact k87_mkM _ _ _ (⟨(rd_T87 l0 x41_2).f0, (rd_T87 l0 x41_2).f1, (rd_T87 l0 x41_2).f2, (⟨(rd_T87 l0 x41_2).f3.f0, (rd_T87 l0 x41_2).f3.f1⟩ : S66), (rd_T87 l0 x41_2).f4, (rd_T87 l0 x41_2).f5, (rd_T87 l0 x41_2).f6⟩ : S87)); (case aB => exact u6_5); (case aF => exact (fun k_ hk => ⟨Kd.freshB (g := gb158) (o := zo0 a1_0 a1_1 a1_2 a1_3 a1_4 a1_5 a1_6 a1_7) u6_1 k_ hk, Kd.freshB (g := gb170) (o := zo4 (rd_T87 l0 x41_2)) u6_0 k_ hk⟩)); (case aO => exact u6_4); (case aS => exact (below_size u6_5)); (case aL => have := LMc43.out; omega); intro v172 w47 ho hb hg hat; rw [← Ny171.out] at ho; have n0_ := am (blk_grown (g := gb158) (o := zo0 a1_0 a1_1 a1_2 a1_3 a1_4 a1_5 a1_6 a1_7) u6_1 hg (Kd.R_away HO_6.out (fun _ hk => hk.1))); have n1_ := am (blk_grown (g := gb170) (o := zo4 (rd_T87 l0 x41_2)) u6_0 hg (Kd.R_away HO_6.out (fun _ hk => hk.2))); have n2_ := am (hb); have n3_ := am (ho); clear BK158 BK170 HB HO_6; have BK158 := n0_; have BK170 := n1_; have HB := n2_; have HO173 := n3_; clear n0_ n1_ n2_ n3_ ho hb hg hat))
           go_roundg k2
           case measure => have := HJ2.out; have := HK2.out; omega
           case rel => exact ⟨(y171), (true), (wrap64 (x41_2 + 1)), u6_9, u6_9, H', ⟨by have := HJ2.out; have := HK2.out; omega⟩, ⟨by (with_reducible repeat (first | apply Kd.R_alloc | apply Kd.R_drewN | apply Kd.R_drew)); exact Kd.R_mono HO173.out (fun _ hk => hk.1)⟩, ⟨by (with_reducible repeat (first | refine blk_drewN ?_ _ | refine blk_drew ?_ | refine blk_alloc ?_ _)); exact BK158.out⟩, ⟨s6_4⟩⟩
          ·rw [if_neg c43] at H
           exact absurd H (by simp)
         ·replace c42 := Bool.eq_false_iff.mpr c42
          subst c42
          have H1 : (if (Op.bytesLess a1_0.toList (((rd_T87 l0 x41_2).f0).toList)) = true then (if x6_2.length < 1759218604441 then ((some (x6_2 ++ [(⟨a1_0, a1_1, a1_2, (⟨a1_3, a1_4⟩ : S66), a1_5, a1_6, a1_7⟩ : S87)] : List (S87))).bind fun y174 => (if y174.length < 1759218604441 then (spec_AddDevice.l0 k2 (y174 ++ [(⟨(rd_T87 l0 x41_2).f0, (rd_T87 l0 x41_2).f1, (rd_T87 l0 x41_2).f2, (⟨(rd_T87 l0 x41_2).f3.f0, (rd_T87 l0 x41_2).f3.f1⟩ : S66), (rd_T87 l0 x41_2).f4, (rd_T87 l0 x41_2).f5, (rd_T87 l0 x41_2).f6⟩ : S87)]) true l0 (l0.length : Int) (wrap64 (x41_2 + 1)) a1_0 a1_1 a1_2 a1_3 a1_4 a1_5 a1_6 a1_7) else (none))) else (none)) else (if x6_2.length < 1759218604441 then (spec_AddDevice.l0 k2 (x6_2 ++ [(⟨(rd_T87 l0 x41_2).f0, (rd_T87 l0 x41_2).f1, (rd_T87 l0 x41_2).f2, (⟨(rd_T87 l0 x41_2).f3.f0, (rd_T87 l0 x41_2).f3.f1⟩ : S66), (rd_T87 l0 x41_2).f4, (rd_T87 l0 x41_2).f5, (rd_T87 l0 x41_2).f6⟩ : S87)]) false l0 (l0.length : Int) (wrap64 (x41_2 + 1)) a1_0 a1_1 a1_2 a1_3 a1_4 a1_5 a1_6 a1_7) else (none))) = some (r1, r2) := by rw [if_neg (show ¬ (false = true) by decide)] at H; exact H
          clear H
          have H := H1
          clear H1
          by_cases c48 : (Op.bytesLess a1_0.toList (((rd_T87 l0 x41_2).f0).toList)) = true
          ·rw [if_pos c48] at H
           have c48b0 : (Op.bytesLess a1_0.toList (((rd_T87 l0 x41_2).f0).toList)) = true := c48
           have c48e : (Op.bytesLess (((rd_T87 l0 x41_2).f0).toList) a1_0.toList || (((rd_T87 l0 x41_2).f0).toList) == a1_0.toList) = false := blU_leF c48b0
           clear c48
           by_cases c49 : x6_2.length < 1759218604441
           ·rw [if_pos c49] at H
            have LMc49 := am c49
            clear c49
            obtain ⟨y174, hy174⟩ : ∃ y_ : List (S87), y_ = (x6_2 ++ [(⟨a1_0, a1_1, a1_2, (⟨a1_3, a1_4⟩ : S66), a1_5, a1_6, a1_7⟩ : S87)]) := ⟨_, rfl⟩
            replace H : (if y174.length < 1759218604441 then (spec_AddDevice.l0 k2 (y174 ++ [(⟨(rd_T87 l0 x41_2).f0, (rd_T87 l0 x41_2).f1, (rd_T87 l0 x41_2).f2, (⟨(rd_T87 l0 x41_2).f3.f0, (rd_T87 l0 x41_2).f3.f1⟩ : S66), (rd_T87 l0 x41_2).f4, (rd_T87 l0 x41_2).f5, (rd_T87 l0 x41_2).f6⟩ : S87)]) true l0 (l0.length : Int) (wrap64 (x41_2 + 1)) a1_0 a1_1 a1_2 a1_3 a1_4 a1_5 a1_6 a1_7) else (none)) = some (r1, r2) := by first | (rw [hy174]; with_reducible exact H) | (have H2_ := (Option.bind_some _ _).symm.trans H; rw [hy174]; with_reducible exact H2_) | (have H2_ := (Option.bind_some _ _).symm.trans H; with_reducible exact H2_) | with_reducible exact H | (rw [hy174]; exact H) | exact H
            have Ny174 := am hy174
            clear hy174
            by_cases c50 : y174.length < 1759218604441
            ·rw [if_pos c50] at H
             have LMc50 := am c50
             clear c50
             obtain ⟨y177, hy177⟩ : ∃ y_ : List (S87), y_ = (y174 ++ [(⟨(rd_T87 l0 x41_2).f0, (rd_T87 l0 x41_2).f1, (rd_T87 l0 x41_2).f2, (⟨(rd_T87 l0 x41_2).f3.f0, (rd_T87 l0 x41_2).f3.f1⟩ : S66), (rd_T87 l0 x41_2).f4, (rd_T87 l0 x41_2).f5, (rd_T87 l0 x41_2).f6⟩ : S87)]) := ⟨_, rfl⟩
             replace H : (spec_AddDevice.l0 k2 y177 true l0 (l0.length : Int) (wrap64 (x41_2 + 1)) a1_0 a1_1 a1_2 a1_3 a1_4 a1_5 a1_6 a1_7) = some (r1, r2) := by first | (rw [hy177]; with_reducible exact H) | (have H2_ := (Option.bind_some _ _).symm.trans H; rw [hy177]; with_reducible exact H2_) | (have H2_ := (Option.bind_some _ _).symm.trans H; with_reducible exact H2_) | with_reducible exact H | (rw [hy177]; exact H) | exact H
             have Ny177 := am hy177
             clear hy177
             have H' := am H
             clear H
             have p169 : 0 ≤ (x41_2 : Int) := od (by assumption)
             have q169 : x41_2 < (l0.length : Int) := od (by assumption)
             obtain ⟨ad169, e169, hx169_0, hx169_1, hx169_2, hx169_3, hx169_4, hx169_5, hx169_6, hx169_7⟩ := at_T87 (Kd.C_below HR0.out HB.out) x41_2 p169 q169
             cases e169
             replace p169 := eq_true p169
             replace q169 := eq_true q169
             go_wp2_with (first | ((with_reducible refine gate_dst (N := 9) rfl ?_); (try (refine gate_guard (by rfl) ?_; dsimp only)); refine box_event ?hg (N := 9) ?hd (cs := #[.string (⟨#[]⟩ : ByteArray), .int .i64 0, .string (⟨#[]⟩ : ByteArray), .int .i64 0, .int .i64 0, .int .i64 0, .int .i64 0, .int .i64 0]) (t := 87) ?hr ?_; (case hd => rfl); (case hg => rfl); (case hr => exact gq); intro gb170 hg w51 hbox hb; have n0_ := am (Kd.R_below (Kd.R_elderB u6_12 gb170 (Nat.le_of_eq hg.symm)) hb); have n1_ := am (blk_below (g := gb158) (o := zo0 a1_0 a1_1 a1_2 a1_3 a1_4 a1_5 a1_6 a1_7) u6_3 hb); have n2_ := am (below_step u6_2 hb); have n3_ := am (hbox); have n4_ := bsw w hg (below_size u6_2); have n5_ := bsw w hg (below_size u6_2); have n6_ := am ((by rw [hg]; exact Nat.ne_of_lt (blk_lt (g := gb158) (o := zo0 a1_0 a1_1 a1_2 a1_3 a1_4 a1_5 a1_6 a1_7) u6_3) : gb158 ≠ gb170)); have n7_ := am ((by rw [hg]; exact Nat.ne_of_gt (blk_lt (g := gb158) (o := zo0 a1_0 a1_1 a1_2 a1_3 a1_4 a1_5 a1_6 a1_7) u6_3) : gb170 ≠ gb158)); clear HO_6 BK158 HB; have HO_6 := n0_; have BK158 := n1_; have HB := n2_; have BK170 := n3_; have GW170 := n4_; have GE170 := n5_; have NB158_170 := n6_; have NB170_158 := n7_; clear n0_ n1_ n2_ n3_ n4_ n5_ n6_ n7_ hb hbox hg; have hnb52 := NB170_158.out; have hnc52 := NB158_170.out; obtain ⟨hcz53_0, hcz53_1, hcz53_2, hcz53_3, hcz53_4, hcz53_5, hcz53_6, hcz53_7, hfz53_0, hfz53_1, hfz53_2, hfz53_3, hfz53_4, hfz53_5, hfz53_6, hfz53_7⟩ := cf8 BK170.out; obtain ⟨hcz54_0, hcz54_1, hcz54_2, hcz54_3, hcz54_4, hcz54_5, hcz54_6, hcz54_7, hfz54_0, hfz54_1, hfz54_2, hfz54_3, hfz54_4, hfz54_5, hfz54_6, hfz54_7⟩ := cf8 BK158.out) | ((with_reducible refine gate_builtin (b := .append) (xs := #[.tmp 54, .tmp 56]) rfl ?_); (try (refine gate_guard (by rfl) ?_; dsimp only)); at_builtin; refine Kd.R_append k87 (w0 := w) w.heap.size rfl (.tmp 54) (.tmp 56) 77 87 (.agg #[(.string ⟨#[]⟩), (.int .i64 0), (.string ⟨#[]⟩), (.int .i64 0), (.int .i64 0), (.int .i64 0), (.int .i64 0), (.int .i64 0)]) 80 rfl Try.underlying77 info87 rfl (by decide) (by omega) u6 x6_2 (⟨a1_0, a1_1, a1_2, (⟨a1_3, a1_4⟩ : S66), a1_5, a1_6, a1_7⟩ : S87) [.string a1_0, .int .i64 a1_1, .string a1_2, .int .i64 a1_3, .int .i64 a1_4, .int .i64 a1_5, .int .i64 a1_6, .int .i64 a1_7] (fun k_ => k_ ≠ gb158 ∧ k_ ≠ gb170) (fun _ => False) rfl (by first | (go_simp; done) | (go_simp; rfl)) ?aP (fun _ hk => hk.elim) ?aF ?aO ?aB ?aS ?aL ?_; (case aP => exact k87_mkM _ _ _ (⟨a1_0, a1_1, a1_2, (⟨a1_3, a1_4⟩ : S66), a1_5, a1_6, a1_7⟩ : S87)); (case aB => exact u6_5); (case aF => exact (fun k_ hk => ⟨Kd.freshB (g := gb158) (o := zo0 a1_0 a1_1 a1_2 a1_3 a1_4 a1_5 a1_6 a1_7) u6_1 k_ hk, Kd.freshB (g := gb170) (o := zo4 (rd_T87 l0 x41_2)) u6_0 k_ hk⟩)); (case aO => exact u6_4); (case aS => exact (below_size u6_5)); (case aL => have := LMc49.out; omega); intro v175 w55 ho hb hg hat; rw [← Ny174.out] at ho; have n0_ := am (blk_grown (g := gb158) (o := zo0 a1_0 a1_1 a1_2 a1_3 a1_4 a1_5 a1_6 a1_7) u6_1 hg (Kd.R_away HO_6.out (fun _ hk => hk.1))); have n1_ := am (blk_grown (g := gb170) (o := zo4 (rd_T87 l0 x41_2)) u6_0 hg (Kd.R_away HO_6.out (fun _ hk => hk.2))); have n2_ := am (hb); have n3_ := am (ho); clear BK158 BK170 HB HO_6; have BK158 := n0_; have BK170 := n1_; have HB := n2_; have HO176 := n3_; clear n0_ n1_ n2_ n3_ ho hb hg hat; obtain ⟨hcz56_0, hcz56_1, hcz56_2, hcz56_3, hcz56_4, hcz56_5, hcz56_6, hcz56_7, hfz56_0, hfz56_1, hfz56_2, hfz56_3, hfz56_4, hfz56_5, hfz56_6, hfz56_7⟩ := cf8 BK170.out) | ((with_reducible refine gate_builtin (b := .append) (xs := #[.tmp 58, .tmp 60]) rfl ?_); (try (refine gate_guard (by rfl) ?_; dsimp only)); at_builtin; refine Kd.R_append k87 (w0 := w) w.heap.size rfl (.tmp 58) (.tmp 60) 77 87 (.agg #[(.string ⟨#[]⟩), (.int .i64 0), (.string ⟨#[]⟩), (.int .i64 0), (.int .i64 0), (.int .i64 0), (.int .i64 0), (.int .i64 0)]) 80 rfl Try.underlying77 info87 rfl (by decide) (by omega) v175 y174 (⟨(rd_T87 l0 x41_2).f0, (rd_T87 l0 x41_2).f1, (rd_T87 l0 x41_2).f2, (⟨(rd_T87 l0 x41_2).f3.f0, (rd_T87 l0 x41_2).f3.f1⟩ : S66), (rd_T87 l0 x41_2).f4, (rd_T87 l0 x41_2).f5, (rd_T87 l0 x41_2).f6⟩ : S87) [.string ((rd_T87 l0 x41_2).f0), .int .i64 ((rd_T87 l0 x41_2).f1), .string ((rd_T87 l0 x41_2).f2), .int .i64 ((rd_T87 l0 x41_2).f3.f0), .int .i64 ((rd_T87 l0 x41_2).f3.f1), .int .i64 ((rd_T87 l0 x41_2).f4), .int .i64 ((rd_T87 l0 x41_2).f5), .int .i64 ((rd_T87 l0 x41_2).f6)] (fun k_ => k_ ≠ gb158 ∧ k_ ≠ gb170) (fun _ => False) rfl rfl ?aP (fun _ hk => hk.elim) ?aF ?aO ?aB ?aS ?aL ?_; (case aP => exact k87_mkM _ _ _ (⟨(rd_T87 l0 x41_2).f0, (rd_T87 l0 x41_2).f1, (rd_T87 l0 x41_2).f2, (⟨(rd_T87 l0 x41_2).f3.f0, (rd_T87 l0 x41_2).f3.f1⟩ : S66), (rd_T87 l0 x41_2).f4, (rd_T87 l0 x41_2).f5, (rd_T87 l0 x41_2).f6⟩ : S87)); (case aB => exact u6_5); (case aF => exact (fun k_ hk => ⟨Kd.freshB (g := gb158) (o := zo0 a1_0 a1_1 a1_2 a1_3 a1_4 a1_5 a1_6 a1_7) u6_3 k_ hk, Kd.freshB (g := gb170) (o := zo4 (rd_T87 l0 x41_2)) (by (with_reducible repeat (first | refine blk_drewN ?_ _ | refine blk_drew ?_ | refine blk_alloc ?_ _)); exact BK170.out) k_ hk⟩)); (case aO => exact (by (with_reducible repeat (first | apply Kd.R_alloc | apply Kd.R_drewN | apply Kd.R_drew)); exact HO176.out)); (case aS => exact (below_size u6_5)); (case aL => have := LMc50.out; omega); intro v178 w57 ho hb hg hat; rw [← Ny177.out] at ho; have n0_ := am (blk_grown (g := gb158) (o := zo0 a1_0 a1_1 a1_2 a1_3 a1_4 a1_5 a1_6 a1_7) u6_3 hg (Kd.R_away HO176.out (fun _ hk => hk.1))); have n1_ := am (blk_grown (g := gb170) (o := zo4 (rd_T87 l0 x41_2)) (by (with_reducible repeat (first | refine blk_drewN ?_ _ | refine blk_drew ?_ | refine blk_alloc ?_ _)); exact BK170.out) hg (Kd.R_away HO176.out (fun _ hk => hk.2))); have n2_ := am (hb); have n3_ := am (ho); clear BK158 BK170 HB HO176; have BK158 := n0_; have BK170 := n1_; have HB := n2_; have HO179 := n3_; clear n0_ n1_ n2_ n3_ ho hb hg hat))
             go_roundg k2
             case measure => have := HJ2.out; have := HK2.out; omega
             case rel => exact ⟨(y177), (true), (wrap64 (x41_2 + 1)), u6_9, u6_9, H', ⟨by have := HJ2.out; have := HK2.out; omega⟩, ⟨by (with_reducible repeat (first | apply Kd.R_alloc | apply Kd.R_drewN | apply Kd.R_drew)); exact Kd.R_mono HO179.out (fun _ hk => hk.1)⟩, ⟨by (with_reducible repeat (first | refine blk_drewN ?_ _ | refine blk_drew ?_ | refine blk_alloc ?_ _)); exact BK158.out⟩, ⟨s6_4⟩⟩
            ·rw [if_neg c50] at H
             exact absurd H (by simp)
           ·rw [if_neg c49] at H
            exact absurd H (by simp)
          ·rw [if_neg c48] at H
           have c48b0 : (Op.bytesLess a1_0.toList (((rd_T87 l0 x41_2).f0).toList)) = false := by simpa using c48
           have c48e : (Op.bytesLess (((rd_T87 l0 x41_2).f0).toList) a1_0.toList || (((rd_T87 l0 x41_2).f0).toList) == a1_0.toList) = true := blU_leT c48b0
           clear c48
           by_cases c58 : x6_2.length < 1759218604441
           ·rw [if_pos c58] at H
            have LMc58 := am c58
            clear c58
            obtain ⟨y180, hy180⟩ : ∃ y_ : List (S87), y_ = (x6_2 ++ [(⟨(rd_T87 l0 x41_2).f0, (rd_T87 l0 x41_2).f1, (rd_T87 l0 x41_2).f2, (⟨(rd_T87 l0 x41_2).f3.f0, (rd_T87 l0 x41_2).f3.f1⟩ : S66), (rd_T87 l0 x41_2).f4, (rd_T87 l0 x41_2).f5, (rd_T87 l0 x41_2).f6⟩ : S87)]) := ⟨_, rfl⟩
            replace H : (spec_AddDevice.l0 k2 y180 false l0 (l0.length : Int) (wrap64 (x41_2 + 1)) a1_0 a1_1 a1_2 a1_3 a1_4 a1_5 a1_6 a1_7) = some (r1, r2) := by first | (rw [hy180]; with_reducible exact H) | (have H2_ := (Option.bind_some _ _).symm.trans H; rw [hy180]; with_reducible exact H2_) | (have H2_ := (Option.bind_some _ _).symm.trans H; with_reducible exact H2_) | with_reducible exact H | (rw [hy180]; exact H) | exact H
            have Ny180 := am hy180
            clear hy180
            have H' := am H
            clear H
            have p169 : 0 ≤ (x41_2 : Int) := od (by assumption)
            have q169 : x41_2 < (l0.length : Int) := od (by assumption)
            obtain ⟨ad169, e169, hx169_0, hx169_1, hx169_2, hx169_3, hx169_4, hx169_5, hx169_6, hx169_7⟩ := at_T87 (Kd.C_below HR0.out HB.out) x41_2 p169 q169
            cases e169
            replace p169 := eq_true p169
            replace q169 := eq_true q169
            go_wp2_with (first | ((with_reducible refine gate_dst (N := 9) rfl ?_); (try (refine gate_guard (by rfl) ?_; dsimp only)); refine box_event ?hg (N := 9) ?hd (cs := #[.string (⟨#[]⟩ : ByteArray), .int .i64 0, .string (⟨#[]⟩ : ByteArray), .int .i64 0, .int .i64 0, .int .i64 0, .int .i64 0, .int .i64 0]) (t := 87) ?hr ?_; (case hd => rfl); (case hg => rfl); (case hr => exact gq); intro gb170 hg w59 hbox hb; have n0_ := am (Kd.R_below (Kd.R_elderB u6_12 gb170 (Nat.le_of_eq hg.symm)) hb); have n1_ := am (blk_below (g := gb158) (o := zo0 a1_0 a1_1 a1_2 a1_3 a1_4 a1_5 a1_6 a1_7) u6_3 hb); have n2_ := am (below_step u6_2 hb); have n3_ := am (hbox); have n4_ := bsw w hg (below_size u6_2); have n5_ := bsw w hg (below_size u6_2); have n6_ := am ((by rw [hg]; exact Nat.ne_of_lt (blk_lt (g := gb158) (o := zo0 a1_0 a1_1 a1_2 a1_3 a1_4 a1_5 a1_6 a1_7) u6_3) : gb158 ≠ gb170)); have n7_ := am ((by rw [hg]; exact Nat.ne_of_gt (blk_lt (g := gb158) (o := zo0 a1_0 a1_1 a1_2 a1_3 a1_4 a1_5 a1_6 a1_7) u6_3) : gb170 ≠ gb158)); clear HO_6 BK158 HB; have HO_6 := n0_; have BK158 := n1_; have HB := n2_; have BK170 := n3_; have GW170 := n4_; have GE170 := n5_; have NB158_170 := n6_; have NB170_158 := n7_; clear n0_ n1_ n2_ n3_ n4_ n5_ n6_ n7_ hb hbox hg; have hnb60 := NB170_158.out; have hnc60 := NB158_170.out; obtain ⟨hcz61_0, hcz61_1, hcz61_2, hcz61_3, hcz61_4, hcz61_5, hcz61_6, hcz61_7, hfz61_0, hfz61_1, hfz61_2, hfz61_3, hfz61_4, hfz61_5, hfz61_6, hfz61_7⟩ := cf8 BK170.out; obtain ⟨hcz62_0, hcz62_1, hcz62_2, hcz62_3, hcz62_4, hcz62_5, hcz62_6, hcz62_7, hfz62_0, hfz62_1, hfz62_2, hfz62_3, hfz62_4, hfz62_5, hfz62_6, hfz62_7⟩ := cf8 BK158.out) | ((with_reducible refine gate_builtin (b := .append) (xs := #[.tmp 58, .tmp 60]) rfl ?_); (try (refine gate_guard (by rfl) ?_; dsimp only)); at_builtin; refine Kd.R_append k87 (w0 := w) w.heap.size rfl (.tmp 58) (.tmp 60) 77 87 (.agg #[(.string ⟨#[]⟩), (.int .i64 0), (.string ⟨#[]⟩), (.int .i64 0), (.int .i64 0), (.int .i64 0), (.int .i64 0), (.int .i64 0)]) 80 rfl Try.underlying77 info87 rfl (by decide) (by omega) u6 x6_2 (⟨(rd_T87 l0 x41_2).f0, (rd_T87 l0 x41_2).f1, (rd_T87 l0 x41_2).f2, (⟨(rd_T87 l0 x41_2).f3.f0, (rd_T87 l0 x41_2).f3.f1⟩ : S66), (rd_T87 l0 x41_2).f4, (rd_T87 l0 x41_2).f5, (rd_T87 l0 x41_2).f6⟩ : S87) [.string ((rd_T87 l0 x41_2).f0), .int .i64 ((rd_T87 l0 x41_2).f1), .string ((rd_T87 l0 x41_2).f2), .int .i64 ((rd_T87 l0 x41_2).f3.f0), .int .i64 ((rd_T87 l0 x41_2).f3.f1), .int .i64 ((rd_T87 l0 x41_2).f4), .int .i64 ((rd_T87 l0 x41_2).f5), .int .i64 ((rd_T87 l0 x41_2).f6)] (fun k_ => k_ ≠ gb158 ∧ k_ ≠ gb170) (fun _ => False) rfl (by first | (go_simp; done) | (go_simp; rfl)) ?aP (fun _ hk => hk.elim) ?aF ?aO ?aB ?aS ?aL ?_; (case aP => exact k87_mkM _ _ _ (⟨(rd_T87 l0 x41_2).f0, (rd_T87 l0 x41_2).f1, (rd_T87 l0 x41_2).f2, (⟨(rd_T87 l0 x41_2).f3.f0, (rd_T87 l0 x41_2).f3.f1⟩ : S66), (rd_T87 l0 x41_2).f4, (rd_T87 l0 x41_2).f5, (rd_T87 l0 x41_2).f6⟩ : S87)); (case aB => exact u6_5); (case aF => exact (fun k_ hk => ⟨Kd.freshB (g := gb158) (o := zo0 a1_0 a1_1 a1_2 a1_3 a1_4 a1_5 a1_6 a1_7) u6_1 k_ hk, Kd.freshB (g := gb170) (o := zo4 (rd_T87 l0 x41_2)) u6_0 k_ hk⟩)); (case aO => exact u6_4); (case aS => exact (below_size u6_5)); (case aL => have := LMc58.out; omega); intro v181 w63 ho hb hg hat; rw [← Ny180.out] at ho; have n0_ := am (blk_grown (g := gb158) (o := zo0 a1_0 a1_1 a1_2 a1_3 a1_4 a1_5 a1_6 a1_7) u6_1 hg (Kd.R_away HO_6.out (fun _ hk => hk.1))); have n1_ := am (blk_grown (g := gb170) (o := zo4 (rd_T87 l0 x41_2)) u6_0 hg (Kd.R_away HO_6.out (fun _ hk => hk.2))); have n2_ := am (hb); have n3_ := am (ho); clear BK158 BK170 HB HO_6; have BK158 := n0_; have BK170 := n1_; have HB := n2_; have HO182 := n3_; clear n0_ n1_ n2_ n3_ ho hb hg hat))
            go_roundg k2
            case measure => have := HJ2.out; have := HK2.out; omega
            case rel => exact ⟨(y180), (false), (wrap64 (x41_2 + 1)), u6_9, u6_9, H', ⟨by have := HJ2.out; have := HK2.out; omega⟩, ⟨by (with_reducible repeat (first | apply Kd.R_alloc | apply Kd.R_drewN | apply Kd.R_drew)); exact Kd.R_mono HO182.out (fun _ hk => hk.1)⟩, ⟨by (with_reducible repeat (first | refine blk_drewN ?_ _ | refine blk_drew ?_ | refine blk_alloc ?_ _)); exact BK158.out⟩, ⟨s6_4⟩⟩
           ·rw [if_neg c58] at H
            exact absurd H (by simp)
        ·rw [if_neg c41] at H
         exact absurd H (by simp)
       ·rw [if_neg c40] at H
        exact absurd H (by simp)
      ·rw [if_neg c39] at H
       have c39b0 : decide (x41_2 < (l0.length : Int)) = false := decide_eq_false c39
       clear c39
       by_cases c64 : x7_2 = true
       ·subst c64
        have H1 : (some (x6_2, true)) = some (r1, r2) := by rw [if_pos rfl] at H; exact H
        clear H
        have H := H1
        clear H1
        simp only [Option.some.injEq, Prod.mk.injEq] at H
        obtain ⟨rfl, rfl⟩ := H
        go_wp2
        go_ret2
        exact ⟨_, by first | rfl | (simp [*] <;> rfl), by (with_reducible repeat (first | apply Kd.R_alloc | apply Kd.R_drewN | apply Kd.R_drew)); exact Kd.R_mono HO_6.out (fun _ hk => trivial), s6_7⟩
       ·replace c64 := Bool.eq_false_iff.mpr c64
        subst c64
        have H1 : (if x6_2.length < 1759218604441 then (some ((x6_2 ++ [(⟨a1_0, a1_1, a1_2, (⟨a1_3, a1_4⟩ : S66), a1_5, a1_6, a1_7⟩ : S87)]), true)) else (none)) = some (r1, r2) := by rw [if_neg (show ¬ (false = true) by decide)] at H; exact H
        clear H
        have H := H1
        clear H1
        by_cases c65 : x6_2.length < 1759218604441
        ·rw [if_pos c65] at H
         have LMc65 := am c65
         clear c65
         obtain ⟨y183, hy183⟩ : ∃ y_ : List (S87), y_ = (x6_2 ++ [(⟨a1_0, a1_1, a1_2, (⟨a1_3, a1_4⟩ : S66), a1_5, a1_6, a1_7⟩ : S87)]) := ⟨_, rfl⟩
         replace H : (some (y183, true)) = some (r1, r2) := by first | (rw [hy183]; with_reducible exact H) | (have H2_ := (Option.bind_some _ _).symm.trans H; rw [hy183]; with_reducible exact H2_) | (have H2_ := (Option.bind_some _ _).symm.trans H; with_reducible exact H2_) | with_reducible exact H | (rw [hy183]; exact H) | exact H
         have Ny183 := am hy183
         clear hy183
         simp only [Option.some.injEq, Prod.mk.injEq] at H
         obtain ⟨rfl, rfl⟩ := H
         obtain ⟨hcz66_0, hcz66_1, hcz66_2, hcz66_3, hcz66_4, hcz66_5, hcz66_6, hcz66_7, hfz66_0, hfz66_1, hfz66_2, hfz66_3, hfz66_4, hfz66_5, hfz66_6, hfz66_7⟩ := cf8 BK158.out
         go_wp2_with (first | ((with_reducible refine gate_builtin (b := .append) (xs := #[.tmp 65, .tmp 67]) rfl ?_); (try (refine gate_guard (by rfl) ?_; dsimp only)); at_builtin; refine Kd.R_append k87 (w0 := w) w.heap.size rfl (.tmp 65) (.tmp 67) 77 87 (.agg #[(.string ⟨#[]⟩), (.int .i64 0), (.string ⟨#[]⟩), (.int .i64 0), (.int .i64 0), (.int .i64 0), (.int .i64 0), (.int .i64 0)]) 80 rfl Try.underlying77 info87 rfl (by decide) (by omega) u6 x6_2 (⟨a1_0, a1_1, a1_2, (⟨a1_3, a1_4⟩ : S66), a1_5, a1_6, a1_7⟩ : S87) [.string a1_0, .int .i64 a1_1, .string a1_2, .int .i64 a1_3, .int .i64 a1_4, .int .i64 a1_5, .int .i64 a1_6, .int .i64 a1_7] (fun k_ => k_ ≠ gb158) (fun _ => False) rfl rfl ?aP (fun _ hk => hk.elim) ?aF ?aO ?aB ?aS ?aL ?_; (case aP => exact k87_mkM _ _ _ (⟨a1_0, a1_1, a1_2, (⟨a1_3, a1_4⟩ : S66), a1_5, a1_6, a1_7⟩ : S87)); (case aB => exact u6_2); (case aF => exact (fun k_ hk => Kd.freshB (g := gb158) (o := zo0 a1_0 a1_1 a1_2 a1_3 a1_4 a1_5 a1_6 a1_7) u6_3 k_ hk)); (case aO => exact u6_12); (case aS => exact (below_size u6_2)); (case aL => have := LMc65.out; omega); intro v184 w67 ho hb hg hat; rw [← Ny183.out] at ho; have n0_ := am (blk_grown (g := gb158) (o := zo0 a1_0 a1_1 a1_2 a1_3 a1_4 a1_5 a1_6 a1_7) u6_3 hg (Kd.R_away HO_6.out (fun _ hk => hk))); have n1_ := am (hb); have n2_ := am (ho); clear BK158 HB HO_6; have BK158 := n0_; have HB := n1_; have HO185 := n2_; clear n0_ n1_ n2_ ho hb hg hat))
         go_ret2
         exact ⟨_, by first | rfl | (simp [*] <;> rfl), by (with_reducible repeat (first | apply Kd.R_alloc | apply Kd.R_drewN | apply Kd.R_drew)); exact Kd.R_mono HO185.out (fun _ hk => trivial), s6_7⟩
        ·rw [if_neg c65] at H
         exact absurd H (by simp)

def spec_l1Some.f (s0_0 : List Int) (s0_1 : Int) (s0_2 : Int) (a1 : Int) (a2 : Int) : Option (Int × Int × Int) := (spec_l1Below.f s0_0 s0_1 s0_2 (wrap64 ((wrap64 (a2 - a1)) + 1))).bind fun bt186 => (some (wrap64 (a1 + bt186.1), bt186.2.1, bt186.2.2))
set_option maxHeartbeats 8000000 in
set_option maxRecDepth 100000 in
theorem spec_l1Some.calls (g : Nat) (s0_0 : List Int) (s0_1 : Int) (s0_2 : Int) (a1 : Int) (a2 : Int) (r1 : Int) (r2 : Int) (r3 : Int) (w0 w : World) (hI : IsS133 w0 w g s0_0 s0_1 s0_2) (hB : Below w0.heap.size w0 w) (h : spec_l1Some.f s0_0 s0_1 s0_2 a1 a2 = some (r1, r2, r3)) :
  Calls Try.prog 151 #[.pointer (some ⟨g, 0, none⟩), .int .i64 a1, .int .i64 a2] w fun e w' => e = .returned (.int .i64 r1) ∧ IsS133 w0 w' g s0_0 r2 r3 ∧ Below w0.heap.size w0 w' ∧ KeepBut w w' g none := by
 have HI0 := am hI
 have HK := am (KeepBut.refl w g none)
 have HL := am hB.size
 clear hI
 have HW0 := am hB.size
 have HB := am hB
 clear hB
 have H : ((spec_l1Below.f s0_0 s0_1 s0_2 (wrap64 ((wrap64 (a2 - a1)) + 1))).bind fun bt186 => (some (wrap64 (a1 + bt186.1), bt186.2.1, bt186.2.2))) = some (r1, r2, r3) := h
 clear h
 replace H := Option.bind_eq_some_iff.mp H
 obtain ⟨⟨t186, t187, t188⟩, A40, H⟩ := H
 replace H : (some (wrap64 (a1 + t186), t187, t188)) = some (r1, r2, r3) := H
 have A4 := am A40
 clear A40
 simp only [Option.some.injEq, Prod.mk.injEq] at H
 obtain ⟨rfl, rfl, rfl⟩ := H
 go_enter Try.func151, Try.ntmps151
 go_wp2_with (first | ((with_reducible refine gate_callee (f := 110) rfl ?_); refine goesL_ (some 13) rfl rfl Try.func110 (by kernel_rfl) rfl #[.pointer (some ⟨g, 0, none⟩), .int .i64 (wrap64 ((wrap64 (a2 - a1)) + 1))] rfl u6_6 ?_; (with_reducible refine (spec_l1Below.calls g s0_0 s0_1 s0_2 (wrap64 ((wrap64 (a2 - a1)) + 1)) t186 t187 t188 w0 _ ?side1 ?side2 A4.out).mono ?_); (case side1 => exact s6_5); (case side2 => exact s6_6); rintro e w5 ⟨rfl, hi, hb, hk⟩; refine ⟨_, rfl, ?_⟩; have n0_ := am (KeepBut.trans u6_7 hk (.inl rfl)); have n1_ := am (hb); have n2_ := am (hi); clear HK HB HI0; have HK := n0_; have HB := n1_; have HI0 := n2_; clear n0_ n1_ n2_; (try clear hb); (try clear hb2); (try clear hk); (try clear hi)))
 go_ret
 exact ⟨by first | rfl | (simp [*] <;> rfl), s6_5, s6_6, by repeat (first | (with_reducible first | exact HK.out | apply KeepBut.set_ | apply keep_drewN | apply keep_drew | apply keep_alloc) | exact HK.out)⟩

def spec_l2Draw.f (s0_0 : List Int) (s0_1 : Int) (s0_2 : Int) : Option (Int × Int × Int × Int) := (spec_l1Some.f s0_0 s0_1 s0_2 (-64) 64).bind fun bt190 => ((spec_l1Some.f s0_0 bt190.2.1 bt190.2.2 (-64) 64).bind fun bt193 => (some (bt190.1, bt193.1, bt193.2.1, bt193.2.2)))
set_option maxHeartbeats 8000000 in
set_option maxRecDepth 100000 in
theorem spec_l2Draw.calls (g : Nat) (s0_0 : List Int) (s0_1 : Int) (s0_2 : Int) (r1 : Int) (r2 : Int) (r3 : Int) (r4 : Int) (w0 w : World) (hI : IsS133 w0 w g s0_0 s0_1 s0_2) (hB : Below w0.heap.size w0 w) (h : spec_l2Draw.f s0_0 s0_1 s0_2 = some (r1, r2, r3, r4)) :
  Calls Try.prog 129 #[.pointer (some ⟨g, 0, none⟩)] w fun e w' => e = .returned (.agg #[.int .i64 r1, .int .i64 r2]) ∧ IsS133 w0 w' g s0_0 r3 r4 ∧ Below w0.heap.size w0 w' ∧ KeepBut w w' g none := by
 have hu66 := Try.underlying66
 have HI0 := am hI
 have HK := am (KeepBut.refl w g none)
 have HL := am hB.size
 clear hI
 have HW0 := am hB.size
 have HB := am hB
 clear hB
 have H : ((spec_l1Some.f s0_0 s0_1 s0_2 (-64) 64).bind fun bt190 => ((spec_l1Some.f s0_0 bt190.2.1 bt190.2.2 (-64) 64).bind fun bt193 => (some (bt190.1, bt193.1, bt193.2.1, bt193.2.2)))) = some (r1, r2, r3, r4) := h
 clear h
 replace H := Option.bind_eq_some_iff.mp H
 obtain ⟨⟨t190, t191, t192⟩, A20, H⟩ := H
 replace H : ((spec_l1Some.f s0_0 t191 t192 (-64) 64).bind fun bt193 => (some (t190, bt193.1, bt193.2.1, bt193.2.2))) = some (r1, r2, r3, r4) := H
 have A2 := am A20
 clear A20
 replace H := Option.bind_eq_some_iff.mp H
 obtain ⟨⟨t193, t194, t195⟩, A30, H⟩ := H
 replace H : (some (t190, t193, t194, t195)) = some (r1, r2, r3, r4) := H
 have A3 := am A30
 clear A30
 simp only [Option.some.injEq, Prod.mk.injEq] at H
 obtain ⟨rfl, rfl, rfl, rfl⟩ := H
 go_enter Try.func129, Try.ntmps129
 go_wp2_with (first | ((with_reducible refine gate_dst (N := 2) rfl ?_); refine box_event ?hg (N := 2) ?hd (cs := #[.int .i64 0, .int .i64 0]) (t := 66) ?hr ?_; (case hd => rfl); (case hg => rfl); (case hr => exact gq); intro gb189 hg w4 hbox hb; have n0_ := am (IsS133.below (by repeat (first | (with_reducible first | exact HI0.out | apply IsS133.alloc | apply IsS133.drewN | apply IsS133.drew | apply IsS133.set_1 | apply IsS133.set_2) | exact HI0.out)) hb); have n1_ := am (KeepBut.trans u6_7 (KeepBut.of_below hb g none) (.inl rfl)); have n2_ := am (below_step (by repeat (first | (with_reducible first | exact HB.out | apply below_alloc | apply pw_below_drewN | apply below_drew1 | refine below_set ?_ (IsS133.ge HI0.out)) | exact HB.out)) hb); have n3_ := am (hbox); have n4_ := am ((by rw [hg]; exact (keep_size (w := w) (g := g) (row := none) u6_7) : w.heap.size ≤ gb189)); have n5_ := am ((Nat.le_trans HW0.out (by rw [hg]; exact (keep_size (w := w) (g := g) (row := none) u6_7) : w.heap.size ≤ gb189) : w0.heap.size ≤ gb189)); have n6_ := am ((by rw [hg]; exact Nat.ne_of_lt (IsS133.lt (show IsS133 w0 _ g s0_0 s0_1 s0_2 from by repeat (first | (with_reducible first | exact HI0.out | apply IsS133.alloc | apply IsS133.drewN | apply IsS133.drew | apply IsS133.set_1 | apply IsS133.set_2) | exact HI0.out))) : g ≠ gb189)); have n7_ := am ((by rw [hg]; exact Nat.ne_of_gt (IsS133.lt (show IsS133 w0 _ g s0_0 s0_1 s0_2 from by repeat (first | (with_reducible first | exact HI0.out | apply IsS133.alloc | apply IsS133.drewN | apply IsS133.drew | apply IsS133.set_1 | apply IsS133.set_2) | exact HI0.out))) : gb189 ≠ g)); clear HI0 HK HB; have HI0 := n0_; have HK := n1_; have HB := n2_; have BK189 := n3_; have GW189 := n4_; have GE189 := n5_; have NB0_189 := n6_; have NB189_0 := n7_; clear n0_ n1_ n2_ n3_ n4_ n5_ n6_ n7_ hb hbox hg) | ((with_reducible refine gate_callee (f := 151) rfl ?_); refine goesL_ (some 4) rfl rfl Try.func151 (by kernel_rfl) rfl #[.pointer (some ⟨g, 0, none⟩), .int .i64 (-64), .int .i64 64] rfl u6_6 ?_; (with_reducible refine (spec_l1Some.calls g s0_0 s0_1 s0_2 (-64) 64 t190 t191 t192 w0 _ ?side1 ?side2 A2.out).mono ?_); (case side1 => exact s6_0); (case side2 => exact s6_2); rintro e w5 ⟨rfl, hi, hb, hk⟩; refine ⟨_, rfl, ?_⟩; have n0_ := am (KeepBut.blk hk (g' := gb189) (o := zo6 0 0) (by (with_reducible repeat (first | refine blk_drewN ?_ _ | refine blk_drew ?_ | refine blk_alloc ?_ _)); exact BK189.out) NB189_0.out (by simp)); have n1_ := am (KeepBut.trans (by repeat (first | (with_reducible first | exact HK.out | apply KeepBut.set_ | apply keep_drewN | apply keep_drew | apply keep_alloc | refine keep_far ?_ GW189.out _) | exact HK.out)) hk (.inl rfl)); have n2_ := am (hb); have n3_ := am (hi); clear BK189 HK HB HI0; have BK189 := n0_; have HK := n1_; have HB := n2_; have HI0 := n3_; clear n0_ n1_ n2_ n3_; (try clear hb); (try clear hb2); (try clear hk); (try clear hi)) | ((with_reducible refine gate_callee (f := 151) rfl ?_); refine goesL_ (some 6) rfl rfl Try.func151 (by kernel_rfl) rfl #[.pointer (some ⟨g, 0, none⟩), .int .i64 (-64), .int .i64 64] rfl u6_6 ?_; (with_reducible refine (spec_l1Some.calls g s0_0 t191 t192 (-64) 64 t193 t194 t195 w0 _ ?side1 ?side2 A3.out).mono ?_); (case side1 => exact s6_0); (case side2 => exact s6_2); rintro e w6 ⟨rfl, hi, hb, hk⟩; refine ⟨_, rfl, ?_⟩; have n0_ := am (KeepBut.blk hk (g' := gb189) (o := zo6 0 0) (by (with_reducible repeat (first | refine blk_drewN ?_ _ | refine blk_drew ?_ | refine blk_alloc ?_ _)); exact BK189.out) NB189_0.out (by simp)); have n1_ := am (KeepBut.trans (by repeat (first | (with_reducible first | exact HK.out | apply KeepBut.set_ | apply keep_drewN | apply keep_drew | apply keep_alloc | refine keep_far ?_ GW189.out _) | exact HK.out)) hk (.inl rfl)); have n2_ := am (hb); have n3_ := am (hi); clear BK189 HK HB HI0; have BK189 := n0_; have HK := n1_; have HB := n2_; have HI0 := n3_; clear n0_ n1_ n2_ n3_; (try clear hb); (try clear hb2); (try clear hk); (try clear hi); have hnb7 := NB189_0.out; have hnc7 := NB0_189.out; obtain ⟨hcz8_0, hcz8_1, hfz8_0, hfz8_1⟩ := cf2 BK189.out))
 refine bodyPost_ret (results_cell_row rfl _ _ gb189 66 #[.int .i64 t190, .int .i64 t193] (0, 0) _ rfl (by (with_reducible repeat (first | refine blk_drewN ?_ _ | refine blk_drew ?_ | refine blk_alloc ?_ _)); refine blk_put (cs := zr8 t190 0) ?_ 1 _ rfl; refine blk_put (cs := zr8 0 0) ?_ 0 _ rfl; (with_reducible repeat (first | refine blk_drewN ?_ _ | refine blk_drew ?_ | refine blk_alloc ?_ _)); exact BK189.out) Try.underlying66 rfl (by kernel_rfl)) rfl ?_
 exact ⟨by first | rfl | (simp [*] <;> rfl), s6_0, s6_2, by repeat (first | (with_reducible first | exact HK.out | apply KeepBut.set_ | apply keep_drewN | apply keep_drew | apply keep_alloc | refine keep_far ?_ GW189.out _) | exact HK.out)⟩

def spec_l3Draw.f (s0_0 : List Int) (s0_1 : Int) (s0_2 : Int) : Option (Int × Int × Int × Int × Int × Int × Int) := (spec_l2Draw.f s0_0 s0_1 s0_2).bind fun bt197 => ((spec_l1Below.f s0_0 bt197.2.2.1 bt197.2.2.2 4).bind fun bt201 => ((spec_l1Below.f s0_0 bt201.2.1 bt201.2.2 17).bind fun bt204 => ((spec_l1Some.f s0_0 bt204.2.1 bt204.2.2 1 32).bind fun bt207 => (some (bt197.1, bt197.2.1, bt201.1, bt204.1, bt207.1, bt207.2.1, bt207.2.2)))))
set_option maxHeartbeats 8000000 in
set_option maxRecDepth 100000 in
theorem spec_l3Draw.calls (g : Nat) (s0_0 : List Int) (s0_1 : Int) (s0_2 : Int) (r1 : Int) (r2 : Int) (r3 : Int) (r4 : Int) (r5 : Int) (r6 : Int) (r7 : Int) (w0 w : World) (hI : IsS133 w0 w g s0_0 s0_1 s0_2) (hB : Below w0.heap.size w0 w) (h : spec_l3Draw.f s0_0 s0_1 s0_2 = some (r1, r2, r3, r4, r5, r6, r7)) :
  Calls Try.prog 158 #[.pointer (some ⟨g, 0, none⟩)] w fun e w' => e = .returned (.agg #[.int .i64 r1, .int .i64 r2, .int .i64 r3, .int .i64 r4, .int .i64 r5]) ∧ IsS133 w0 w' g s0_0 r6 r7 ∧ Below w0.heap.size w0 w' ∧ KeepBut w w' g none := by
 have hu153 := Try.underlying153
 have HI0 := am hI
 have HK := am (KeepBut.refl w g none)
 have HL := am hB.size
 clear hI
 have HW0 := am hB.size
 have HB := am hB
 clear hB
 have H : ((spec_l2Draw.f s0_0 s0_1 s0_2).bind fun bt197 => ((spec_l1Below.f s0_0 bt197.2.2.1 bt197.2.2.2 4).bind fun bt201 => ((spec_l1Below.f s0_0 bt201.2.1 bt201.2.2 17).bind fun bt204 => ((spec_l1Some.f s0_0 bt204.2.1 bt204.2.2 1 32).bind fun bt207 => (some (bt197.1, bt197.2.1, bt201.1, bt204.1, bt207.1, bt207.2.1, bt207.2.2)))))) = some (r1, r2, r3, r4, r5, r6, r7) := h
 clear h
 replace H := Option.bind_eq_some_iff.mp H
 obtain ⟨⟨t197, t198, t199, t200⟩, A20, H⟩ := H
 replace H : ((spec_l1Below.f s0_0 t199 t200 4).bind fun bt201 => ((spec_l1Below.f s0_0 bt201.2.1 bt201.2.2 17).bind fun bt204 => ((spec_l1Some.f s0_0 bt204.2.1 bt204.2.2 1 32).bind fun bt207 => (some (t197, t198, bt201.1, bt204.1, bt207.1, bt207.2.1, bt207.2.2))))) = some (r1, r2, r3, r4, r5, r6, r7) := H
 have A2 := am A20
 clear A20
 replace H := Option.bind_eq_some_iff.mp H
 obtain ⟨⟨t201, t202, t203⟩, A30, H⟩ := H
 replace H : ((spec_l1Below.f s0_0 t202 t203 17).bind fun bt204 => ((spec_l1Some.f s0_0 bt204.2.1 bt204.2.2 1 32).bind fun bt207 => (some (t197, t198, t201, bt204.1, bt207.1, bt207.2.1, bt207.2.2)))) = some (r1, r2, r3, r4, r5, r6, r7) := H
 have A3 := am A30
 clear A30
 replace H := Option.bind_eq_some_iff.mp H
 obtain ⟨⟨t204, t205, t206⟩, A40, H⟩ := H
 replace H : ((spec_l1Some.f s0_0 t205 t206 1 32).bind fun bt207 => (some (t197, t198, t201, t204, bt207.1, bt207.2.1, bt207.2.2))) = some (r1, r2, r3, r4, r5, r6, r7) := H
 have A4 := am A40
 clear A40
 replace H := Option.bind_eq_some_iff.mp H
 obtain ⟨⟨t207, t208, t209⟩, A50, H⟩ := H
 replace H : (some (t197, t198, t201, t204, t207, t208, t209)) = some (r1, r2, r3, r4, r5, r6, r7) := H
 have A5 := am A50
 clear A50
 simp only [Option.some.injEq, Prod.mk.injEq] at H
 obtain ⟨rfl, rfl, rfl, rfl, rfl, rfl, rfl⟩ := H
 go_enter Try.func158, Try.ntmps158
 go_wp2_with (first | ((with_reducible refine gate_dst (N := 2) rfl ?_); refine box_event ?hg (N := 2) ?hd (cs := #[.int .i64 0, .int .i64 0, .int .i64 0, .int .i64 0, .int .i64 0]) (t := 153) ?hr ?_; (case hd => rfl); (case hg => rfl); (case hr => exact gq); intro gb196 hg w6 hbox hb; have n0_ := am (IsS133.below (by repeat (first | (with_reducible first | exact HI0.out | apply IsS133.alloc | apply IsS133.drewN | apply IsS133.drew | apply IsS133.set_1 | apply IsS133.set_2) | exact HI0.out)) hb); have n1_ := am (KeepBut.trans u6_7 (KeepBut.of_below hb g none) (.inl rfl)); have n2_ := am (below_step (by repeat (first | (with_reducible first | exact HB.out | apply below_alloc | apply pw_below_drewN | apply below_drew1 | refine below_set ?_ (IsS133.ge HI0.out)) | exact HB.out)) hb); have n3_ := am (hbox); have n4_ := am ((by rw [hg]; exact (keep_size (w := w) (g := g) (row := none) u6_7) : w.heap.size ≤ gb196)); have n5_ := am ((Nat.le_trans HW0.out (by rw [hg]; exact (keep_size (w := w) (g := g) (row := none) u6_7) : w.heap.size ≤ gb196) : w0.heap.size ≤ gb196)); have n6_ := am ((by rw [hg]; exact Nat.ne_of_lt (IsS133.lt (show IsS133 w0 _ g s0_0 s0_1 s0_2 from by repeat (first | (with_reducible first | exact HI0.out | apply IsS133.alloc | apply IsS133.drewN | apply IsS133.drew | apply IsS133.set_1 | apply IsS133.set_2) | exact HI0.out))) : g ≠ gb196)); have n7_ := am ((by rw [hg]; exact Nat.ne_of_gt (IsS133.lt (show IsS133 w0 _ g s0_0 s0_1 s0_2 from by repeat (first | (with_reducible first | exact HI0.out | apply IsS133.alloc | apply IsS133.drewN | apply IsS133.drew | apply IsS133.set_1 | apply IsS133.set_2) | exact HI0.out))) : gb196 ≠ g)); clear HI0 HK HB; have HI0 := n0_; have HK := n1_; have HB := n2_; have BK196 := n3_; have GW196 := n4_; have GE196 := n5_; have NB0_196 := n6_; have NB196_0 := n7_; clear n0_ n1_ n2_ n3_ n4_ n5_ n6_ n7_ hb hbox hg) | ((with_reducible refine gate_callee (f := 129) rfl ?_); refine goesL_ (some 4) rfl rfl Try.func129 (by kernel_rfl) rfl #[.pointer (some ⟨g, 0, none⟩)] rfl u6_6 ?_; (with_reducible refine (spec_l2Draw.calls g s0_0 s0_1 s0_2 t197 t198 t199 t200 w0 _ ?side1 ?side2 A2.out).mono ?_); (case side1 => exact s6_1); (case side2 => exact s6_3); rintro e w7 ⟨rfl, hi, hb, hk⟩; refine ⟨_, rfl, ?_⟩; have n0_ := am (KeepBut.blk hk (g' := gb196) (o := zo7 0 0 0 0 0) u6_11 NB196_0.out (by simp)); have n1_ := am (KeepBut.trans u6_10 hk (.inl rfl)); have n2_ := am (hb); have n3_ := am (hi); clear BK196 HK HB HI0; have BK196 := n0_; have HK := n1_; have HB := n2_; have HI0 := n3_; clear n0_ n1_ n2_ n3_; (try clear hb); (try clear hb2); (try clear hk); (try clear hi)) | ((with_reducible refine gate_callee (f := 110) rfl ?_); refine goesL_ (some 6) rfl rfl Try.func110 (by kernel_rfl) rfl #[.pointer (some ⟨g, 0, none⟩), .int .i64 4] rfl u6_6 ?_; (with_reducible refine (spec_l1Below.calls g s0_0 t199 t200 4 t201 t202 t203 w0 _ ?side1 ?side2 A3.out).mono ?_); (case side1 => exact s6_1); (case side2 => exact s6_3); rintro e w8 ⟨rfl, hi, hb, hk⟩; refine ⟨_, rfl, ?_⟩; have n0_ := am (KeepBut.blk hk (g' := gb196) (o := zo7 0 0 0 0 0) u6_11 NB196_0.out (by simp)); have n1_ := am (KeepBut.trans u6_10 hk (.inl rfl)); have n2_ := am (hb); have n3_ := am (hi); clear BK196 HK HB HI0; have BK196 := n0_; have HK := n1_; have HB := n2_; have HI0 := n3_; clear n0_ n1_ n2_ n3_; (try clear hb); (try clear hb2); (try clear hk); (try clear hi)) | ((with_reducible refine gate_callee (f := 110) rfl ?_); refine goesL_ (some 8) rfl rfl Try.func110 (by kernel_rfl) rfl #[.pointer (some ⟨g, 0, none⟩), .int .i64 17] rfl u6_6 ?_; (with_reducible refine (spec_l1Below.calls g s0_0 t202 t203 17 t204 t205 t206 w0 _ ?side1 ?side2 A4.out).mono ?_); (case side1 => exact s6_1); (case side2 => exact s6_3); rintro e w9 ⟨rfl, hi, hb, hk⟩; refine ⟨_, rfl, ?_⟩; have n0_ := am (KeepBut.blk hk (g' := gb196) (o := zo7 0 0 0 0 0) u6_11 NB196_0.out (by simp)); have n1_ := am (KeepBut.trans u6_10 hk (.inl rfl)); have n2_ := am (hb); have n3_ := am (hi); clear BK196 HK HB HI0; have BK196 := n0_; have HK := n1_; have HB := n2_; have HI0 := n3_; clear n0_ n1_ n2_ n3_; (try clear hb); (try clear hb2); (try clear hk); (try clear hi)) | ((with_reducible refine gate_callee (f := 151) rfl ?_); refine goesL_ (some 10) rfl rfl Try.func151 (by kernel_rfl) rfl #[.pointer (some ⟨g, 0, none⟩), .int .i64 1, .int .i64 32] rfl u6_6 ?_; (with_reducible refine (spec_l1Some.calls g s0_0 t205 t206 1 32 t207 t208 t209 w0 _ ?side1 ?side2 A5.out).mono ?_); (case side1 => exact s6_1); (case side2 => exact s6_3); rintro e w10 ⟨rfl, hi, hb, hk⟩; refine ⟨_, rfl, ?_⟩; have n0_ := am (KeepBut.blk hk (g' := gb196) (o := zo7 0 0 0 0 0) u6_11 NB196_0.out (by simp)); have n1_ := am (KeepBut.trans u6_10 hk (.inl rfl)); have n2_ := am (hb); have n3_ := am (hi); clear BK196 HK HB HI0; have BK196 := n0_; have HK := n1_; have HB := n2_; have HI0 := n3_; clear n0_ n1_ n2_ n3_; (try clear hb); (try clear hb2); (try clear hk); (try clear hi); have hnb11 := NB196_0.out; have hnc11 := NB0_196.out; obtain ⟨hcz12_0, hcz12_1, hcz12_2, hcz12_3, hcz12_4, hfz12_0, hfz12_1, hfz12_2, hfz12_3, hfz12_4⟩ := cf5 BK196.out))
 refine bodyPost_ret (results_cell_row rfl _ _ gb196 153 #[.int .i64 t197, .int .i64 t198, .int .i64 t201, .int .i64 t204, .int .i64 t207] (0, 0) _ rfl (by (with_reducible repeat (first | refine blk_drewN ?_ _ | refine blk_drew ?_ | refine blk_alloc ?_ _)); refine blk_put (cs := zr9 t197 t198 t201 t204 0) ?_ 4 _ rfl; refine blk_put (cs := zr9 t197 t198 t201 0 0) ?_ 3 _ rfl; refine blk_put (cs := zr9 t197 t198 0 0 0) ?_ 2 _ rfl; refine blk_put (cs := zr9 t197 0 0 0 0) ?_ 1 _ rfl; refine blk_put (cs := zr9 0 0 0 0 0) ?_ 0 _ rfl; (with_reducible repeat (first | refine blk_drewN ?_ _ | refine blk_drew ?_ | refine blk_alloc ?_ _)); exact BK196.out) Try.underlying153 rfl (by kernel_rfl)) rfl ?_
 exact ⟨by first | rfl | (simp [*] <;> rfl), s6_1, s6_3, by repeat (first | (with_reducible first | exact HK.out | apply KeepBut.set_ | apply keep_drewN | apply keep_drew | apply keep_alloc | refine keep_far ?_ GW196.out _) | exact HK.out)⟩

end Go.Proofs.Ytkljnmojnkiafaa.MFnMovedRig
