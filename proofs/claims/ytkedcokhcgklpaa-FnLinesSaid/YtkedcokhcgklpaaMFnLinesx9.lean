-- Written by a program for this claim.
import Derived.Laws.Cover1
import Derived.Test.YtkedcokhcgklpaaMFnLinesx0
import Derived.Test.YtkedcokhcgklpaaMFnLinesx7
import Derived.Test.YtkedcokhcgklpaaMFnLinesx8
namespace Go.Proofs.Ytkedcokhcgklpaa.MFnLines
open Go.RowKit Go.Proofs.YtkedcokhcgklpaaW.PrintWords Go.Proofs.YtkedcokhcgklpaaW.PrintLast Go.Proofs.YtkedcokhcgklpaaW.PrintMore
attribute [local go_sem] max2_int min2_int max_two min_two max_three min_three max_four min_four   -- for this text's walks alone
set_option linter.unusedVariables false
set_option linter.unusedSimpArgs false

theorem s9_0 {p : Prop} (h : p := by repeat (first | (with_reducible first | exact HB.out | apply below_alloc | apply pw_below_drewN | apply below_drew1 | refine below_set ?_ GE176.out | refine below_set ?_ GE188.out) | exact HB.out)) : p := h
theorem s9_1 {p : Prop} (h : p := by repeat (first | (with_reducible first | exact HB.out | apply below_alloc | apply pw_below_drewN | apply below_drew1 | refine below_set ?_ (IsS95.ge HI0.out)) | exact HB.out)) : p := h
theorem s9_2 {p : Prop} (h : p := by repeat (first | (with_reducible first | exact HI0.out | apply IsS95.alloc | apply IsS95.drewN | apply IsS95.drew | apply IsS95.set_1 | apply IsS95.set_2) | exact HI0.out)) : p := h
theorem s9_3 {p : Prop} (h : p := by repeat (first | (with_reducible first | exact HB.out | apply below_alloc | apply pw_below_drewN | apply below_drew1 | refine below_set ?_ GE176.out) | exact HB.out)) : p := h
theorem s9_4 {p : Prop} (h : p := by repeat (first | (with_reducible first | exact HK.out | apply KeepBut.set_ | apply keep_drewN | apply keep_drew | apply keep_alloc) | exact HK.out)) : p := h
theorem y9_0 {p : Prop} (h : p := by repeat (first | exact (Kd.C_below HR0.out HB.out) | (with_reducible refine Kd.C_alloc ?_ _) | (with_reducible refine Kd.C_drewN ?_ _) | (with_reducible refine Kd.C_drew ?_))) : p := h
theorem u9_0 {p : Prop} (h : p := by (with_reducible repeat (first | refine blk_drewN ?_ _ | refine blk_drew ?_ | refine blk_alloc ?_ _)); refine blk_put (cs := zr5 ((rd_T30 l0 x41_2).f0) ((rd_T30 l0 x41_2).f1) ((rd_T30 l0 x41_2).f2) ((rd_T30 l0 x41_2).f3.f0) ((rd_T30 l0 x41_2).f3.f1) ((rd_T30 l0 x41_2).f4) ((rd_T30 l0 x41_2).f5) 0) ?_ 7 _ rfl; refine blk_put (cs := zr5 ((rd_T30 l0 x41_2).f0) ((rd_T30 l0 x41_2).f1) ((rd_T30 l0 x41_2).f2) ((rd_T30 l0 x41_2).f3.f0) ((rd_T30 l0 x41_2).f3.f1) ((rd_T30 l0 x41_2).f4) 0 0) ?_ 6 _ rfl; refine blk_put (cs := zr5 ((rd_T30 l0 x41_2).f0) ((rd_T30 l0 x41_2).f1) ((rd_T30 l0 x41_2).f2) ((rd_T30 l0 x41_2).f3.f0) ((rd_T30 l0 x41_2).f3.f1) 0 0 0) ?_ 5 _ rfl; refine blk_put (cs := zr5 ((rd_T30 l0 x41_2).f0) ((rd_T30 l0 x41_2).f1) ((rd_T30 l0 x41_2).f2) ((rd_T30 l0 x41_2).f3.f0) 0 0 0 0) ?_ 4 _ rfl; refine blk_put (cs := zr5 ((rd_T30 l0 x41_2).f0) ((rd_T30 l0 x41_2).f1) ((rd_T30 l0 x41_2).f2) 0 0 0 0 0) ?_ 3 _ rfl; refine blk_put (cs := zr5 ((rd_T30 l0 x41_2).f0) ((rd_T30 l0 x41_2).f1) (⟨#[]⟩ : ByteArray) 0 0 0 0 0) ?_ 2 _ rfl; (with_reducible repeat (first | refine blk_drewN ?_ _ | refine blk_drew ?_ | refine blk_alloc ?_ _)); refine blk_put (cs := zr5 ((rd_T30 l0 x41_2).f0) 0 (⟨#[]⟩ : ByteArray) 0 0 0 0 0) ?_ 1 _ rfl; (with_reducible repeat (first | refine blk_drewN ?_ _ | refine blk_drew ?_ | refine blk_alloc ?_ _)); refine blk_put (cs := zr5 (⟨#[]⟩ : ByteArray) 0 (⟨#[]⟩ : ByteArray) 0 0 0 0 0) ?_ 0 _ rfl; (with_reducible repeat (first | refine blk_drewN ?_ _ | refine blk_drew ?_ | refine blk_alloc ?_ _)); exact BK188.out) : p := h
theorem u9_1 {p : Prop} (h : p := by (with_reducible repeat (first | refine blk_drewN ?_ _ | refine blk_drew ?_ | refine blk_alloc ?_ _)); refine blk_far ?_ NB176_188.out _; (with_reducible repeat (first | refine blk_drewN ?_ _ | refine blk_drew ?_ | refine blk_alloc ?_ _)); refine blk_far ?_ NB176_188.out _; (with_reducible repeat (first | refine blk_drewN ?_ _ | refine blk_drew ?_ | refine blk_alloc ?_ _)); refine blk_far ?_ NB176_188.out _; (with_reducible repeat (first | refine blk_drewN ?_ _ | refine blk_drew ?_ | refine blk_alloc ?_ _)); refine blk_far ?_ NB176_188.out _; (with_reducible repeat (first | refine blk_drewN ?_ _ | refine blk_drew ?_ | refine blk_alloc ?_ _)); refine blk_far ?_ NB176_188.out _; (with_reducible repeat (first | refine blk_drewN ?_ _ | refine blk_drew ?_ | refine blk_alloc ?_ _)); refine blk_far ?_ NB176_188.out _; (with_reducible repeat (first | refine blk_drewN ?_ _ | refine blk_drew ?_ | refine blk_alloc ?_ _)); refine blk_far ?_ NB176_188.out _; (with_reducible repeat (first | refine blk_drewN ?_ _ | refine blk_drew ?_ | refine blk_alloc ?_ _)); refine blk_far ?_ NB176_188.out _; (with_reducible repeat (first | refine blk_drewN ?_ _ | refine blk_drew ?_ | refine blk_alloc ?_ _)); exact BK176.out) : p := h
theorem u9_2 {p : Prop} (h : p := by repeat (first | (with_reducible first | exact HB.out | apply below_alloc | apply pw_below_drewN | apply below_drew1 | refine below_set ?_ GE176.out) | exact HB.out)) : p := h
theorem u9_3 {p : Prop} (h : p := by (with_reducible repeat (first | refine blk_drewN ?_ _ | refine blk_drew ?_ | refine blk_alloc ?_ _)); exact BK176.out) : p := h
theorem u9_4 {p : Prop} (h : p := by (with_reducible repeat (first | apply Kd.R_alloc | apply Kd.R_drewN | apply Kd.R_drew)); exact Kd.R_mono (Kd.R_far (p := ⟨gb188, 7, none⟩) (Kd.R_far (p := ⟨gb188, 6, none⟩) (Kd.R_far (p := ⟨gb188, 5, none⟩) (Kd.R_far (p := ⟨gb188, 4, none⟩) (Kd.R_far (p := ⟨gb188, 3, none⟩) (Kd.R_far (p := ⟨gb188, 2, none⟩) (Kd.R_far (p := ⟨gb188, 1, none⟩) (Kd.R_far (p := ⟨gb188, 0, none⟩) (Kd.R_mono HO_6.out (fun k_ hk => (⟨hk, hk.2⟩ : _ ∧ k_ ≠ gb188))) (fun _ hk => hk.2) (.string ((rd_T30 l0 x41_2).f0))) (fun _ hk => hk.2) (.int .i64 ((rd_T30 l0 x41_2).f1))) (fun _ hk => hk.2) (.string ((rd_T30 l0 x41_2).f2))) (fun _ hk => hk.2) (.int .i64 ((rd_T30 l0 x41_2).f3.f0))) (fun _ hk => hk.2) (.int .i64 ((rd_T30 l0 x41_2).f3.f1))) (fun _ hk => hk.2) (.int .i64 ((rd_T30 l0 x41_2).f4))) (fun _ hk => hk.2) (.int .i64 ((rd_T30 l0 x41_2).f5))) (fun _ hk => hk.2) (.int .i64 ((rd_T30 l0 x41_2).f6))) (fun _ hk => ⟨hk.1.1, hk.1.2⟩)) : p := h
theorem u9_5 {p : Prop} (h : p := by repeat (first | (with_reducible first | exact HB.out | apply below_alloc | apply pw_below_drewN | apply below_drew1 | refine below_set ?_ GE176.out | refine below_set ?_ GE188.out) | exact HB.out)) : p := h
theorem u9_6 {p : Prop} (h : p := by repeat (first | (with_reducible first | exact HB.out | apply below_alloc | apply pw_below_drewN | apply below_drew1) | exact HB.out)) : p := h
theorem u9_7 {p : Prop} (h : p := by first | rfl | (simp; done) | (simp [*]; done)) : p := h
theorem u9_8 {p : Prop} (h : p := by (try simp only [List.map_toArray, List.map_cons, List.map_nil]); first | done | rfl) : p := h
theorem u9_9 {p : Prop} (h : p := by (with_reducible repeat (first | apply Kd.R_alloc | apply Kd.R_drewN | apply Kd.R_drew)); exact HO_6.out) : p := h
/-! ### spec_l6Copies: function 69 -/
def spec_l6Copies.f (l0 : List (S30)) : Option ((List (S30))) := (some (([] : List (S30)) : List (S30))).bind fun y170 => (if y170.length + l0.length < 1759218604441 then (some (y170 ++ l0)) else (none))
set_option maxHeartbeats 8000000 in
set_option maxRecDepth 100000 in
theorem spec_l6Copies.calls (A0 : Option Addr) (c0 : Nat) (l0 : List (S30)) (r : List (S30)) (w : World) (hr0 : Kd.C k30 w A0 l0.length l0) (hc0 : l0.length ≤ c0) (h : spec_l6Copies.f l0 = some r) :
  Calls Try.prog 69 #[.slice A0 l0.length c0] w fun e w' => ∃ v0_ : Value, e = .returned (v0_) ∧ Kd.R k30 30 w' w.heap.size (fun _ => True) v0_ r ∧ Below w.heap.size w w' := by
 have HR0 := am hr0
 have HC0 := am hc0
 clear hr0 hc0
 have HB := am (Below.refl w.heap.size w)
 have H : ((some (([] : List (S30)) : List (S30))).bind fun y170 => (if y170.length + l0.length < 1759218604441 then (some (y170 ++ l0)) else (none))) = some r := h
 clear h
 obtain ⟨y170, hy170⟩ : ∃ y_ : List (S30), y_ = (([] : List (S30))) := ⟨_, rfl⟩
 replace H : (if y170.length + l0.length < 1759218604441 then (some (y170 ++ l0)) else (none)) = some r := by first | (rw [hy170]; with_reducible exact H) | (have H2_ := (Option.bind_some _ _).symm.trans H; rw [hy170]; with_reducible exact H2_) | (have H2_ := (Option.bind_some _ _).symm.trans H; with_reducible exact H2_) | with_reducible exact H | (rw [hy170]; exact H) | exact H
 have Ny170 := am hy170
 clear hy170
 by_cases c2 : y170.length + l0.length < 1759218604441
 ·rw [if_pos c2] at H
  have LMc2 := am c2
  clear c2
  obtain ⟨y173, hy173⟩ : ∃ y_ : List (S30), y_ = (y170 ++ l0) := ⟨_, rfl⟩
  replace H : (some y173) = some r := by first | (rw [hy173]; with_reducible exact H) | (have H2_ := (Option.bind_some _ _).symm.trans H; rw [hy173]; with_reducible exact H2_) | (have H2_ := (Option.bind_some _ _).symm.trans H; with_reducible exact H2_) | with_reducible exact H | (rw [hy173]; exact H) | exact H
  have Ny173 := am hy173
  clear hy173
  obtain rfl := Option.some.inj H
  go_enter Try.func69, Try.ntmps69
  go_wp2_with (first | ((with_reducible refine gate_dst (N := 3) rfl ?_); refine Kd.R_lit k30 _ 30 ?hg (N := 3) ?hd (xs := ([] : List (S30))) (inner := []) (ok := fun _ => True) (okp := fun _ => True) ?hr ?hp (fun _ hk => hk) trivial (Below.refl _ _) (Nat.le_refl _) (by simp) ?_; (case hd => rfl); (case hg => rfl); (case hr => exact gq); (case hp => exact (Reps.none _ _)); intro v171 w3 ho4 hb hg_ hnew_; clear hg_ hnew_; (first | rw [← Ny170.out] at ho4 | (simp only [Int.reduceToNat] at ho4; rw [← Ny170.out] at ho4)); have n0_ := am (Kd.R_lower ho4 (below_size u9_6)); have n1_ := am (below_step u9_6 hb); clear HB; have HO172 := n0_; have HB := n1_; clear n0_ n1_ hb ho4) | ((with_reducible refine gate_builtin (b := .append) (xs := #[.tmp 3, .tmp 4]) rfl ?_); at_builtin; refine Kd.R_append_rows k30 (w0 := w) w.heap.size rfl (.tmp 3) (.tmp 4) 36 30 (.agg #[(.string ⟨#[]⟩), (.int .i64 0), (.string ⟨#[]⟩), (.int .i64 0), (.int .i64 0), (.int .i64 0), (.int .i64 0), (.int .i64 0)]) 80 rfl Try.underlying36 info30 rfl (by decide) (by omega) v171 y170 l0 _ _ _ (fun _ => True) (fun _ => False) rfl rfl ?aO ?aR (fun _ _ h => h) (fun _ h => h.elim) ?aF ?aB ?aS ?aL ?_; (case aR => repeat (first | exact (Kd.C_below HR0.out HB.out) | (with_reducible refine Kd.C_alloc ?_ _) | (with_reducible refine Kd.C_drewN ?_ _) | (with_reducible refine Kd.C_drew ?_))); (case aB => exact u9_6); (case aF => exact (fun _ _ => trivial)); (case aO => exact (by (with_reducible repeat (first | apply Kd.R_alloc | apply Kd.R_drewN | apply Kd.R_drew)); exact HO172.out)); (case aS => exact (below_size u9_6)); (case aL => have := LMc2.out; omega); intro v174 w5 ho hb hg hat; rw [← Ny173.out] at ho; have n0_ := am (hb); have n1_ := am (ho); clear HB HO172; have HB := n0_; have HO175 := n1_; clear n0_ n1_ ho hb hg hat))
  go_ret
  exact ⟨_, by first | rfl | (simp [*] <;> rfl), by (with_reducible repeat (first | apply Kd.R_alloc | apply Kd.R_drewN | apply Kd.R_drew)); exact HO175.out, by repeat (first | (with_reducible first | exact HB.out | apply below_alloc | apply pw_below_drewN | apply below_drew1) | exact HB.out)⟩
 ·rw [if_neg c2] at H
  exact absurd H (by simp)

theorem blU_irr : ∀ x, Op.bytesLess x x = false
 | [] => rfl
 | a :: x => by
  simp only [Op.bytesLess, blU_irr x, Bool.and_false, Bool.or_false, decide_eq_false_iff_not]
  exact UInt8.lt_irrefl a
theorem blU_tri : ∀ x y, Op.bytesLess x y = false → Op.bytesLess y x = false → x = y
 | [], [], _, _ => rfl
 | [], _ :: _, h, _ => by simp [Op.bytesLess] at h
 | _ :: _, [], _, h => by simp [Op.bytesLess] at h
 | a :: x, b :: y, h, h' => by
  simp only [Op.bytesLess, Bool.or_eq_false_iff, decide_eq_false_iff_not] at h h'
  have hab : a = b := by
   have h1 := h.1; have h2 := h'.1
   exact UInt8.le_antisymm (UInt8.not_lt.1 h2) (UInt8.not_lt.1 h1)
  subst hab
  simp only [beq_self_eq_true, Bool.true_and] at h h'
  rw [blU_tri x y h.2 h'.2]
theorem blU_ne {x y : List UInt8} (h : Op.bytesLess y x = true) : (x == y) = false := by
 refine beq_eq_false_iff_ne.2 (fun e => ?_)
 rw [e, blU_irr] at h; cases h
theorem blU_eq {x y : List UInt8} (h : Op.bytesLess y x = false) (h' : Op.bytesLess x y = false) : (x == y) = true := by
 rw [blU_tri x y h' h]; exact beq_self_eq_true _

theorem blU_asym : ∀ x y, Op.bytesLess x y = true → Op.bytesLess y x = false
 | [], [], _ => rfl
 | _ :: _, [], h => by simp [Op.bytesLess] at h
 | [], _ :: _, _ => rfl
 | a :: x, b :: y, h => by
  simp only [Op.bytesLess, Bool.or_eq_true, decide_eq_true_eq, Bool.and_eq_true, beq_iff_eq] at h
  simp only [Op.bytesLess, Bool.or_eq_false_iff, decide_eq_false_iff_not, Bool.and_eq_false_iff, beq_eq_false_iff_ne]
  rcases h with h | ⟨h, h2⟩
  ·exact ⟨fun c => UInt8.lt_irrefl a (UInt8.lt_trans h c), .inl (fun c => by subst c; exact UInt8.lt_irrefl _ h)⟩
  ·subst h; exact ⟨UInt8.lt_irrefl a, .inr (blU_asym x y h2)⟩
theorem blU_leF {x y : List UInt8} (h : Op.bytesLess x y = true) : (Op.bytesLess y x || y == x) = false := by
 rw [blU_asym x y h, blU_ne h, Bool.or_false]
theorem blU_leT {x y : List UInt8} (h : Op.bytesLess x y = false) : (Op.bytesLess y x || y == x) = true := by
 cases h' : Op.bytesLess y x
 ·rw [blU_tri x y h h', beq_self_eq_true, Bool.or_true]
 ·rw [Bool.true_or]

/-! ### spec_AddDevice: function 47 -/
mutual
def spec_AddDevice.j0 : Nat → List (S30) → Bool → ByteArray → Int → ByteArray → Int → Int → Int → Int → Int → Option ((List (S30)) × Bool)
 | 0, _, _, _, _, _, _, _, _, _, _ => none
 | k + 1, x0, x35, x177000, x177001, x177002, x177003, x177004, x177005, x177006, x177007 => if x35 = true then ((spec_l6Copies.f x0).bind fun t181 => (some (t181, false))) else (spec_AddDevice.l0 k (([] : List (S30))) false x0 (x0.length : Int) 0 x177000 x177001 x177002 x177003 x177004 x177005 x177006 x177007)
def spec_AddDevice.l0 : Nat → List (S30) → Bool → List (S30) → Int → Int → ByteArray → Int → ByteArray → Int → Int → Int → Int → Int → Option ((List (S30)) × Bool)
 | 0, _, _, _, _, _, _, _, _, _, _, _, _, _ => none
 | k + 1, x6, x7, x39, x40, x41, x177000, x177001, x177002, x177003, x177004, x177005, x177006, x177007 => if x41 < x40 then (if 0 ≤ x41 then (if x41 < (x39.length : Int) then (if x7 = true then (if x6.length < 1759218604441 then (spec_AddDevice.l0 k (x6 ++ [(⟨(rd_T30 x39 x41).f0, (rd_T30 x39 x41).f1, (rd_T30 x39 x41).f2, (⟨(rd_T30 x39 x41).f3.f0, (rd_T30 x39 x41).f3.f1⟩ : S28), (rd_T30 x39 x41).f4, (rd_T30 x39 x41).f5, (rd_T30 x39 x41).f6⟩ : S30)]) x7 x39 x40 (wrap64 (x41 + 1)) x177000 x177001 x177002 x177003 x177004 x177005 x177006 x177007) else (none)) else (if (Op.bytesLess x177000.toList (((rd_T30 x39 x41).f0).toList)) = true then (if x6.length < 1759218604441 then ((some (x6 ++ [(⟨x177000, x177001, x177002, (⟨x177003, x177004⟩ : S28), x177005, x177006, x177007⟩ : S30)] : List (S30))).bind fun y192 => (if y192.length < 1759218604441 then (spec_AddDevice.l0 k (y192 ++ [(⟨(rd_T30 x39 x41).f0, (rd_T30 x39 x41).f1, (rd_T30 x39 x41).f2, (⟨(rd_T30 x39 x41).f3.f0, (rd_T30 x39 x41).f3.f1⟩ : S28), (rd_T30 x39 x41).f4, (rd_T30 x39 x41).f5, (rd_T30 x39 x41).f6⟩ : S30)]) true x39 x40 (wrap64 (x41 + 1)) x177000 x177001 x177002 x177003 x177004 x177005 x177006 x177007) else (none))) else (none)) else (if x6.length < 1759218604441 then (spec_AddDevice.l0 k (x6 ++ [(⟨(rd_T30 x39 x41).f0, (rd_T30 x39 x41).f1, (rd_T30 x39 x41).f2, (⟨(rd_T30 x39 x41).f3.f0, (rd_T30 x39 x41).f3.f1⟩ : S28), (rd_T30 x39 x41).f4, (rd_T30 x39 x41).f5, (rd_T30 x39 x41).f6⟩ : S30)]) x7 x39 x40 (wrap64 (x41 + 1)) x177000 x177001 x177002 x177003 x177004 x177005 x177006 x177007) else (none)))) else (none)) else (none)) else (if x7 = true then (some (x6, true)) else (if x6.length < 1759218604441 then (some ((x6 ++ [(⟨x177000, x177001, x177002, (⟨x177003, x177004⟩ : S28), x177005, x177006, x177007⟩ : S30)]), true)) else (none)))
end
def spec_AddDevice.f (k : Nat) (l0 : List (S30)) (a1_0 : ByteArray) (a1_1 : Int) (a1_2 : ByteArray) (a1_3 : Int) (a1_4 : Int) (a1_5 : Int) (a1_6 : Int) (a1_7 : Int) : Option ((List (S30)) × Bool) := (spec_IsRig.f k l0).bind fun t177 => (if t177 = true then ((spec_IsDevice.f k a1_0 a1_1 a1_2 a1_3 a1_4 a1_5 a1_6 a1_7).bind fun t178 => (if t178 = true then ((spec_FindDevice.f k l0 a1_0).bind fun t179 => (if t179 ≥ 0 then (spec_AddDevice.j0 k l0 true a1_0 a1_1 a1_2 a1_3 a1_4 a1_5 a1_6 a1_7) else (if (l0.length : Int) = 8 then (spec_AddDevice.j0 k l0 true a1_0 a1_1 a1_2 a1_3 a1_4 a1_5 a1_6 a1_7) else ((spec_l6Hangs.f k l0 a1_0 a1_1 a1_2 a1_3 a1_4 a1_5 a1_6 a1_7).bind fun t180 => (spec_AddDevice.j0 k l0 (!t180) a1_0 a1_1 a1_2 a1_3 a1_4 a1_5 a1_6 a1_7))))) else (spec_AddDevice.j0 k l0 true a1_0 a1_1 a1_2 a1_3 a1_4 a1_5 a1_6 a1_7))) else (spec_AddDevice.j0 k l0 true a1_0 a1_1 a1_2 a1_3 a1_4 a1_5 a1_6 a1_7))
theorem spec_AddDevice.mono_l : ∀ k, (∀ y0 y1 y2 y3 y4 y5 y6 y7 y8 y9, LeO (spec_AddDevice.j0 k y0 y1 y2 y3 y4 y5 y6 y7 y8 y9) (spec_AddDevice.j0 (k + 1) y0 y1 y2 y3 y4 y5 y6 y7 y8 y9)) ∧ (∀ y0 y1 y2 y3 y4 y5 y6 y7 y8 y9 y10 y11 y12, LeO (spec_AddDevice.l0 k y0 y1 y2 y3 y4 y5 y6 y7 y8 y9 y10 y11 y12) (spec_AddDevice.l0 (k + 1) y0 y1 y2 y3 y4 y5 y6 y7 y8 y9 y10 y11 y12))
 | 0 => ⟨fun _ _ _ _ _ _ _ _ _ _ r h => by simp [spec_AddDevice.j0] at h, fun _ _ _ _ _ _ _ _ _ _ _ _ _ r h => by simp [spec_AddDevice.l0] at h⟩
 | k + 1 => by
  obtain ⟨ih0, ih1⟩ := spec_AddDevice.mono_l k
  refine ⟨?_, ?_⟩
  ·intro y0 y1 y2 y3 y4 y5 y6 y7 y8 y9
   unfold spec_AddDevice.j0
   repeat' first
   | (with_reducible exact ih0 _ _ _ _ _ _ _ _ _ _)
   | (with_reducible exact ih1 _ _ _ _ _ _ _ _ _ _ _ _ _)
   | (with_reducible exact spec_FindDevice.mono _ _ _)
   | (with_reducible exact spec_IsDevice.mono _ _ _ _ _ _ _ _ _)
   | (with_reducible exact spec_IsRig.mono _ _)
   | (with_reducible exact spec_l6Hangs.mono _ _ _ _ _ _ _ _ _ _)
   | (with_reducible exact LeO.refl _)
   | (with_reducible exact LeO.none _)
   | (with_reducible refine LeO.ite ?_ ?_)
   | (with_reducible refine LeO.bind ?_ (fun _ => ?_))
  ·intro y0 y1 y2 y3 y4 y5 y6 y7 y8 y9 y10 y11 y12
   unfold spec_AddDevice.l0
   repeat' first
   | (with_reducible exact ih0 _ _ _ _ _ _ _ _ _ _)
   | (with_reducible exact ih1 _ _ _ _ _ _ _ _ _ _ _ _ _)
   | (with_reducible exact spec_FindDevice.mono _ _ _)
   | (with_reducible exact spec_IsDevice.mono _ _ _ _ _ _ _ _ _)
   | (with_reducible exact spec_IsRig.mono _ _)
   | (with_reducible exact spec_l6Hangs.mono _ _ _ _ _ _ _ _ _ _)
   | (with_reducible exact LeO.refl _)
   | (with_reducible exact LeO.none _)
   | (with_reducible refine LeO.ite ?_ ?_)
   | (with_reducible refine LeO.bind ?_ (fun _ => ?_))
theorem spec_AddDevice.mono : ∀ a0 a1 a2 a3 a4 a5 a6 a7 a8 k, LeO (spec_AddDevice.f k a0 a1 a2 a3 a4 a5 a6 a7 a8) (spec_AddDevice.f (k + 1) a0 a1 a2 a3 a4 a5 a6 a7 a8) := by
 intro a0 a1 a2 a3 a4 a5 a6 a7 a8 k
 obtain ⟨ih0, ih1⟩ := spec_AddDevice.mono_l k
 unfold spec_AddDevice.f
 repeat' first
   | (with_reducible exact ih0 _ _ _ _ _ _ _ _ _ _)
   | (with_reducible exact ih1 _ _ _ _ _ _ _ _ _ _ _ _ _)
   | (with_reducible exact spec_FindDevice.mono _ _ _)
   | (with_reducible exact spec_IsDevice.mono _ _ _ _ _ _ _ _ _)
   | (with_reducible exact spec_IsRig.mono _ _)
   | (with_reducible exact spec_l6Hangs.mono _ _ _ _ _ _ _ _ _ _)
   | (with_reducible exact LeO.refl _)
   | (with_reducible exact LeO.none _)
   | (with_reducible refine LeO.ite ?_ ?_)
   | (with_reducible refine LeO.bind ?_ (fun _ => ?_))
set_option maxHeartbeats 8000000 in
set_option maxRecDepth 100000 in
theorem spec_AddDevice.calls (k : Nat) (A0 : Option Addr) (c0 : Nat) (l0 : List (S30)) (a1_0 : ByteArray) (a1_1 : Int) (a1_2 : ByteArray) (a1_3 : Int) (a1_4 : Int) (a1_5 : Int) (a1_6 : Int) (a1_7 : Int) (r1 : List (S30)) (r2 : Bool) (w : World) (hr0 : Kd.C k30 w A0 l0.length l0) (hc0 : l0.length ≤ c0) (h : spec_AddDevice.f k l0 a1_0 a1_1 a1_2 a1_3 a1_4 a1_5 a1_6 a1_7 = some (r1, r2)) :
  Calls Try.prog 47 #[.slice A0 l0.length c0, .agg #[.string a1_0, .int .i64 a1_1, .string a1_2, .int .i64 a1_3, .int .i64 a1_4, .int .i64 a1_5, .int .i64 a1_6, .int .i64 a1_7]] w fun e w' => ∃ v0_ : Value, e = .returned (.tuple #[v0_, .bool r2]) ∧ Kd.R k30 30 w' w.heap.size (fun _ => True) v0_ r1 ∧ Below w.heap.size w w' := by
 have hu30 := Try.underlying30
 have HR0 := am hr0
 have HC0 := am hc0
 clear hr0 hc0
 have HB := am (Below.refl w.heap.size w)
 have H : ((spec_IsRig.f k l0).bind fun t177 => (if t177 = true then ((spec_IsDevice.f k a1_0 a1_1 a1_2 a1_3 a1_4 a1_5 a1_6 a1_7).bind fun t178 => (if t178 = true then ((spec_FindDevice.f k l0 a1_0).bind fun t179 => (if t179 ≥ 0 then (spec_AddDevice.j0 k l0 true a1_0 a1_1 a1_2 a1_3 a1_4 a1_5 a1_6 a1_7) else (if (l0.length : Int) = 8 then (spec_AddDevice.j0 k l0 true a1_0 a1_1 a1_2 a1_3 a1_4 a1_5 a1_6 a1_7) else ((spec_l6Hangs.f k l0 a1_0 a1_1 a1_2 a1_3 a1_4 a1_5 a1_6 a1_7).bind fun t180 => (spec_AddDevice.j0 k l0 (!t180) a1_0 a1_1 a1_2 a1_3 a1_4 a1_5 a1_6 a1_7))))) else (spec_AddDevice.j0 k l0 true a1_0 a1_1 a1_2 a1_3 a1_4 a1_5 a1_6 a1_7))) else (spec_AddDevice.j0 k l0 true a1_0 a1_1 a1_2 a1_3 a1_4 a1_5 a1_6 a1_7))) = some (r1, r2) := h
 clear h
 have HC3 := am H
 clear H
 go_enter Try.func47, Try.ntmps47
 go_upto_region 1 with (first | ((with_reducible refine gate_dst (N := 3) rfl ?_); (try (refine gate_guard (by rfl) ?_; dsimp only)); refine box_event ?hg (N := 3) ?hd (cs := #[.string a1_0, .int .i64 a1_1, .string a1_2, .int .i64 a1_3, .int .i64 a1_4, .int .i64 a1_5, .int .i64 a1_6, .int .i64 a1_7]) (t := 30) ?hr ?_; (case hd => rfl); (case hg => rfl); (case hr => exact gq); intro gb176 hg w4 hbox hb; have n0_ := am (below_step u9_6 hb); have n1_ := am (hbox); have n2_ := bsw w hg (below_size u9_6); have n3_ := bsw w hg (below_size u9_6); clear HB; have HB := n0_; have BK176 := n1_; have GW176 := n2_; have GE176 := n3_; clear n0_ n1_ n2_ n3_ hb hbox hg))
 (try simp only [Act.put, List.setIfInBounds_toArray, List.set_cons_zero, List.set_cons_succ])
 go_cut [35] (fun v35 wc => ∃ (kq : Nat) (x35_2 : Bool), v35 = .bool x35_2 ∧ Aside0 (spec_AddDevice.j0 kq l0 x35_2 a1_0 a1_1 a1_2 a1_3 a1_4 a1_5 a1_6 a1_7 = some (r1, r2)) ∧ Aside0 (kq ≤ k) ∧ Aside0 (wc.heap[gb176]? = some (.cells #[.string a1_0, .int .i64 a1_1, .string a1_2, .int .i64 a1_3, .int .i64 a1_4, .int .i64 a1_5, .int .i64 a1_6, .int .i64 a1_7] 30 (0, 0))) ∧ Aside0 (Below w.heap.size w wc))
 case first =>
  have H := HC3.out
  clear HC3
  replace H := Option.bind_eq_some_iff.mp H
  obtain ⟨t177, A50, H⟩ := H
  replace H : (if t177 = true then ((spec_IsDevice.f k a1_0 a1_1 a1_2 a1_3 a1_4 a1_5 a1_6 a1_7).bind fun t178 => (if t178 = true then ((spec_FindDevice.f k l0 a1_0).bind fun t179 => (if t179 ≥ 0 then (spec_AddDevice.j0 k l0 true a1_0 a1_1 a1_2 a1_3 a1_4 a1_5 a1_6 a1_7) else (if (l0.length : Int) = 8 then (spec_AddDevice.j0 k l0 true a1_0 a1_1 a1_2 a1_3 a1_4 a1_5 a1_6 a1_7) else ((spec_l6Hangs.f k l0 a1_0 a1_1 a1_2 a1_3 a1_4 a1_5 a1_6 a1_7).bind fun t180 => (spec_AddDevice.j0 k l0 (!t180) a1_0 a1_1 a1_2 a1_3 a1_4 a1_5 a1_6 a1_7))))) else (spec_AddDevice.j0 k l0 true a1_0 a1_1 a1_2 a1_3 a1_4 a1_5 a1_6 a1_7))) else (spec_AddDevice.j0 k l0 true a1_0 a1_1 a1_2 a1_3 a1_4 a1_5 a1_6 a1_7)) = some (r1, r2) := H
  have A5 := am A50
  clear A50
  by_cases c6 : t177 = true
  ·subst c6
   have H1 : ((spec_IsDevice.f k a1_0 a1_1 a1_2 a1_3 a1_4 a1_5 a1_6 a1_7).bind fun t178 => (if t178 = true then ((spec_FindDevice.f k l0 a1_0).bind fun t179 => (if t179 ≥ 0 then (spec_AddDevice.j0 k l0 true a1_0 a1_1 a1_2 a1_3 a1_4 a1_5 a1_6 a1_7) else (if (l0.length : Int) = 8 then (spec_AddDevice.j0 k l0 true a1_0 a1_1 a1_2 a1_3 a1_4 a1_5 a1_6 a1_7) else ((spec_l6Hangs.f k l0 a1_0 a1_1 a1_2 a1_3 a1_4 a1_5 a1_6 a1_7).bind fun t180 => (spec_AddDevice.j0 k l0 (!t180) a1_0 a1_1 a1_2 a1_3 a1_4 a1_5 a1_6 a1_7))))) else (spec_AddDevice.j0 k l0 true a1_0 a1_1 a1_2 a1_3 a1_4 a1_5 a1_6 a1_7))) = some (r1, r2) := by rw [if_pos rfl] at H; exact H
   clear H
   have H := H1
   clear H1
   replace H := Option.bind_eq_some_iff.mp H
   obtain ⟨t178, A70, H⟩ := H
   replace H : (if t178 = true then ((spec_FindDevice.f k l0 a1_0).bind fun t179 => (if t179 ≥ 0 then (spec_AddDevice.j0 k l0 true a1_0 a1_1 a1_2 a1_3 a1_4 a1_5 a1_6 a1_7) else (if (l0.length : Int) = 8 then (spec_AddDevice.j0 k l0 true a1_0 a1_1 a1_2 a1_3 a1_4 a1_5 a1_6 a1_7) else ((spec_l6Hangs.f k l0 a1_0 a1_1 a1_2 a1_3 a1_4 a1_5 a1_6 a1_7).bind fun t180 => (spec_AddDevice.j0 k l0 (!t180) a1_0 a1_1 a1_2 a1_3 a1_4 a1_5 a1_6 a1_7))))) else (spec_AddDevice.j0 k l0 true a1_0 a1_1 a1_2 a1_3 a1_4 a1_5 a1_6 a1_7)) = some (r1, r2) := H
   have A7 := am A70
   clear A70
   by_cases c8 : t178 = true
   ·subst c8
    have H1 : ((spec_FindDevice.f k l0 a1_0).bind fun t179 => (if t179 ≥ 0 then (spec_AddDevice.j0 k l0 true a1_0 a1_1 a1_2 a1_3 a1_4 a1_5 a1_6 a1_7) else (if (l0.length : Int) = 8 then (spec_AddDevice.j0 k l0 true a1_0 a1_1 a1_2 a1_3 a1_4 a1_5 a1_6 a1_7) else ((spec_l6Hangs.f k l0 a1_0 a1_1 a1_2 a1_3 a1_4 a1_5 a1_6 a1_7).bind fun t180 => (spec_AddDevice.j0 k l0 (!t180) a1_0 a1_1 a1_2 a1_3 a1_4 a1_5 a1_6 a1_7))))) = some (r1, r2) := by rw [if_pos rfl] at H; exact H
    clear H
    have H := H1
    clear H1
    replace H := Option.bind_eq_some_iff.mp H
    obtain ⟨t179, A90, H⟩ := H
    replace H : (if t179 ≥ 0 then (spec_AddDevice.j0 k l0 true a1_0 a1_1 a1_2 a1_3 a1_4 a1_5 a1_6 a1_7) else (if (l0.length : Int) = 8 then (spec_AddDevice.j0 k l0 true a1_0 a1_1 a1_2 a1_3 a1_4 a1_5 a1_6 a1_7) else ((spec_l6Hangs.f k l0 a1_0 a1_1 a1_2 a1_3 a1_4 a1_5 a1_6 a1_7).bind fun t180 => (spec_AddDevice.j0 k l0 (!t180) a1_0 a1_1 a1_2 a1_3 a1_4 a1_5 a1_6 a1_7)))) = some (r1, r2) := H
    have A9 := am A90
    clear A90
    by_cases c10 : t179 ≥ 0
    ·rw [if_pos c10] at H
     have c10b0 : decide (0 ≤ t179) = true := decide_eq_true c10
     clear c10
     (first | rw [c10b0] | (simp only [i64_w, i32_w]; rw [c10b0]) | skip)
     have H' := am H
     clear H
     go_wp2_with (first | ((with_reducible refine gate_callee (f := 24) rfl ?_); refine goesL_ (some 11) rfl rfl Try.func24 (by kernel_rfl) rfl #[.slice A0 l0.length c0] rfl u9_8 ?_; (with_reducible refine (spec_IsRig.calls k _ _ l0 true _ ?side1 ?side2 A5.out).mono ?_); (case side1 => exact y9_0); (case side2 => exact HC0.out); rintro e w11 ⟨rfl, hb⟩; refine ⟨_, rfl, ?_⟩; have n0_ := am (blk_below (g := gb176) (o := zo0 a1_0 a1_1 a1_2 a1_3 a1_4 a1_5 a1_6 a1_7) u9_3 hb); have n1_ := am (below_step u9_2 hb); clear BK176 HB; have BK176 := n0_; have HB := n1_; clear n0_ n1_; (try clear hb); (try clear hb2); (try clear hk); (try clear hi); obtain ⟨hcz12_0, hcz12_1, hcz12_2, hcz12_3, hcz12_4, hcz12_5, hcz12_6, hcz12_7, hfz12_0, hfz12_1, hfz12_2, hfz12_3, hfz12_4, hfz12_5, hfz12_6, hfz12_7⟩ := cf8 BK176.out) | (go_at_call 16; (with_reducible refine (spec_IsDevice.calls k a1_0 a1_1 a1_2 a1_3 a1_4 a1_5 a1_6 a1_7 true _ A7.out).mono ?_); rintro e w13 ⟨rfl, hb⟩; have n0_ := am (blk_below (g := gb176) (o := zo0 a1_0 a1_1 a1_2 a1_3 a1_4 a1_5 a1_6 a1_7) u9_3 hb); have n1_ := am (below_step u9_2 hb); clear BK176 HB; have BK176 := n0_; have HB := n1_; clear n0_ n1_; (try clear hb); (try clear hb2); (try clear hk); (try clear hi); obtain ⟨hcz14_0, hcz14_1, hcz14_2, hcz14_3, hcz14_4, hcz14_5, hcz14_6, hcz14_7, hfz14_0, hfz14_1, hfz14_2, hfz14_3, hfz14_4, hfz14_5, hfz14_6, hfz14_7⟩ := cf8 BK176.out) | (go_at_call 20; (with_reducible refine (spec_FindDevice.calls k _ _ l0 a1_0 t179 _ ?side1 ?side2 A9.out).mono ?_); (case side1 => exact y9_0); (case side2 => exact HC0.out); rintro e w15 ⟨rfl, hb⟩; have n0_ := am (blk_below (g := gb176) (o := zo0 a1_0 a1_1 a1_2 a1_3 a1_4 a1_5 a1_6 a1_7) u9_3 hb); have n1_ := am (below_step u9_2 hb); clear BK176 HB; have BK176 := n0_; have HB := n1_; clear n0_ n1_; (try clear hb); (try clear hb2); (try clear hk); (try clear hi)))
     go_meet
     case rel => exact ⟨_, (true), u9_7, H', ⟨by first | omega | exact Nat.le_refl _⟩, ⟨by (with_reducible repeat (first | refine blk_drewN ?_ _ | refine blk_drew ?_ | refine blk_alloc ?_ _)); exact BK176.out⟩, ⟨s9_3⟩⟩
    ·rw [if_neg c10] at H
     have c10b0 : decide (0 ≤ t179) = false := decide_eq_false c10
     clear c10
     (first | rw [c10b0] | (simp only [i64_w, i32_w]; rw [c10b0]) | skip)
     by_cases c16 : (l0.length : Int) = 8
     ·rw [if_pos c16] at H
      have c16b0 : ((l0.length : Int) == 8) = true := beq_iff_eq.mpr c16
      have c16b1 : ((l0.length : Int) != 8) = false := bne_eq_false_iff_eq.mpr c16
      clear c16
      have H' := am H
      clear H
      go_wp2_with (first | ((with_reducible refine gate_callee (f := 24) rfl ?_); refine goesL_ (some 11) rfl rfl Try.func24 (by kernel_rfl) rfl #[.slice A0 l0.length c0] rfl u9_8 ?_; (with_reducible refine (spec_IsRig.calls k _ _ l0 true _ ?side1 ?side2 A5.out).mono ?_); (case side1 => exact y9_0); (case side2 => exact HC0.out); rintro e w17 ⟨rfl, hb⟩; refine ⟨_, rfl, ?_⟩; have n0_ := am (blk_below (g := gb176) (o := zo0 a1_0 a1_1 a1_2 a1_3 a1_4 a1_5 a1_6 a1_7) u9_3 hb); have n1_ := am (below_step u9_2 hb); clear BK176 HB; have BK176 := n0_; have HB := n1_; clear n0_ n1_; (try clear hb); (try clear hb2); (try clear hk); (try clear hi); obtain ⟨hcz18_0, hcz18_1, hcz18_2, hcz18_3, hcz18_4, hcz18_5, hcz18_6, hcz18_7, hfz18_0, hfz18_1, hfz18_2, hfz18_3, hfz18_4, hfz18_5, hfz18_6, hfz18_7⟩ := cf8 BK176.out) | (go_at_call 16; (with_reducible refine (spec_IsDevice.calls k a1_0 a1_1 a1_2 a1_3 a1_4 a1_5 a1_6 a1_7 true _ A7.out).mono ?_); rintro e w19 ⟨rfl, hb⟩; have n0_ := am (blk_below (g := gb176) (o := zo0 a1_0 a1_1 a1_2 a1_3 a1_4 a1_5 a1_6 a1_7) u9_3 hb); have n1_ := am (below_step u9_2 hb); clear BK176 HB; have BK176 := n0_; have HB := n1_; clear n0_ n1_; (try clear hb); (try clear hb2); (try clear hk); (try clear hi); obtain ⟨hcz20_0, hcz20_1, hcz20_2, hcz20_3, hcz20_4, hcz20_5, hcz20_6, hcz20_7, hfz20_0, hfz20_1, hfz20_2, hfz20_3, hfz20_4, hfz20_5, hfz20_6, hfz20_7⟩ := cf8 BK176.out) | (go_at_call 20; (with_reducible refine (spec_FindDevice.calls k _ _ l0 a1_0 t179 _ ?side1 ?side2 A9.out).mono ?_); (case side1 => exact y9_0); (case side2 => exact HC0.out); rintro e w21 ⟨rfl, hb⟩; have n0_ := am (blk_below (g := gb176) (o := zo0 a1_0 a1_1 a1_2 a1_3 a1_4 a1_5 a1_6 a1_7) u9_3 hb); have n1_ := am (below_step u9_2 hb); clear BK176 HB; have BK176 := n0_; have HB := n1_; clear n0_ n1_; (try clear hb); (try clear hb2); (try clear hk); (try clear hi)))
      go_meet
      case rel => exact ⟨_, (true), u9_7, H', ⟨by first | omega | exact Nat.le_refl _⟩, ⟨by (with_reducible repeat (first | refine blk_drewN ?_ _ | refine blk_drew ?_ | refine blk_alloc ?_ _)); exact BK176.out⟩, ⟨s9_3⟩⟩
     ·rw [if_neg c16] at H
      have c16b0 : ((l0.length : Int) == 8) = false := beq_eq_false_iff_ne.mpr c16
      have c16b1 : ((l0.length : Int) != 8) = true := bne_iff_ne.mpr c16
      replace H := Option.bind_eq_some_iff.mp H
      obtain ⟨t180, A220, H⟩ := H
      replace H : (spec_AddDevice.j0 k l0 (!t180) a1_0 a1_1 a1_2 a1_3 a1_4 a1_5 a1_6 a1_7) = some (r1, r2) := H
      have A22 := am A220
      clear A220
      have H' := am H
      clear H
      go_wp2_with (first | ((with_reducible refine gate_callee (f := 24) rfl ?_); refine goesL_ (some 11) rfl rfl Try.func24 (by kernel_rfl) rfl #[.slice A0 l0.length c0] rfl u9_8 ?_; (with_reducible refine (spec_IsRig.calls k _ _ l0 true _ ?side1 ?side2 A5.out).mono ?_); (case side1 => exact y9_0); (case side2 => exact HC0.out); rintro e w23 ⟨rfl, hb⟩; refine ⟨_, rfl, ?_⟩; have n0_ := am (blk_below (g := gb176) (o := zo0 a1_0 a1_1 a1_2 a1_3 a1_4 a1_5 a1_6 a1_7) u9_3 hb); have n1_ := am (below_step u9_2 hb); clear BK176 HB; have BK176 := n0_; have HB := n1_; clear n0_ n1_; (try clear hb); (try clear hb2); (try clear hk); (try clear hi); obtain ⟨hcz24_0, hcz24_1, hcz24_2, hcz24_3, hcz24_4, hcz24_5, hcz24_6, hcz24_7, hfz24_0, hfz24_1, hfz24_2, hfz24_3, hfz24_4, hfz24_5, hfz24_6, hfz24_7⟩ := cf8 BK176.out) | (go_at_call 16; (with_reducible refine (spec_IsDevice.calls k a1_0 a1_1 a1_2 a1_3 a1_4 a1_5 a1_6 a1_7 true _ A7.out).mono ?_); rintro e w25 ⟨rfl, hb⟩; have n0_ := am (blk_below (g := gb176) (o := zo0 a1_0 a1_1 a1_2 a1_3 a1_4 a1_5 a1_6 a1_7) u9_3 hb); have n1_ := am (below_step u9_2 hb); clear BK176 HB; have BK176 := n0_; have HB := n1_; clear n0_ n1_; (try clear hb); (try clear hb2); (try clear hk); (try clear hi); obtain ⟨hcz26_0, hcz26_1, hcz26_2, hcz26_3, hcz26_4, hcz26_5, hcz26_6, hcz26_7, hfz26_0, hfz26_1, hfz26_2, hfz26_3, hfz26_4, hfz26_5, hfz26_6, hfz26_7⟩ := cf8 BK176.out) | (go_at_call 20; (with_reducible refine (spec_FindDevice.calls k _ _ l0 a1_0 t179 _ ?side1 ?side2 A9.out).mono ?_); (case side1 => exact y9_0); (case side2 => exact HC0.out); rintro e w27 ⟨rfl, hb⟩; have n0_ := am (blk_below (g := gb176) (o := zo0 a1_0 a1_1 a1_2 a1_3 a1_4 a1_5 a1_6 a1_7) u9_3 hb); have n1_ := am (below_step u9_2 hb); clear BK176 HB; have BK176 := n0_; have HB := n1_; clear n0_ n1_; (try clear hb); (try clear hb2); (try clear hk); (try clear hi); obtain ⟨hcz28_0, hcz28_1, hcz28_2, hcz28_3, hcz28_4, hcz28_5, hcz28_6, hcz28_7, hfz28_0, hfz28_1, hfz28_2, hfz28_3, hfz28_4, hfz28_5, hfz28_6, hfz28_7⟩ := cf8 BK176.out) | (go_at_call 64; (with_reducible refine (spec_l6Hangs.calls k _ _ l0 a1_0 a1_1 a1_2 a1_3 a1_4 a1_5 a1_6 a1_7 t180 _ ?side1 ?side2 A22.out).mono ?_); (case side1 => exact y9_0); (case side2 => exact HC0.out); rintro e w29 ⟨rfl, hb⟩; have n0_ := am (blk_below (g := gb176) (o := zo0 a1_0 a1_1 a1_2 a1_3 a1_4 a1_5 a1_6 a1_7) u9_3 hb); have n1_ := am (below_step u9_2 hb); clear BK176 HB; have BK176 := n0_; have HB := n1_; clear n0_ n1_; (try clear hb); (try clear hb2); (try clear hk); (try clear hi)))
      go_meet
      case rel => exact ⟨_, (!t180), u9_7, H', ⟨by first | omega | exact Nat.le_refl _⟩, ⟨by (with_reducible repeat (first | refine blk_drewN ?_ _ | refine blk_drew ?_ | refine blk_alloc ?_ _)); exact BK176.out⟩, ⟨s9_3⟩⟩
   ·replace c8 := Bool.eq_false_iff.mpr c8
    subst c8
    have H1 : (spec_AddDevice.j0 k l0 true a1_0 a1_1 a1_2 a1_3 a1_4 a1_5 a1_6 a1_7) = some (r1, r2) := by rw [if_neg (show ¬ (false = true) by decide)] at H; exact H
    clear H
    have H := H1
    clear H1
    have H' := am H
    clear H
    go_wp2_with (first | ((with_reducible refine gate_callee (f := 24) rfl ?_); refine goesL_ (some 11) rfl rfl Try.func24 (by kernel_rfl) rfl #[.slice A0 l0.length c0] rfl u9_8 ?_; (with_reducible refine (spec_IsRig.calls k _ _ l0 true _ ?side1 ?side2 A5.out).mono ?_); (case side1 => exact y9_0); (case side2 => exact HC0.out); rintro e w30 ⟨rfl, hb⟩; refine ⟨_, rfl, ?_⟩; have n0_ := am (blk_below (g := gb176) (o := zo0 a1_0 a1_1 a1_2 a1_3 a1_4 a1_5 a1_6 a1_7) u9_3 hb); have n1_ := am (below_step u9_2 hb); clear BK176 HB; have BK176 := n0_; have HB := n1_; clear n0_ n1_; (try clear hb); (try clear hb2); (try clear hk); (try clear hi); obtain ⟨hcz31_0, hcz31_1, hcz31_2, hcz31_3, hcz31_4, hcz31_5, hcz31_6, hcz31_7, hfz31_0, hfz31_1, hfz31_2, hfz31_3, hfz31_4, hfz31_5, hfz31_6, hfz31_7⟩ := cf8 BK176.out) | (go_at_call 16; (with_reducible refine (spec_IsDevice.calls k a1_0 a1_1 a1_2 a1_3 a1_4 a1_5 a1_6 a1_7 false _ A7.out).mono ?_); rintro e w32 ⟨rfl, hb⟩; have n0_ := am (blk_below (g := gb176) (o := zo0 a1_0 a1_1 a1_2 a1_3 a1_4 a1_5 a1_6 a1_7) u9_3 hb); have n1_ := am (below_step u9_2 hb); clear BK176 HB; have BK176 := n0_; have HB := n1_; clear n0_ n1_; (try clear hb); (try clear hb2); (try clear hk); (try clear hi)))
    go_meet
    case rel => exact ⟨_, (true), u9_7, H', ⟨by first | omega | exact Nat.le_refl _⟩, ⟨by (with_reducible repeat (first | refine blk_drewN ?_ _ | refine blk_drew ?_ | refine blk_alloc ?_ _)); exact BK176.out⟩, ⟨s9_3⟩⟩
  ·replace c6 := Bool.eq_false_iff.mpr c6
   subst c6
   have H1 : (spec_AddDevice.j0 k l0 true a1_0 a1_1 a1_2 a1_3 a1_4 a1_5 a1_6 a1_7) = some (r1, r2) := by rw [if_neg (show ¬ (false = true) by decide)] at H; exact H
   clear H
   have H := H1
   clear H1
   have H' := am H
   clear H
   go_wp2_with (first | ((with_reducible refine gate_callee (f := 24) rfl ?_); refine goesL_ (some 11) rfl rfl Try.func24 (by kernel_rfl) rfl #[.slice A0 l0.length c0] rfl u9_8 ?_; (with_reducible refine (spec_IsRig.calls k _ _ l0 false _ ?side1 ?side2 A5.out).mono ?_); (case side1 => exact y9_0); (case side2 => exact HC0.out); rintro e w33 ⟨rfl, hb⟩; refine ⟨_, rfl, ?_⟩; have n0_ := am (blk_below (g := gb176) (o := zo0 a1_0 a1_1 a1_2 a1_3 a1_4 a1_5 a1_6 a1_7) u9_3 hb); have n1_ := am (below_step u9_2 hb); clear BK176 HB; have BK176 := n0_; have HB := n1_; clear n0_ n1_; (try clear hb); (try clear hb2); (try clear hk); (try clear hi)))
   go_meet
   case rel => exact ⟨_, (true), u9_7, H', ⟨by first | omega | exact Nat.le_refl _⟩, ⟨by (with_reducible repeat (first | refine blk_drewN ?_ _ | refine blk_drew ?_ | refine blk_alloc ?_ _)); exact BK176.out⟩, ⟨s9_3⟩⟩
 case rest =>
  clear HC3
  try clear c1
  try clear c2
  try clear p2
  try clear c4
  try clear c6
  try clear c8
  try clear c10
  try clear c10b0
  try clear c16
  try clear c16b0
  try clear c16b1
  try clear c24
  try clear hcz12_0
  try clear hcz12_1
  try clear hcz12_2
  try clear hcz12_3
  try clear hcz12_4
  try clear hcz12_5
  try clear hcz12_6
  try clear hcz12_7
  try clear hcz14_0
  try clear hcz14_1
  try clear hcz14_2
  try clear hcz14_3
  try clear hcz14_4
  try clear hcz14_5
  try clear hcz14_6
  try clear hcz14_7
  try clear hcz18_0
  try clear hcz18_1
  try clear hcz18_2
  try clear hcz18_3
  try clear hcz18_4
  try clear hcz18_5
  try clear hcz18_6
  try clear hcz18_7
  try clear hcz20_0
  try clear hcz20_1
  try clear hcz20_2
  try clear hcz20_3
  try clear hcz20_4
  try clear hcz20_5
  try clear hcz20_6
  try clear hcz20_7
  try clear hcz24_0
  try clear hcz24_1
  try clear hcz24_2
  try clear hcz24_3
  try clear hcz24_4
  try clear hcz24_5
  try clear hcz24_6
  try clear hcz24_7
  try clear hcz26_0
  try clear hcz26_1
  try clear hcz26_2
  try clear hcz26_3
  try clear hcz26_4
  try clear hcz26_5
  try clear hcz26_6
  try clear hcz26_7
  try clear hcz28_0
  try clear hcz28_1
  try clear hcz28_2
  try clear hcz28_3
  try clear hcz28_4
  try clear hcz28_5
  try clear hcz28_6
  try clear hcz28_7
  try clear hcz31_0
  try clear hcz31_1
  try clear hcz31_2
  try clear hcz31_3
  try clear hcz31_4
  try clear hcz31_5
  try clear hcz31_6
  try clear hcz31_7
  try clear hfz12_0
  try clear hfz12_1
  try clear hfz12_2
  try clear hfz12_3
  try clear hfz12_4
  try clear hfz12_5
  try clear hfz12_6
  try clear hfz12_7
  try clear hfz14_0
  try clear hfz14_1
  try clear hfz14_2
  try clear hfz14_3
  try clear hfz14_4
  try clear hfz14_5
  try clear hfz14_6
  try clear hfz14_7
  try clear hfz18_0
  try clear hfz18_1
  try clear hfz18_2
  try clear hfz18_3
  try clear hfz18_4
  try clear hfz18_5
  try clear hfz18_6
  try clear hfz18_7
  try clear hfz20_0
  try clear hfz20_1
  try clear hfz20_2
  try clear hfz20_3
  try clear hfz20_4
  try clear hfz20_5
  try clear hfz20_6
  try clear hfz20_7
  try clear hfz24_0
  try clear hfz24_1
  try clear hfz24_2
  try clear hfz24_3
  try clear hfz24_4
  try clear hfz24_5
  try clear hfz24_6
  try clear hfz24_7
  try clear hfz26_0
  try clear hfz26_1
  try clear hfz26_2
  try clear hfz26_3
  try clear hfz26_4
  try clear hfz26_5
  try clear hfz26_6
  try clear hfz26_7
  try clear hfz28_0
  try clear hfz28_1
  try clear hfz28_2
  try clear hfz28_3
  try clear hfz28_4
  try clear hfz28_5
  try clear hfz28_6
  try clear hfz28_7
  try clear hfz31_0
  try clear hfz31_1
  try clear hfz31_2
  try clear hfz31_3
  try clear hfz31_4
  try clear hfz31_5
  try clear hfz31_6
  try clear hfz31_7
  obtain ⟨kq, x35_2, rfl, HA, HJ2, BK176, HB⟩ := hcut
  cases kq with
  | zero => exact absurd HA.out (by simp [spec_AddDevice.j0])
  | succ kj2 =>
   have H := HA.out
   clear HA
   simp only [spec_AddDevice.j0] at H
   by_cases c34 : x35_2 = true
   ·subst c34
    have H1 : ((spec_l6Copies.f l0).bind fun t181 => (some (t181, false))) = some (r1, r2) := by rw [if_pos rfl] at H; exact H
    clear H
    have H := H1
    clear H1
    replace H := Option.bind_eq_some_iff.mp H
    obtain ⟨t181, A350, H⟩ := H
    replace H : (some (t181, false)) = some (r1, r2) := H
    have A35 := am A350
    clear A350
    simp only [Option.some.injEq, Prod.mk.injEq] at H
    obtain ⟨rfl, rfl⟩ := H
    go_wp2_with (first | ((with_reducible refine gate_callee (f := 69) rfl ?_); refine goesL_ (some 37) rfl rfl Try.func69 (by kernel_rfl) rfl #[.slice A0 l0.length c0] rfl u9_8 ?_; (with_reducible refine (spec_l6Copies.calls _ _ l0 t181 _ ?side1 ?side2 A35.out).mono ?_); (case side1 => exact y9_0); (case side2 => exact HC0.out); rintro e w36 ⟨v182, rfl, ho0, hb⟩; refine ⟨_, rfl, ?_⟩; have n0_ := am (Kd.R_lower (Kd.R_newB ho0 (g := gb176) (o := zo0 a1_0 a1_1 a1_2 a1_3 a1_4 a1_5 a1_6 a1_7) u9_3) (below_size u9_2)); have n1_ := am (blk_below (g := gb176) (o := zo0 a1_0 a1_1 a1_2 a1_3 a1_4 a1_5 a1_6 a1_7) u9_3 hb); have n2_ := am (below_step u9_2 hb); clear BK176 HB; have HO183 := n0_; have BK176 := n1_; have HB := n2_; clear n0_ n1_ n2_; (try clear hb); (try clear hb2); (try clear hk); (try clear hi); (try clear ho0)))
    go_ret2
    exact ⟨_, by first | rfl | (simp [*] <;> rfl), by (with_reducible repeat (first | apply Kd.R_alloc | apply Kd.R_drewN | apply Kd.R_drew)); exact Kd.R_mono HO183.out (fun _ hk => trivial), s9_3⟩
   ·replace c34 := Bool.eq_false_iff.mpr c34
    subst c34
    have H1 : (spec_AddDevice.l0 kj2 (([] : List (S30))) false l0 (l0.length : Int) 0 a1_0 a1_1 a1_2 a1_3 a1_4 a1_5 a1_6 a1_7) = some (r1, r2) := by rw [if_neg (show ¬ (false = true) by decide)] at H; exact H
    clear H
    have H := H1
    clear H1
    obtain ⟨y184, hy184⟩ : ∃ y_ : List (S30), y_ = (([] : List (S30))) := ⟨_, rfl⟩
    replace H : (spec_AddDevice.l0 kj2 y184 false l0 (l0.length : Int) 0 a1_0 a1_1 a1_2 a1_3 a1_4 a1_5 a1_6 a1_7) = some (r1, r2) := by first | (rw [hy184]; with_reducible exact H) | (have H2_ := (Option.bind_some _ _).symm.trans H; rw [hy184]; with_reducible exact H2_) | (have H2_ := (Option.bind_some _ _).symm.trans H; with_reducible exact H2_) | with_reducible exact H | (rw [hy184]; exact H) | exact H
    have Ny184 := am hy184
    clear hy184
    have H' := am H
    clear H
    go_wp2_with (first | ((with_reducible refine gate_dst (N := 38) rfl ?_); (try (refine gate_guard (by rfl) ?_; dsimp only)); refine Kd.R_lit k30 _ 30 ?hg (N := 38) ?hd (xs := ([] : List (S30))) (inner := []) (ok := fun _ => True) (okp := fun _ => True) ?hr ?hp (fun _ hk => hk) trivial (Below.refl _ _) (Nat.le_refl _) (by simp) ?_; (case hd => rfl); (case hg => rfl); (case hr => exact gq); (case hp => exact (Reps.none _ _)); intro v185 w37 ho38 hb hg_ hnew_; clear hg_ hnew_; (first | rw [← Ny184.out] at ho38 | (simp only [Int.reduceToNat] at ho38; rw [← Ny184.out] at ho38)); have n0_ := am (Kd.R_lower (Kd.R_newB ho38 (g := gb176) (o := zo0 a1_0 a1_1 a1_2 a1_3 a1_4 a1_5 a1_6 a1_7) u9_3) (below_size u9_2)); have n1_ := am (blk_below (g := gb176) (o := zo0 a1_0 a1_1 a1_2 a1_3 a1_4 a1_5 a1_6 a1_7) u9_3 hb); have n2_ := am (below_step u9_2 hb); clear BK176 HB; have HO186 := n0_; have BK176 := n1_; have HB := n2_; clear n0_ n1_ n2_ hb ho38))
    go_loopg [6, 7, 41] kj2 (fun kq v6 v7 v41 w' => ∃ (x6_2 : List (S30)) (x7_2 : Bool) (x41_2 : Int), v7 = .bool x7_2 ∧ v41 = .int .i64 x41_2 ∧ Aside0 (spec_AddDevice.l0 kq x6_2 x7_2 l0 (l0.length : Int) x41_2 a1_0 a1_1 a1_2 a1_3 a1_4 a1_5 a1_6 a1_7 = some (r1, r2)) ∧ Aside0 (kq ≤ kj2) ∧ Aside0 (Kd.R k30 30 w' w.heap.size (fun k_ => k_ ≠ gb176) v6 x6_2) ∧ Aside0 (w'.heap[gb176]? = some (.cells #[.string a1_0, .int .i64 a1_1, .string a1_2, .int .i64 a1_3, .int .i64 a1_4, .int .i64 a1_5, .int .i64 a1_6, .int .i64 a1_7] 30 (0, 0))) ∧ Aside0 (Below w.heap.size w w'))
    case atStart => exact ⟨(y184), (false), (0), u9_7, u9_7, H', ⟨Nat.le_refl _⟩, ⟨by (with_reducible repeat (first | apply Kd.R_alloc | apply Kd.R_drewN | apply Kd.R_drew)); exact Kd.R_mono HO186.out (fun _ hk => hk.2)⟩, ⟨by (with_reducible repeat (first | refine blk_drewN ?_ _ | refine blk_drew ?_ | refine blk_alloc ?_ _)); exact BK176.out⟩, ⟨s9_3⟩⟩
    case round =>
     clear H'
     try clear c1
     try clear c2
     try clear p2
     try clear c3
     try clear c4
     try clear c6
     try clear c8
     try clear c10
     try clear c10b0
     try clear c16
     try clear c16b0
     try clear c16b1
     try clear c24
     try clear c34
     try clear hcz12_0
     try clear hcz12_1
     try clear hcz12_2
     try clear hcz12_3
     try clear hcz12_4
     try clear hcz12_5
     try clear hcz12_6
     try clear hcz12_7
     try clear hcz14_0
     try clear hcz14_1
     try clear hcz14_2
     try clear hcz14_3
     try clear hcz14_4
     try clear hcz14_5
     try clear hcz14_6
     try clear hcz14_7
     try clear hcz18_0
     try clear hcz18_1
     try clear hcz18_2
     try clear hcz18_3
     try clear hcz18_4
     try clear hcz18_5
     try clear hcz18_6
     try clear hcz18_7
     try clear hcz20_0
     try clear hcz20_1
     try clear hcz20_2
     try clear hcz20_3
     try clear hcz20_4
     try clear hcz20_5
     try clear hcz20_6
     try clear hcz20_7
     try clear hcz24_0
     try clear hcz24_1
     try clear hcz24_2
     try clear hcz24_3
     try clear hcz24_4
     try clear hcz24_5
     try clear hcz24_6
     try clear hcz24_7
     try clear hcz26_0
     try clear hcz26_1
     try clear hcz26_2
     try clear hcz26_3
     try clear hcz26_4
     try clear hcz26_5
     try clear hcz26_6
     try clear hcz26_7
     try clear hcz28_0
     try clear hcz28_1
     try clear hcz28_2
     try clear hcz28_3
     try clear hcz28_4
     try clear hcz28_5
     try clear hcz28_6
     try clear hcz28_7
     try clear hcz31_0
     try clear hcz31_1
     try clear hcz31_2
     try clear hcz31_3
     try clear hcz31_4
     try clear hcz31_5
     try clear hcz31_6
     try clear hcz31_7
     try clear hfz12_0
     try clear hfz12_1
     try clear hfz12_2
     try clear hfz12_3
     try clear hfz12_4
     try clear hfz12_5
     try clear hfz12_6
     try clear hfz12_7
     try clear hfz14_0
     try clear hfz14_1
     try clear hfz14_2
     try clear hfz14_3
     try clear hfz14_4
     try clear hfz14_5
     try clear hfz14_6
     try clear hfz14_7
     try clear hfz18_0
     try clear hfz18_1
     try clear hfz18_2
     try clear hfz18_3
     try clear hfz18_4
     try clear hfz18_5
     try clear hfz18_6
     try clear hfz18_7
     try clear hfz20_0
     try clear hfz20_1
     try clear hfz20_2
     try clear hfz20_3
     try clear hfz20_4
     try clear hfz20_5
     try clear hfz20_6
     try clear hfz20_7
     try clear hfz24_0
     try clear hfz24_1
     try clear hfz24_2
     try clear hfz24_3
     try clear hfz24_4
     try clear hfz24_5
     try clear hfz24_6
     try clear hfz24_7
     try clear hfz26_0
     try clear hfz26_1
     try clear hfz26_2
     try clear hfz26_3
     try clear hfz26_4
     try clear hfz26_5
     try clear hfz26_6
     try clear hfz26_7
     try clear hfz28_0
     try clear hfz28_1
     try clear hfz28_2
     try clear hfz28_3
     try clear hfz28_4
     try clear hfz28_5
     try clear hfz28_6
     try clear hfz28_7
     try clear hfz31_0
     try clear hfz31_1
     try clear hfz31_2
     try clear hfz31_3
     try clear hfz31_4
     try clear hfz31_5
     try clear hfz31_6
     try clear hfz31_7
     try clear p2
     obtain ⟨x6_2, x7_2, x41_2, rfl, rfl, HA, HK2, HO_6, BK176, HB⟩ := hrel
     cases gk with
     | zero => exact absurd HA.out (by simp [spec_AddDevice.l0])
     | succ k2 =>
      have H := HA.out
      clear HA
      simp only [spec_AddDevice.l0] at H
      by_cases c39 : x41_2 < (l0.length : Int)
      ·rw [if_pos c39] at H
       have c39b0 : decide (x41_2 < (l0.length : Int)) = true := decide_eq_true c39
       clear c39
       by_cases c40 : 0 ≤ x41_2
       ·rw [if_pos c40] at H
        have c40b0 : decide (0 ≤ x41_2) = true := decide_eq_true c40
        clear c40
        by_cases c41 : x41_2 < (l0.length : Int)
        ·rw [if_pos c41] at H
         have c41b0 : decide (x41_2 < (l0.length : Int)) = true := decide_eq_true c41
         clear c41
         by_cases c42 : x7_2 = true
         ·subst c42
          have H1 : (if x6_2.length < 1759218604441 then (spec_AddDevice.l0 k2 (x6_2 ++ [(⟨(rd_T30 l0 x41_2).f0, (rd_T30 l0 x41_2).f1, (rd_T30 l0 x41_2).f2, (⟨(rd_T30 l0 x41_2).f3.f0, (rd_T30 l0 x41_2).f3.f1⟩ : S28), (rd_T30 l0 x41_2).f4, (rd_T30 l0 x41_2).f5, (rd_T30 l0 x41_2).f6⟩ : S30)]) true l0 (l0.length : Int) (wrap64 (x41_2 + 1)) a1_0 a1_1 a1_2 a1_3 a1_4 a1_5 a1_6 a1_7) else (none)) = some (r1, r2) := by rw [if_pos rfl] at H; exact H
          clear H
          have H := H1
          clear H1
          by_cases c43 : x6_2.length < 1759218604441
          ·rw [if_pos c43] at H
           have LMc43 := am c43
           clear c43
           obtain ⟨y189, hy189⟩ : ∃ y_ : List (S30), y_ = (x6_2 ++ [(⟨(rd_T30 l0 x41_2).f0, (rd_T30 l0 x41_2).f1, (rd_T30 l0 x41_2).f2, (⟨(rd_T30 l0 x41_2).f3.f0, (rd_T30 l0 x41_2).f3.f1⟩ : S28), (rd_T30 l0 x41_2).f4, (rd_T30 l0 x41_2).f5, (rd_T30 l0 x41_2).f6⟩ : S30)]) := ⟨_, rfl⟩
           replace H : (spec_AddDevice.l0 k2 y189 true l0 (l0.length : Int) (wrap64 (x41_2 + 1)) a1_0 a1_1 a1_2 a1_3 a1_4 a1_5 a1_6 a1_7) = some (r1, r2) := by first | (rw [hy189]; with_reducible exact H) | (have H2_ := (Option.bind_some _ _).symm.trans H; rw [hy189]; with_reducible exact H2_) | (have H2_ := (Option.bind_some _ _).symm.trans H; with_reducible exact H2_) | with_reducible exact H | (rw [hy189]; exact H) | exact H
           have Ny189 := am hy189
           clear hy189
           have H' := am H
           clear H
           have p187 : 0 ≤ (x41_2 : Int) := od (by assumption)
           have q187 : x41_2 < (l0.length : Int) := od (by assumption)
           obtain ⟨ad187, e187, hx187_0, hx187_1, hx187_2, hx187_3, hx187_4, hx187_5, hx187_6, hx187_7⟩ := at_T30 (Kd.C_below HR0.out HB.out) x41_2 p187 q187
           cases e187
           replace p187 := eq_true p187
           replace q187 := eq_true q187
           go_wp2_with (first | ((with_reducible refine gate_dst (N := 9) rfl ?_); (try (refine gate_guard (by rfl) ?_; dsimp only)); refine box_event ?hg (N := 9) ?hd (cs := #[.string (⟨#[]⟩ : ByteArray), .int .i64 0, .string (⟨#[]⟩ : ByteArray), .int .i64 0, .int .i64 0, .int .i64 0, .int .i64 0, .int .i64 0]) (t := 30) ?hr ?_; (case hd => rfl); (case hg => rfl); (case hr => exact gq); intro gb188 hg w44 hbox hb; have n0_ := am (Kd.R_below (Kd.R_elderB u9_9 gb188 (Nat.le_of_eq hg.symm)) hb); have n1_ := am (blk_below (g := gb176) (o := zo0 a1_0 a1_1 a1_2 a1_3 a1_4 a1_5 a1_6 a1_7) u9_3 hb); have n2_ := am (below_step u9_2 hb); have n3_ := am (hbox); have n4_ := bsw w hg (below_size u9_2); have n5_ := bsw w hg (below_size u9_2); have n6_ := am ((by rw [hg]; exact Nat.ne_of_lt (blk_lt (g := gb176) (o := zo0 a1_0 a1_1 a1_2 a1_3 a1_4 a1_5 a1_6 a1_7) u9_3) : gb176 ≠ gb188)); have n7_ := am ((by rw [hg]; exact Nat.ne_of_gt (blk_lt (g := gb176) (o := zo0 a1_0 a1_1 a1_2 a1_3 a1_4 a1_5 a1_6 a1_7) u9_3) : gb188 ≠ gb176)); clear HO_6 BK176 HB; have HO_6 := n0_; have BK176 := n1_; have HB := n2_; have BK188 := n3_; have GW188 := n4_; have GE188 := n5_; have NB176_188 := n6_; have NB188_176 := n7_; clear n0_ n1_ n2_ n3_ n4_ n5_ n6_ n7_ hb hbox hg; have hnb45 := NB188_176.out; have hnc45 := NB176_188.out; obtain ⟨hcz46_0, hcz46_1, hcz46_2, hcz46_3, hcz46_4, hcz46_5, hcz46_6, hcz46_7, hfz46_0, hfz46_1, hfz46_2, hfz46_3, hfz46_4, hfz46_5, hfz46_6, hfz46_7⟩ := cf8 BK188.out) | ((with_reducible refine gate_builtin (b := .append) (xs := #[.tmp 58, .tmp 60]) rfl ?_); (try (refine gate_guard (by rfl) ?_; dsimp only)); at_builtin; refine Kd.R_append k30 (w0 := w) w.heap.size rfl (.tmp 58) (.tmp 60) 36 30 (.agg #[(.string ⟨#[]⟩), (.int .i64 0), (.string ⟨#[]⟩), (.int .i64 0), (.int .i64 0), (.int .i64 0), (.int .i64 0), (.int .i64 0)]) 80 rfl Try.underlying36 info30 rfl (by decide) (by omega) u6 x6_2 (⟨(rd_T30 l0 x41_2).f0, (rd_T30 l0 x41_2).f1, (rd_T30 l0 x41_2).f2, (⟨(rd_T30 l0 x41_2).f3.f0, (rd_T30 l0 x41_2).f3.f1⟩ : S28), (rd_T30 l0 x41_2).f4, (rd_T30 l0 x41_2).f5, (rd_T30 l0 x41_2).f6⟩ : S30) [.string ((rd_T30 l0 x41_2).f0), .int .i64 ((rd_T30 l0 x41_2).f1), .string ((rd_T30 l0 x41_2).f2), .int .i64 ((rd_T30 l0 x41_2).f3.f0), .int .i64 ((rd_T30 l0 x41_2).f3.f1), .int .i64 ((rd_T30 l0 x41_2).f4), .int .i64 ((rd_T30 l0 x41_2).f5), .int .i64 ((rd_T30 l0 x41_2).f6)] (fun k_ => k_ ≠ gb176 ∧ k_ ≠ gb188) (fun _ => False) rfl (by first | (go_simp; done) | (go_simp; rfl)) ?aP (fun _ hk => hk.elim) ?aF ?aO ?aB ?aS ?aL ?_; (case aP => exact k30_mkM _ _ _ (⟨(rd_T30 l0 x41_2).f0, (rd_T30 l0 x41_2).f1, (rd_T30 l0 x41_2).f2, (⟨(rd_T30 l0 x41_2).f3.f0, (rd_T30 l0 x41_2).f3.f1⟩ : S28), (rd_T30 l0 x41_2).f4, (rd_T30 l0 x41_2).f5, (rd_T30 l0 x41_2).f6⟩ : S30)); (case aB => exact u9_5); (case aF => exact (fun k_ hk => ⟨Kd.freshB (g := gb176) (o := zo0 a1_0 a1_1 a1_2 a1_3 a1_4 a1_5 a1_6 a1_7) u9_1 k_ hk, Kd.freshB (g := gb188) (o := zo4 (rd_T30 l0 x41_2)) u9_0 k_ hk⟩)); (case aO => exact u9_4); (case aS => exact (below_size u9_5)); (case aL => have := LMc43.out; omega); intro v190 w47 ho hb hg hat; rw [← Ny189.out] at ho; have n0_ := am (blk_grown (g := gb176) (o := zo0 a1_0 a1_1 a1_2 a1_3 a1_4 a1_5 a1_6 a1_7) u9_1 hg (Kd.R_away HO_6.out (fun _ hk => hk.1))); have n1_ := am (blk_grown (g := gb188) (o := zo4 (rd_T30 l0 x41_2)) u9_0 hg (Kd.R_away HO_6.out (fun _ hk => hk.2))); have n2_ := am (hb); have n3_ := am (ho); clear BK176 BK188 HB HO_6; have BK176 := n0_; have BK188 := n1_; have HB := n2_; have HO191 := n3_; clear n0_ n1_ n2_ n3_ ho hb hg hat))
           go_roundg k2
           case measure => have := HJ2.out; have := HK2.out; omega
           case rel => exact ⟨(y189), (true), (wrap64 (x41_2 + 1)), u9_7, u9_7, H', ⟨by have := HJ2.out; have := HK2.out; omega⟩, ⟨by (with_reducible repeat (first | apply Kd.R_alloc | apply Kd.R_drewN | apply Kd.R_drew)); exact Kd.R_mono HO191.out (fun _ hk => hk.1)⟩, ⟨by (with_reducible repeat (first | refine blk_drewN ?_ _ | refine blk_drew ?_ | refine blk_alloc ?_ _)); exact BK176.out⟩, ⟨s9_0⟩⟩
          ·rw [if_neg c43] at H
           exact absurd H (by simp)
         ·replace c42 := Bool.eq_false_iff.mpr c42
          subst c42
          have H1 : (if (Op.bytesLess a1_0.toList (((rd_T30 l0 x41_2).f0).toList)) = true then (if x6_2.length < 1759218604441 then ((some (x6_2 ++ [(⟨a1_0, a1_1, a1_2, (⟨a1_3, a1_4⟩ : S28), a1_5, a1_6, a1_7⟩ : S30)] : List (S30))).bind fun y192 => (if y192.length < 1759218604441 then (spec_AddDevice.l0 k2 (y192 ++ [(⟨(rd_T30 l0 x41_2).f0, (rd_T30 l0 x41_2).f1, (rd_T30 l0 x41_2).f2, (⟨(rd_T30 l0 x41_2).f3.f0, (rd_T30 l0 x41_2).f3.f1⟩ : S28), (rd_T30 l0 x41_2).f4, (rd_T30 l0 x41_2).f5, (rd_T30 l0 x41_2).f6⟩ : S30)]) true l0 (l0.length : Int) (wrap64 (x41_2 + 1)) a1_0 a1_1 a1_2 a1_3 a1_4 a1_5 a1_6 a1_7) else (none))) else (none)) else (if x6_2.length < 1759218604441 then (spec_AddDevice.l0 k2 (x6_2 ++ [(⟨(rd_T30 l0 x41_2).f0, (rd_T30 l0 x41_2).f1, (rd_T30 l0 x41_2).f2, (⟨(rd_T30 l0 x41_2).f3.f0, (rd_T30 l0 x41_2).f3.f1⟩ : S28), (rd_T30 l0 x41_2).f4, (rd_T30 l0 x41_2).f5, (rd_T30 l0 x41_2).f6⟩ : S30)]) false l0 (l0.length : Int) (wrap64 (x41_2 + 1)) a1_0 a1_1 a1_2 a1_3 a1_4 a1_5 a1_6 a1_7) else (none))) = some (r1, r2) := by rw [if_neg (show ¬ (false = true) by decide)] at H; exact H
          clear H
          have H := H1
          clear H1
          by_cases c48 : (Op.bytesLess a1_0.toList (((rd_T30 l0 x41_2).f0).toList)) = true
          ·rw [if_pos c48] at H
           have c48b0 : (Op.bytesLess a1_0.toList (((rd_T30 l0 x41_2).f0).toList)) = true := c48
           have c48e : (Op.bytesLess (((rd_T30 l0 x41_2).f0).toList) a1_0.toList || (((rd_T30 l0 x41_2).f0).toList) == a1_0.toList) = false := blU_leF c48b0
           clear c48
           by_cases c49 : x6_2.length < 1759218604441
           ·rw [if_pos c49] at H
            have LMc49 := am c49
            clear c49
            obtain ⟨y192, hy192⟩ : ∃ y_ : List (S30), y_ = (x6_2 ++ [(⟨a1_0, a1_1, a1_2, (⟨a1_3, a1_4⟩ : S28), a1_5, a1_6, a1_7⟩ : S30)]) := ⟨_, rfl⟩
            replace H : (if y192.length < 1759218604441 then (spec_AddDevice.l0 k2 (y192 ++ [(⟨(rd_T30 l0 x41_2).f0, (rd_T30 l0 x41_2).f1, (rd_T30 l0 x41_2).f2, (⟨(rd_T30 l0 x41_2).f3.f0, (rd_T30 l0 x41_2).f3.f1⟩ : S28), (rd_T30 l0 x41_2).f4, (rd_T30 l0 x41_2).f5, (rd_T30 l0 x41_2).f6⟩ : S30)]) true l0 (l0.length : Int) (wrap64 (x41_2 + 1)) a1_0 a1_1 a1_2 a1_3 a1_4 a1_5 a1_6 a1_7) else (none)) = some (r1, r2) := by first | (rw [hy192]; with_reducible exact H) | (have H2_ := (Option.bind_some _ _).symm.trans H; rw [hy192]; with_reducible exact H2_) | (have H2_ := (Option.bind_some _ _).symm.trans H; with_reducible exact H2_) | with_reducible exact H | (rw [hy192]; exact H) | exact H
            have Ny192 := am hy192
            clear hy192
            by_cases c50 : y192.length < 1759218604441
            ·rw [if_pos c50] at H
             have LMc50 := am c50
             clear c50
             obtain ⟨y195, hy195⟩ : ∃ y_ : List (S30), y_ = (y192 ++ [(⟨(rd_T30 l0 x41_2).f0, (rd_T30 l0 x41_2).f1, (rd_T30 l0 x41_2).f2, (⟨(rd_T30 l0 x41_2).f3.f0, (rd_T30 l0 x41_2).f3.f1⟩ : S28), (rd_T30 l0 x41_2).f4, (rd_T30 l0 x41_2).f5, (rd_T30 l0 x41_2).f6⟩ : S30)]) := ⟨_, rfl⟩
             replace H : (spec_AddDevice.l0 k2 y195 true l0 (l0.length : Int) (wrap64 (x41_2 + 1)) a1_0 a1_1 a1_2 a1_3 a1_4 a1_5 a1_6 a1_7) = some (r1, r2) := by first | (rw [hy195]; with_reducible exact H) | (have H2_ := (Option.bind_some _ _).symm.trans H; rw [hy195]; with_reducible exact H2_) | (have H2_ := (Option.bind_some _ _).symm.trans H; with_reducible exact H2_) | with_reducible exact H | (rw [hy195]; exact H) | exact H
             have Ny195 := am hy195
             clear hy195
             have H' := am H
             clear H
             have p187 : 0 ≤ (x41_2 : Int) := od (by assumption)
             have q187 : x41_2 < (l0.length : Int) := od (by assumption)
             obtain ⟨ad187, e187, hx187_0, hx187_1, hx187_2, hx187_3, hx187_4, hx187_5, hx187_6, hx187_7⟩ := at_T30 (Kd.C_below HR0.out HB.out) x41_2 p187 q187
             cases e187
             replace p187 := eq_true p187
             replace q187 := eq_true q187
             go_wp2_with (first | ((with_reducible refine gate_dst (N := 9) rfl ?_); (try (refine gate_guard (by rfl) ?_; dsimp only)); refine box_event ?hg (N := 9) ?hd (cs := #[.string (⟨#[]⟩ : ByteArray), .int .i64 0, .string (⟨#[]⟩ : ByteArray), .int .i64 0, .int .i64 0, .int .i64 0, .int .i64 0, .int .i64 0]) (t := 30) ?hr ?_; (case hd => rfl); (case hg => rfl); (case hr => exact gq); intro gb188 hg w51 hbox hb; have n0_ := am (Kd.R_below (Kd.R_elderB u9_9 gb188 (Nat.le_of_eq hg.symm)) hb); have n1_ := am (blk_below (g := gb176) (o := zo0 a1_0 a1_1 a1_2 a1_3 a1_4 a1_5 a1_6 a1_7) u9_3 hb); have n2_ := am (below_step u9_2 hb); have n3_ := am (hbox); have n4_ := bsw w hg (below_size u9_2); have n5_ := bsw w hg (below_size u9_2); have n6_ := am ((by rw [hg]; exact Nat.ne_of_lt (blk_lt (g := gb176) (o := zo0 a1_0 a1_1 a1_2 a1_3 a1_4 a1_5 a1_6 a1_7) u9_3) : gb176 ≠ gb188)); have n7_ := am ((by rw [hg]; exact Nat.ne_of_gt (blk_lt (g := gb176) (o := zo0 a1_0 a1_1 a1_2 a1_3 a1_4 a1_5 a1_6 a1_7) u9_3) : gb188 ≠ gb176)); clear HO_6 BK176 HB; have HO_6 := n0_; have BK176 := n1_; have HB := n2_; have BK188 := n3_; have GW188 := n4_; have GE188 := n5_; have NB176_188 := n6_; have NB188_176 := n7_; clear n0_ n1_ n2_ n3_ n4_ n5_ n6_ n7_ hb hbox hg; have hnb52 := NB188_176.out; have hnc52 := NB176_188.out; obtain ⟨hcz53_0, hcz53_1, hcz53_2, hcz53_3, hcz53_4, hcz53_5, hcz53_6, hcz53_7, hfz53_0, hfz53_1, hfz53_2, hfz53_3, hfz53_4, hfz53_5, hfz53_6, hfz53_7⟩ := cf8 BK188.out; obtain ⟨hcz54_0, hcz54_1, hcz54_2, hcz54_3, hcz54_4, hcz54_5, hcz54_6, hcz54_7, hfz54_0, hfz54_1, hfz54_2, hfz54_3, hfz54_4, hfz54_5, hfz54_6, hfz54_7⟩ := cf8 BK176.out) | ((with_reducible refine gate_builtin (b := .append) (xs := #[.tmp 54, .tmp 56]) rfl ?_); (try (refine gate_guard (by rfl) ?_; dsimp only)); at_builtin; refine Kd.R_append k30 (w0 := w) w.heap.size rfl (.tmp 54) (.tmp 56) 36 30 (.agg #[(.string ⟨#[]⟩), (.int .i64 0), (.string ⟨#[]⟩), (.int .i64 0), (.int .i64 0), (.int .i64 0), (.int .i64 0), (.int .i64 0)]) 80 rfl Try.underlying36 info30 rfl (by decide) (by omega) u6 x6_2 (⟨a1_0, a1_1, a1_2, (⟨a1_3, a1_4⟩ : S28), a1_5, a1_6, a1_7⟩ : S30) [.string a1_0, .int .i64 a1_1, .string a1_2, .int .i64 a1_3, .int .i64 a1_4, .int .i64 a1_5, .int .i64 a1_6, .int .i64 a1_7] (fun k_ => k_ ≠ gb176 ∧ k_ ≠ gb188) (fun _ => False) rfl (by first | (go_simp; done) | (go_simp; rfl)) ?aP (fun _ hk => hk.elim) ?aF ?aO ?aB ?aS ?aL ?_; (case aP => exact k30_mkM _ _ _ (⟨a1_0, a1_1, a1_2, (⟨a1_3, a1_4⟩ : S28), a1_5, a1_6, a1_7⟩ : S30)); (case aB => exact u9_5); (case aF => exact (fun k_ hk => ⟨Kd.freshB (g := gb176) (o := zo0 a1_0 a1_1 a1_2 a1_3 a1_4 a1_5 a1_6 a1_7) u9_1 k_ hk, Kd.freshB (g := gb188) (o := zo4 (rd_T30 l0 x41_2)) u9_0 k_ hk⟩)); (case aO => exact u9_4); (case aS => exact (below_size u9_5)); (case aL => have := LMc49.out; omega); intro v193 w55 ho hb hg hat; rw [← Ny192.out] at ho; have n0_ := am (blk_grown (g := gb176) (o := zo0 a1_0 a1_1 a1_2 a1_3 a1_4 a1_5 a1_6 a1_7) u9_1 hg (Kd.R_away HO_6.out (fun _ hk => hk.1))); have n1_ := am (blk_grown (g := gb188) (o := zo4 (rd_T30 l0 x41_2)) u9_0 hg (Kd.R_away HO_6.out (fun _ hk => hk.2))); have n2_ := am (hb); have n3_ := am (ho); clear BK176 BK188 HB HO_6; have BK176 := n0_; have BK188 := n1_; have HB := n2_; have HO194 := n3_; clear n0_ n1_ n2_ n3_ ho hb hg hat; obtain ⟨hcz56_0, hcz56_1, hcz56_2, hcz56_3, hcz56_4, hcz56_5, hcz56_6, hcz56_7, hfz56_0, hfz56_1, hfz56_2, hfz56_3, hfz56_4, hfz56_5, hfz56_6, hfz56_7⟩ := cf8 BK188.out) | ((with_reducible refine gate_builtin (b := .append) (xs := #[.tmp 58, .tmp 60]) rfl ?_); (try (refine gate_guard (by rfl) ?_; dsimp only)); at_builtin; refine Kd.R_append k30 (w0 := w) w.heap.size rfl (.tmp 58) (.tmp 60) 36 30 (.agg #[(.string ⟨#[]⟩), (.int .i64 0), (.string ⟨#[]⟩), (.int .i64 0), (.int .i64 0), (.int .i64 0), (.int .i64 0), (.int .i64 0)]) 80 rfl Try.underlying36 info30 rfl (by decide) (by omega) v193 y192 (⟨(rd_T30 l0 x41_2).f0, (rd_T30 l0 x41_2).f1, (rd_T30 l0 x41_2).f2, (⟨(rd_T30 l0 x41_2).f3.f0, (rd_T30 l0 x41_2).f3.f1⟩ : S28), (rd_T30 l0 x41_2).f4, (rd_T30 l0 x41_2).f5, (rd_T30 l0 x41_2).f6⟩ : S30) [.string ((rd_T30 l0 x41_2).f0), .int .i64 ((rd_T30 l0 x41_2).f1), .string ((rd_T30 l0 x41_2).f2), .int .i64 ((rd_T30 l0 x41_2).f3.f0), .int .i64 ((rd_T30 l0 x41_2).f3.f1), .int .i64 ((rd_T30 l0 x41_2).f4), .int .i64 ((rd_T30 l0 x41_2).f5), .int .i64 ((rd_T30 l0 x41_2).f6)] (fun k_ => k_ ≠ gb176 ∧ k_ ≠ gb188) (fun _ => False) rfl rfl ?aP (fun _ hk => hk.elim) ?aF ?aO ?aB ?aS ?aL ?_; (case aP => exact k30_mkM _ _ _ (⟨(rd_T30 l0 x41_2).f0, (rd_T30 l0 x41_2).f1, (rd_T30 l0 x41_2).f2, (⟨(rd_T30 l0 x41_2).f3.f0, (rd_T30 l0 x41_2).f3.f1⟩ : S28), (rd_T30 l0 x41_2).f4, (rd_T30 l0 x41_2).f5, (rd_T30 l0 x41_2).f6⟩ : S30)); (case aB => exact u9_5); (case aF => exact (fun k_ hk => ⟨Kd.freshB (g := gb176) (o := zo0 a1_0 a1_1 a1_2 a1_3 a1_4 a1_5 a1_6 a1_7) u9_3 k_ hk, Kd.freshB (g := gb188) (o := zo4 (rd_T30 l0 x41_2)) (by (with_reducible repeat (first | refine blk_drewN ?_ _ | refine blk_drew ?_ | refine blk_alloc ?_ _)); exact BK188.out) k_ hk⟩)); (case aO => exact (by (with_reducible repeat (first | apply Kd.R_alloc | apply Kd.R_drewN | apply Kd.R_drew)); exact HO194.out)); (case aS => exact (below_size u9_5)); (case aL => have := LMc50.out; omega); intro v196 w57 ho hb hg hat; rw [← Ny195.out] at ho; have n0_ := am (blk_grown (g := gb176) (o := zo0 a1_0 a1_1 a1_2 a1_3 a1_4 a1_5 a1_6 a1_7) u9_3 hg (Kd.R_away HO194.out (fun _ hk => hk.1))); have n1_ := am (blk_grown (g := gb188) (o := zo4 (rd_T30 l0 x41_2)) (by (with_reducible repeat (first | refine blk_drewN ?_ _ | refine blk_drew ?_ | refine blk_alloc ?_ _)); exact BK188.out) hg (Kd.R_away HO194.out (fun _ hk => hk.2))); have n2_ := am (hb); have n3_ := am (ho); clear BK176 BK188 HB HO194; have BK176 := n0_; have BK188 := n1_; have HB := n2_; have HO197 := n3_; clear n0_ n1_ n2_ n3_ ho hb hg hat))
             go_roundg k2
             case measure => have := HJ2.out; have := HK2.out; omega
             case rel => exact ⟨(y195), (true), (wrap64 (x41_2 + 1)), u9_7, u9_7, H', ⟨by have := HJ2.out; have := HK2.out; omega⟩, ⟨by (with_reducible repeat (first | apply Kd.R_alloc | apply Kd.R_drewN | apply Kd.R_drew)); exact Kd.R_mono HO197.out (fun _ hk => hk.1)⟩, ⟨by (with_reducible repeat (first | refine blk_drewN ?_ _ | refine blk_drew ?_ | refine blk_alloc ?_ _)); exact BK176.out⟩, ⟨s9_0⟩⟩
            ·rw [if_neg c50] at H
             exact absurd H (by simp)
           ·rw [if_neg c49] at H
            exact absurd H (by simp)
          ·rw [if_neg c48] at H
           have c48b0 : (Op.bytesLess a1_0.toList (((rd_T30 l0 x41_2).f0).toList)) = false := by simpa using c48
           have c48e : (Op.bytesLess (((rd_T30 l0 x41_2).f0).toList) a1_0.toList || (((rd_T30 l0 x41_2).f0).toList) == a1_0.toList) = true := blU_leT c48b0
           clear c48
           by_cases c58 : x6_2.length < 1759218604441
           ·rw [if_pos c58] at H
            have LMc58 := am c58
            clear c58
            obtain ⟨y198, hy198⟩ : ∃ y_ : List (S30), y_ = (x6_2 ++ [(⟨(rd_T30 l0 x41_2).f0, (rd_T30 l0 x41_2).f1, (rd_T30 l0 x41_2).f2, (⟨(rd_T30 l0 x41_2).f3.f0, (rd_T30 l0 x41_2).f3.f1⟩ : S28), (rd_T30 l0 x41_2).f4, (rd_T30 l0 x41_2).f5, (rd_T30 l0 x41_2).f6⟩ : S30)]) := ⟨_, rfl⟩
            replace H : (spec_AddDevice.l0 k2 y198 false l0 (l0.length : Int) (wrap64 (x41_2 + 1)) a1_0 a1_1 a1_2 a1_3 a1_4 a1_5 a1_6 a1_7) = some (r1, r2) := by first | (rw [hy198]; with_reducible exact H) | (have H2_ := (Option.bind_some _ _).symm.trans H; rw [hy198]; with_reducible exact H2_) | (have H2_ := (Option.bind_some _ _).symm.trans H; with_reducible exact H2_) | with_reducible exact H | (rw [hy198]; exact H) | exact H
            have Ny198 := am hy198
            clear hy198
            have H' := am H
            clear H
            have p187 : 0 ≤ (x41_2 : Int) := od (by assumption)
            have q187 : x41_2 < (l0.length : Int) := od (by assumption)
            obtain ⟨ad187, e187, hx187_0, hx187_1, hx187_2, hx187_3, hx187_4, hx187_5, hx187_6, hx187_7⟩ := at_T30 (Kd.C_below HR0.out HB.out) x41_2 p187 q187
            cases e187
            replace p187 := eq_true p187
            replace q187 := eq_true q187
            go_wp2_with (first | ((with_reducible refine gate_dst (N := 9) rfl ?_); (try (refine gate_guard (by rfl) ?_; dsimp only)); refine box_event ?hg (N := 9) ?hd (cs := #[.string (⟨#[]⟩ : ByteArray), .int .i64 0, .string (⟨#[]⟩ : ByteArray), .int .i64 0, .int .i64 0, .int .i64 0, .int .i64 0, .int .i64 0]) (t := 30) ?hr ?_; (case hd => rfl); (case hg => rfl); (case hr => exact gq); intro gb188 hg w59 hbox hb; have n0_ := am (Kd.R_below (Kd.R_elderB u9_9 gb188 (Nat.le_of_eq hg.symm)) hb); have n1_ := am (blk_below (g := gb176) (o := zo0 a1_0 a1_1 a1_2 a1_3 a1_4 a1_5 a1_6 a1_7) u9_3 hb); have n2_ := am (below_step u9_2 hb); have n3_ := am (hbox); have n4_ := bsw w hg (below_size u9_2); have n5_ := bsw w hg (below_size u9_2); have n6_ := am ((by rw [hg]; exact Nat.ne_of_lt (blk_lt (g := gb176) (o := zo0 a1_0 a1_1 a1_2 a1_3 a1_4 a1_5 a1_6 a1_7) u9_3) : gb176 ≠ gb188)); have n7_ := am ((by rw [hg]; exact Nat.ne_of_gt (blk_lt (g := gb176) (o := zo0 a1_0 a1_1 a1_2 a1_3 a1_4 a1_5 a1_6 a1_7) u9_3) : gb188 ≠ gb176)); clear HO_6 BK176 HB; have HO_6 := n0_; have BK176 := n1_; have HB := n2_; have BK188 := n3_; have GW188 := n4_; have GE188 := n5_; have NB176_188 := n6_; have NB188_176 := n7_; clear n0_ n1_ n2_ n3_ n4_ n5_ n6_ n7_ hb hbox hg; have hnb60 := NB188_176.out; have hnc60 := NB176_188.out; obtain ⟨hcz61_0, hcz61_1, hcz61_2, hcz61_3, hcz61_4, hcz61_5, hcz61_6, hcz61_7, hfz61_0, hfz61_1, hfz61_2, hfz61_3, hfz61_4, hfz61_5, hfz61_6, hfz61_7⟩ := cf8 BK188.out; obtain ⟨hcz62_0, hcz62_1, hcz62_2, hcz62_3, hcz62_4, hcz62_5, hcz62_6, hcz62_7, hfz62_0, hfz62_1, hfz62_2, hfz62_3, hfz62_4, hfz62_5, hfz62_6, hfz62_7⟩ := cf8 BK176.out) | ((with_reducible refine gate_builtin (b := .append) (xs := #[.tmp 58, .tmp 60]) rfl ?_); (try (refine gate_guard (by rfl) ?_; dsimp only)); at_builtin; refine Kd.R_append k30 (w0 := w) w.heap.size rfl (.tmp 58) (.tmp 60) 36 30 (.agg #[(.string ⟨#[]⟩), (.int .i64 0), (.string ⟨#[]⟩), (.int .i64 0), (.int .i64 0), (.int .i64 0), (.int .i64 0), (.int .i64 0)]) 80 rfl Try.underlying36 info30 rfl (by decide) (by omega) u6 x6_2 (⟨(rd_T30 l0 x41_2).f0, (rd_T30 l0 x41_2).f1, (rd_T30 l0 x41_2).f2, (⟨(rd_T30 l0 x41_2).f3.f0, (rd_T30 l0 x41_2).f3.f1⟩ : S28), (rd_T30 l0 x41_2).f4, (rd_T30 l0 x41_2).f5, (rd_T30 l0 x41_2).f6⟩ : S30) [.string ((rd_T30 l0 x41_2).f0), .int .i64 ((rd_T30 l0 x41_2).f1), .string ((rd_T30 l0 x41_2).f2), .int .i64 ((rd_T30 l0 x41_2).f3.f0), .int .i64 ((rd_T30 l0 x41_2).f3.f1), .int .i64 ((rd_T30 l0 x41_2).f4), .int .i64 ((rd_T30 l0 x41_2).f5), .int .i64 ((rd_T30 l0 x41_2).f6)] (fun k_ => k_ ≠ gb176 ∧ k_ ≠ gb188) (fun _ => False) rfl (by first | (go_simp; done) | (go_simp; rfl)) ?aP (fun _ hk => hk.elim) ?aF ?aO ?aB ?aS ?aL ?_; (case aP => exact k30_mkM _ _ _ (⟨(rd_T30 l0 x41_2).f0, (rd_T30 l0 x41_2).f1, (rd_T30 l0 x41_2).f2, (⟨(rd_T30 l0 x41_2).f3.f0, (rd_T30 l0 x41_2).f3.f1⟩ : S28), (rd_T30 l0 x41_2).f4, (rd_T30 l0 x41_2).f5, (rd_T30 l0 x41_2).f6⟩ : S30)); (case aB => exact u9_5); (case aF => exact (fun k_ hk => ⟨Kd.freshB (g := gb176) (o := zo0 a1_0 a1_1 a1_2 a1_3 a1_4 a1_5 a1_6 a1_7) u9_1 k_ hk, Kd.freshB (g := gb188) (o := zo4 (rd_T30 l0 x41_2)) u9_0 k_ hk⟩)); (case aO => exact u9_4); (case aS => exact (below_size u9_5)); (case aL => have := LMc58.out; omega); intro v199 w63 ho hb hg hat; rw [← Ny198.out] at ho; have n0_ := am (blk_grown (g := gb176) (o := zo0 a1_0 a1_1 a1_2 a1_3 a1_4 a1_5 a1_6 a1_7) u9_1 hg (Kd.R_away HO_6.out (fun _ hk => hk.1))); have n1_ := am (blk_grown (g := gb188) (o := zo4 (rd_T30 l0 x41_2)) u9_0 hg (Kd.R_away HO_6.out (fun _ hk => hk.2))); have n2_ := am (hb); have n3_ := am (ho); clear BK176 BK188 HB HO_6; have BK176 := n0_; have BK188 := n1_; have HB := n2_; have HO200 := n3_; clear n0_ n1_ n2_ n3_ ho hb hg hat))
            go_roundg k2
            case measure => have := HJ2.out; have := HK2.out; omega
            case rel => exact ⟨(y198), (false), (wrap64 (x41_2 + 1)), u9_7, u9_7, H', ⟨by have := HJ2.out; have := HK2.out; omega⟩, ⟨by (with_reducible repeat (first | apply Kd.R_alloc | apply Kd.R_drewN | apply Kd.R_drew)); exact Kd.R_mono HO200.out (fun _ hk => hk.1)⟩, ⟨by (with_reducible repeat (first | refine blk_drewN ?_ _ | refine blk_drew ?_ | refine blk_alloc ?_ _)); exact BK176.out⟩, ⟨s9_0⟩⟩
           ·rw [if_neg c58] at H
            exact absurd H (by simp)
        ·rw [if_neg c41] at H
         exact absurd H (by simp)
       ·rw [if_neg c40] at H
        exact absurd H (by simp)
      ·rw [if_neg c39] at H
       have c39b0 : decide (x41_2 < (l0.length : Int)) = false := decide_eq_false c39
       clear c39
       by_cases c64 : x7_2 = true
       ·subst c64
        have H1 : (some (x6_2, true)) = some (r1, r2) := by rw [if_pos rfl] at H; exact H
        clear H
        have H := H1
        clear H1
        simp only [Option.some.injEq, Prod.mk.injEq] at H
        obtain ⟨rfl, rfl⟩ := H
        go_wp2
        go_ret2
        exact ⟨_, by first | rfl | (simp [*] <;> rfl), by (with_reducible repeat (first | apply Kd.R_alloc | apply Kd.R_drewN | apply Kd.R_drew)); exact Kd.R_mono HO_6.out (fun _ hk => trivial), s9_3⟩
       ·replace c64 := Bool.eq_false_iff.mpr c64
        subst c64
        have H1 : (if x6_2.length < 1759218604441 then (some ((x6_2 ++ [(⟨a1_0, a1_1, a1_2, (⟨a1_3, a1_4⟩ : S28), a1_5, a1_6, a1_7⟩ : S30)]), true)) else (none)) = some (r1, r2) := by rw [if_neg (show ¬ (false = true) by decide)] at H; exact H
        clear H
        have H := H1
        clear H1
        by_cases c65 : x6_2.length < 1759218604441
        ·rw [if_pos c65] at H
         have LMc65 := am c65
         clear c65
         obtain ⟨y201, hy201⟩ : ∃ y_ : List (S30), y_ = (x6_2 ++ [(⟨a1_0, a1_1, a1_2, (⟨a1_3, a1_4⟩ : S28), a1_5, a1_6, a1_7⟩ : S30)]) := ⟨_, rfl⟩
         replace H : (some (y201, true)) = some (r1, r2) := by first | (rw [hy201]; with_reducible exact H) | (have H2_ := (Option.bind_some _ _).symm.trans H; rw [hy201]; with_reducible exact H2_) | (have H2_ := (Option.bind_some _ _).symm.trans H; with_reducible exact H2_) | with_reducible exact H | (rw [hy201]; exact H) | exact H
         have Ny201 := am hy201
         clear hy201
         simp only [Option.some.injEq, Prod.mk.injEq] at H
         obtain ⟨rfl, rfl⟩ := H
         obtain ⟨hcz66_0, hcz66_1, hcz66_2, hcz66_3, hcz66_4, hcz66_5, hcz66_6, hcz66_7, hfz66_0, hfz66_1, hfz66_2, hfz66_3, hfz66_4, hfz66_5, hfz66_6, hfz66_7⟩ := cf8 BK176.out
         go_wp2_with (first | ((with_reducible refine gate_builtin (b := .append) (xs := #[.tmp 65, .tmp 67]) rfl ?_); (try (refine gate_guard (by rfl) ?_; dsimp only)); at_builtin; refine Kd.R_append k30 (w0 := w) w.heap.size rfl (.tmp 65) (.tmp 67) 36 30 (.agg #[(.string ⟨#[]⟩), (.int .i64 0), (.string ⟨#[]⟩), (.int .i64 0), (.int .i64 0), (.int .i64 0), (.int .i64 0), (.int .i64 0)]) 80 rfl Try.underlying36 info30 rfl (by decide) (by omega) u6 x6_2 (⟨a1_0, a1_1, a1_2, (⟨a1_3, a1_4⟩ : S28), a1_5, a1_6, a1_7⟩ : S30) [.string a1_0, .int .i64 a1_1, .string a1_2, .int .i64 a1_3, .int .i64 a1_4, .int .i64 a1_5, .int .i64 a1_6, .int .i64 a1_7] (fun k_ => k_ ≠ gb176) (fun _ => False) rfl rfl ?aP (fun _ hk => hk.elim) ?aF ?aO ?aB ?aS ?aL ?_; (case aP => exact k30_mkM _ _ _ (⟨a1_0, a1_1, a1_2, (⟨a1_3, a1_4⟩ : S28), a1_5, a1_6, a1_7⟩ : S30)); (case aB => exact u9_2); (case aF => exact (fun k_ hk => Kd.freshB (g := gb176) (o := zo0 a1_0 a1_1 a1_2 a1_3 a1_4 a1_5 a1_6 a1_7) u9_3 k_ hk)); (case aO => exact u9_9); (case aS => exact (below_size u9_2)); (case aL => have := LMc65.out; omega); intro v202 w67 ho hb hg hat; rw [← Ny201.out] at ho; have n0_ := am (blk_grown (g := gb176) (o := zo0 a1_0 a1_1 a1_2 a1_3 a1_4 a1_5 a1_6 a1_7) u9_3 hg (Kd.R_away HO_6.out (fun _ hk => hk))); have n1_ := am (hb); have n2_ := am (ho); clear BK176 HB HO_6; have BK176 := n0_; have HB := n1_; have HO203 := n2_; clear n0_ n1_ n2_ ho hb hg hat))
         go_ret2
         exact ⟨_, by first | rfl | (simp [*] <;> rfl), by (with_reducible repeat (first | apply Kd.R_alloc | apply Kd.R_drewN | apply Kd.R_drew)); exact Kd.R_mono HO203.out (fun _ hk => trivial), s9_3⟩
        ·rw [if_neg c65] at H
         exact absurd H (by simp)

/-- A state of type 95 at block g of W; what its slices lead to came in by w0. -/
def IsS95 (w0 W : World) (g : Nat) (f0 : List Int) (f1 : Int) (f2 : Int) : Prop := ∃ A0 c0, W.heap[g]? = some (.cells #[.slice A0 f0.length c0, .int .i64 f1, .int .i64 f2] 95 (0, 0)) ∧ w0.heap.size ≤ g ∧ Kd.C (Kd.int .u8) w0 A0 f0.length f0
theorem IsS95.grown {w0 W : World} {g : Nat} {f0 : List Int} {f1 : Int} {f2 : Int} {W1 : World} {row : Option Nat} (h : IsS95 w0 W g f0 f1 f2) (hw : W.grownBy W1 row) (hne : some g ≠ row) : IsS95 w0 W1 g f0 f1 f2 := by
 obtain ⟨A0, c0, hb, hg, hr0⟩ := h
 exact ⟨A0, c0, blk_grown hb hw hne, hg, hr0⟩
theorem IsS95.own_neN {w0 W : World} {g : Nat} {f0 : List Int} {f1 : Int} {f2 : Int} {α : Type} {d : Kd α} {e : Nat} {base : Nat} {ok : Nat → Prop} {v : Value} {xs : List α} (h : IsS95 w0 W g f0 f1 f2) (ho : Kd.N d e W base ok v xs) (ht : e ≠ 95) : some g ≠ v.ownBlock := by
 obtain ⟨A0, c0, hb, hg, hr0⟩ := h
 exact Kd.N_ne ho hb ht
theorem IsS95.fresh {w0 W : World} {g : Nat} {f0 : List Int} {f1 : Int} {f2 : Int} (h : IsS95 w0 W g f0 f1 f2) : ∀ k, W.heap.size ≤ k → k ≠ g := by
 obtain ⟨A0, c0, hb, hg, hr0⟩ := h
 exact Kd.freshB hb
theorem IsS95.kept {w0 W : World} {g : Nat} {f0 : List Int} {f1 : Int} {f2 : Int} {W1 : World} {S : Nat → Prop} (h : IsS95 w0 W g f0 f1 f2) (hk : Kept W W1 S) (hne : ¬ S g) : IsS95 w0 W1 g f0 f1 f2 := by
 obtain ⟨A0, c0, hb, hg, hr0⟩ := h
 exact ⟨A0, c0, blk_kept hb hk hne, hg, hr0⟩
theorem IsS95.below {w0 W : World} {g : Nat} {f0 : List Int} {f1 : Int} {f2 : Int} {W1 : World} (h : IsS95 w0 W g f0 f1 f2) (hw : Below W.heap.size W W1) : IsS95 w0 W1 g f0 f1 f2 := h.grown (grown_of_below hw none) (by simp)
theorem IsS95.alloc {w0 W : World} {g : Nat} {f0 : List Int} {f1 : Int} {f2 : Int} (h : IsS95 w0 W g f0 f1 f2) (o : Obj) : IsS95 w0 (W.alloc o) g f0 f1 f2 := h.below (below_alloc (Below.refl _ _) o)
theorem IsS95.drewN {w0 W : World} {g : Nat} {f0 : List Int} {f1 : Int} {f2 : Int} (h : IsS95 w0 W g f0 f1 f2) (m : Nat) : IsS95 w0 (W.drewN m) g f0 f1 f2 := h
theorem IsS95.drew {w0 W : World} {g : Nat} {f0 : List Int} {f1 : Int} {f2 : Int} (h : IsS95 w0 W g f0 f1 f2) : IsS95 w0 W.drew g f0 f1 f2 := h
theorem IsS95.at_ {w0 W : World} {g : Nat} {f0 : List Int} {f1 : Int} {f2 : Int} {w' : World} {m : Nat} (hq : W.drewN m = w') (h : IsS95 w0 W g f0 f1 f2) : IsS95 w0 w' g f0 f1 f2 := by subst hq; exact IsS95.drewN h m
theorem IsS95.apart {w0 W : World} {g : Nat} {f0 : List Int} {f1 : Int} {f2 : Int} {α : Type} {d : Kd α} {e : Nat} {base : Nat} {ok : Nat → Prop} {v : Value} {xs : List α} (h : IsS95 w0 W g f0 f1 f2) (ho : d.R e W base ok v xs) (ht : ∀ q, q ∈ e :: d.E → q ≠ 95) : d.R e W base (fun k => ok k ∧ k ≠ g) v xs := by
 obtain ⟨A0, c0, hb, hg, hr0⟩ := h
 exact Kd.R_types ho hb ht
theorem IsS95.own_ne {w0 W : World} {g : Nat} {f0 : List Int} {f1 : Int} {f2 : Int} {α : Type} {d : Kd α} {e : Nat} {base : Nat} {ok : Nat → Prop} {v : Value} {xs : List α} (h : IsS95 w0 W g f0 f1 f2) (ho : d.R e W base ok v xs) (ht : e ≠ 95) : some g ≠ v.ownBlock := by
 obtain ⟨A0, c0, hb, hg, hr0⟩ := h
 exact Kd.R_ne ho hb ht
theorem IsS95.apartQ {w0 W : World} {g : Nat} {f0 : List Int} {f1 : Int} {f2 : Int} {α : Type} {d : Kd α} {e : Nat} {base : Nat} {ok : Nat → Prop} {v : Value} {xs : List α} (h : IsS95 w0 W g f0 f1 f2) (ho : d.Q e W base ok v xs) (ht : ∀ q, q ∈ e :: d.E → q ≠ 95) : d.Q e W base (fun k => ok k ∧ k ≠ g) v xs := by
 obtain ⟨A0, c0, hb, hg, hr0⟩ := h
 exact Kd.Q_types ho hb ht
theorem IsS95.own_neQ {w0 W : World} {g : Nat} {f0 : List Int} {f1 : Int} {f2 : Int} {α : Type} {d : Kd α} {e : Nat} {base : Nat} {ok : Nat → Prop} {v : Value} {xs : List α} (h : IsS95 w0 W g f0 f1 f2) (ho : d.Q e W base ok v xs) (ht : e ≠ 95) : some g ≠ v.ownBlock := by
 obtain ⟨A0, c0, hb, hg, hr0⟩ := h
 exact Kd.Q_ne ho hb ht
theorem IsS95.apartS {w0 W : World} {g : Nat} {f0 : List Int} {f1 : Int} {f2 : Int} {α : Type} {d : Kd α} {e : Nat} {base : Nat} {ok : Nat → Prop} {v : Value} {xs : List α} (h : IsS95 w0 W g f0 f1 f2) (ho : d.S e W base ok v xs) (ht : ∀ q, q ∈ e :: d.E → q ≠ 95) : d.S e W base (fun k => ok k ∧ k ≠ g) v xs := by
 obtain ⟨A0, c0, hb, hg, hr0⟩ := h
 exact Kd.S_types ho hb ht
theorem IsS95.own_neS {w0 W : World} {g : Nat} {f0 : List Int} {f1 : Int} {f2 : Int} {α : Type} {d : Kd α} {e : Nat} {base : Nat} {ok : Nat → Prop} {v : Value} {xs : List α} (h : IsS95 w0 W g f0 f1 f2) (ho : d.S e W base ok v xs) (ht : e ≠ 95) : some g ≠ v.ownBlock := by
 obtain ⟨A0, c0, hb, hg, hr0⟩ := h
 exact Kd.S_ne ho hb ht
theorem IsS95.lt {w0 W : World} {g : Nat} {f0 : List Int} {f1 : Int} {f2 : Int} (h : IsS95 w0 W g f0 f1 f2) : g < W.heap.size := by
 obtain ⟨A0, c0, hb, hg, hr0⟩ := h
 exact blk_lt hb
theorem IsS95.ge {w0 W : World} {g : Nat} {f0 : List Int} {f1 : Int} {f2 : Int} (h : IsS95 w0 W g f0 f1 f2) : w0.heap.size ≤ g := by
 obtain ⟨A0, c0, hb, hg, hr0⟩ := h
 exact hg
theorem IsS95.ne_blk {w0 W : World} {g : Nat} {f0 : List Int} {f1 : Int} {f2 : Int} {a : Nat} {cs : Array Value} {t : TypeId} {fr : Nat × Nat} (h : IsS95 w0 W g f0 f1 f2) (hb2 : W.heap[a]? = some (.cells cs t fr)) (ht : t ≠ 95) : g ≠ a := by
 obtain ⟨A0, c0, hb, hg, hr0⟩ := h
 rintro rfl
 rw [hb] at hb2
 injection hb2 with hb2
 injection hb2 with _ ht2
 exact ht ht2.symm
theorem IsS95.far {w0 W : World} {g : Nat} {f0 : List Int} {f1 : Int} {f2 : Int} {p : Addr} (h : IsS95 w0 W g f0 f1 f2) (hne : g ≠ p.block) (u : Value) : IsS95 w0 (W.setCell p u) g f0 f1 f2 := by
 obtain ⟨A0, c0, hb, hg, hr0⟩ := h
 exact ⟨A0, c0, blk_far hb hne u, hg, hr0⟩
theorem cellS95_0 {W : World} {g : Nat} {A0 : Option Addr} {c0 : Nat} {f0 : List Int} {f1 : Int} {f2 : Int} (h : W.heap[g]? = some (.cells #[.slice A0 f0.length c0, .int .i64 f1, .int .i64 f2] 95 (0, 0))) : W.cell? ⟨g, 0, none⟩ = some (.slice A0 f0.length c0) := (blk_cell h 0).trans rfl
theorem cellS95_1 {W : World} {g : Nat} {A0 : Option Addr} {c0 : Nat} {f0 : List Int} {f1 : Int} {f2 : Int} (h : W.heap[g]? = some (.cells #[.slice A0 f0.length c0, .int .i64 f1, .int .i64 f2] 95 (0, 0))) : W.cell? ⟨g, 1, none⟩ = some (.int .i64 f1) := (blk_cell h 1).trans rfl
theorem IsS95.set_1 {w0 W : World} {g : Nat} {f0 : List Int} {f1 : Int} {f2 : Int} (h : IsS95 w0 W g f0 f1 f2) (x : Int) : IsS95 w0 (W.setCell ⟨g, 1, none⟩ (.int .i64 x)) g f0 x f2 := by
 obtain ⟨A0, c0, hb, hg, hr0⟩ := h
 exact ⟨A0, c0, by simpa using blk_set hb 1 (.int .i64 x), hg, hr0⟩
theorem cellS95_2 {W : World} {g : Nat} {A0 : Option Addr} {c0 : Nat} {f0 : List Int} {f1 : Int} {f2 : Int} (h : W.heap[g]? = some (.cells #[.slice A0 f0.length c0, .int .i64 f1, .int .i64 f2] 95 (0, 0))) : W.cell? ⟨g, 2, none⟩ = some (.int .i64 f2) := (blk_cell h 2).trans rfl
theorem IsS95.set_2 {w0 W : World} {g : Nat} {f0 : List Int} {f1 : Int} {f2 : Int} (h : IsS95 w0 W g f0 f1 f2) (x : Int) : IsS95 w0 (W.setCell ⟨g, 2, none⟩ (.int .i64 x)) g f0 f1 x := by
 obtain ⟨A0, c0, hb, hg, hr0⟩ := h
 exact ⟨A0, c0, by simpa using blk_set hb 2 (.int .i64 x), hg, hr0⟩
theorem IsS95.new (w0 W : World) (A0 : Option Addr) (c0 : Nat) (f0 : List Int) (f1 : Int) (f2 : Int) (hB : Below w0.heap.size w0 W) (hr0 : Kd.C (Kd.int .u8) w0 A0 f0.length f0) : IsS95 w0 (W.alloc (.cells #[.slice A0 f0.length c0, .int .i64 f1, .int .i64 f2] 95)) W.heap.size f0 f1 f2 := ⟨A0, c0, by simpa using heap_alloc_new W _, hB.size, hr0⟩

/-! ### spec_l1Byte: function 102 -/
def spec_l1Byte.f (s0_0 : List Int) (s0_1 : Int) (s0_2 : Int) : Option (Int × Int × Int) := if s0_1 < (s0_0.length : Int) then (if 0 ≤ s0_1 then (some (Go.bits .and .i64 (wrap64 ((Go.bits .and .i64 (Go.bits .xor .i64 ((wrap64 ((wrap64 (s0_2 * 6364136223846793005)) + 1442695040888963407)) / 34359738368) ((wrap64 ((wrap64 (s0_2 * 6364136223846793005)) + 1442695040888963407)) / 35184372088832)) 255) + (wrap64 (rd s0_0 s0_1)))) 255, wrap64 (s0_1 + 1), wrap64 ((wrap64 (s0_2 * 6364136223846793005)) + 1442695040888963407))) else (none)) else (some (Go.bits .and .i64 (Go.bits .xor .i64 ((wrap64 ((wrap64 (s0_2 * 6364136223846793005)) + 1442695040888963407)) / 34359738368) ((wrap64 ((wrap64 (s0_2 * 6364136223846793005)) + 1442695040888963407)) / 35184372088832)) 255, s0_1, wrap64 ((wrap64 (s0_2 * 6364136223846793005)) + 1442695040888963407)))
set_option maxHeartbeats 8000000 in
set_option maxRecDepth 100000 in
theorem spec_l1Byte.calls (g : Nat) (s0_0 : List Int) (s0_1 : Int) (s0_2 : Int) (r1 : Int) (r2 : Int) (r3 : Int) (w0 w : World) (hI : IsS95 w0 w g s0_0 s0_1 s0_2) (hB : Below w0.heap.size w0 w) (h : spec_l1Byte.f s0_0 s0_1 s0_2 = some (r1, r2, r3)) :
  Calls Try.prog 102 #[.pointer (some ⟨g, 0, none⟩)] w fun e w' => e = .returned (.int .i64 r1) ∧ IsS95 w0 w' g s0_0 r2 r3 ∧ Below w0.heap.size w0 w' ∧ KeepBut w w' g none := by
 have HI0 := am hI
 have HK := am (KeepBut.refl w g none)
 have HL := am hB.size
 clear hI
 have HW0 := am hB.size
 have HB := am hB
 clear hB
 have H : (if s0_1 < (s0_0.length : Int) then (if 0 ≤ s0_1 then (some (Go.bits .and .i64 (wrap64 ((Go.bits .and .i64 (Go.bits .xor .i64 ((wrap64 ((wrap64 (s0_2 * 6364136223846793005)) + 1442695040888963407)) / 34359738368) ((wrap64 ((wrap64 (s0_2 * 6364136223846793005)) + 1442695040888963407)) / 35184372088832)) 255) + (wrap64 (rd s0_0 s0_1)))) 255, wrap64 (s0_1 + 1), wrap64 ((wrap64 (s0_2 * 6364136223846793005)) + 1442695040888963407))) else (none)) else (some (Go.bits .and .i64 (Go.bits .xor .i64 ((wrap64 ((wrap64 (s0_2 * 6364136223846793005)) + 1442695040888963407)) / 34359738368) ((wrap64 ((wrap64 (s0_2 * 6364136223846793005)) + 1442695040888963407)) / 35184372088832)) 255, s0_1, wrap64 ((wrap64 (s0_2 * 6364136223846793005)) + 1442695040888963407)))) = some (r1, r2, r3) := h
 clear h
 by_cases c2 : s0_1 < (s0_0.length : Int)
 ·rw [if_pos c2] at H
  have c2b0 : decide (s0_1 < (s0_0.length : Int)) = true := decide_eq_true c2
  clear c2
  by_cases c3 : 0 ≤ s0_1
  ·rw [if_pos c3] at H
   have c3b0 : decide (0 ≤ s0_1) = true := decide_eq_true c3
   clear c3
   simp only [Option.some.injEq, Prod.mk.injEq] at H
   obtain ⟨rfl, rfl, rfl⟩ := H
   obtain ⟨ASz4_0, cSz4_0, HGz4, hgz4, HSz4_0⟩ := HI0.out
   have hcz4_0 := cellS95_0 HGz4
   have hcz4_1 := cellS95_1 HGz4
   have hcz4_2 := cellS95_2 HGz4
   have hfz4_1 := blk_frozen HGz4 1
   have hfz4_2 := blk_frozen HGz4 2
   clear HGz4 hgz4
   have p204 : 0 ≤ (s0_1 : Int) := od (by assumption)
   have q204 : s0_1 < (s0_0.length : Int) := od (by assumption)
   obtain ⟨ad204, e204, hx204_0⟩ := Kd.at_int HSz4_0 s0_1 p204 q204
   cases e204
   have hn204_0 : ad204.block ≠ g := Nat.ne_of_lt (Nat.lt_of_lt_of_le (by have := World.block_lt_of_cell? _ _ hx204_0; first | rwa [add_block] at this | exact this) (IsS95.ge HI0.out))
   replace hx204_0 := pw_cell_below HB.out hx204_0
   replace hx204_0 := (cell_far (p := ⟨g, 2, none⟩) (by first | (rw [add_block]; exact hn204_0) | (show (Addr.add _ _).block ≠ _; rw [add_block]; exact hn204_0) | exact hn204_0) (.int .i64 (wrap64 ((wrap64 (s0_2 * 6364136223846793005)) + 1442695040888963407)))).trans hx204_0
   (try have hy204_0 := fun (n_ : Nat) => (show (((w.drewN n_).setCell ⟨g, 2, none⟩ (.int .i64 (wrap64 ((wrap64 (s0_2 * 6364136223846793005)) + 1442695040888963407))))).cell? _ = some _ from hx204_0))
   clear hn204_0
   replace p204 := eq_true p204
   replace q204 := eq_true q204
   go_enter Try.func102, Try.ntmps102
   go_wp2
   repeat (go_quiet (fail); try go_wp2)
   go_ret
   exact ⟨by first | rfl | (simp [*] <;> rfl), s9_2, s9_1, s9_4⟩
  ·rw [if_neg c3] at H
   exact absurd H (by simp)
 ·rw [if_neg c2] at H
  have c2b0 : decide (s0_1 < (s0_0.length : Int)) = false := decide_eq_false c2
  clear c2
  simp only [Option.some.injEq, Prod.mk.injEq] at H
  obtain ⟨rfl, rfl, rfl⟩ := H
  obtain ⟨ASz5_0, cSz5_0, HGz5, hgz5, HSz5_0⟩ := HI0.out
  have hcz5_0 := cellS95_0 HGz5
  have hcz5_1 := cellS95_1 HGz5
  have hcz5_2 := cellS95_2 HGz5
  have hfz5_1 := blk_frozen HGz5 1
  have hfz5_2 := blk_frozen HGz5 2
  clear HGz5 hgz5
  go_enter Try.func102, Try.ntmps102
  go_wp2
  repeat (go_quiet (fail); try go_wp2)
  go_ret
  exact ⟨by first | rfl | (simp [*] <;> rfl), s9_2, s9_1, s9_4⟩

end Go.Proofs.Ytkedcokhcgklpaa.MFnLines
