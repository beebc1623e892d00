-- Written by a program for this claim.
import Derived.Laws.Cover1
import Derived.Test.YtkedcokhcgklpaaMFnExactAddDevicex0
import Derived.Test.YtkedcokhcgklpaaMFnExactAddDevicex6
import Derived.Test.YtkedcokhcgklpaaMFnExactAddDevicex7
namespace Go.Proofs.Ytkedcokhcgklpaa.MFnExactAddDevice
open Go.RowKit Go.Proofs.YtkedcokhcgklpaaW.PrintWords Go.Proofs.YtkedcokhcgklpaaW.PrintLast Go.Proofs.YtkedcokhcgklpaaW.PrintMore
attribute [local go_sem] max2_int min2_int max_two min_two max_three min_three max_four min_four   -- for this text's walks alone
set_option linter.unusedVariables false
set_option linter.unusedSimpArgs false

theorem y8_0 {p : Prop} (h : p := by repeat (first | exact (Kd.C_below HR0.out HB.out) | (with_reducible refine Kd.C_alloc ?_ _) | (with_reducible refine Kd.C_drewN ?_ _) | (with_reducible refine Kd.C_drew ?_))) : p := h
theorem u8_0 {p : Prop} (h : p := by (with_reducible repeat (first | refine blk_drewN ?_ _ | refine blk_drew ?_ | refine blk_alloc ?_ _)); refine blk_put (cs := #[.string ((rd_T30 l0 x41_2).f0), .int .i64 ((rd_T30 l0 x41_2).f1), .string ((rd_T30 l0 x41_2).f2), .int .i64 ((rd_T30 l0 x41_2).f3.f0), .int .i64 ((rd_T30 l0 x41_2).f3.f1), .int .i64 ((rd_T30 l0 x41_2).f4), .int .i64 ((rd_T30 l0 x41_2).f5), .int .i64 0]) ?_ 7 _ rfl; refine blk_put (cs := #[.string ((rd_T30 l0 x41_2).f0), .int .i64 ((rd_T30 l0 x41_2).f1), .string ((rd_T30 l0 x41_2).f2), .int .i64 ((rd_T30 l0 x41_2).f3.f0), .int .i64 ((rd_T30 l0 x41_2).f3.f1), .int .i64 ((rd_T30 l0 x41_2).f4), .int .i64 0, .int .i64 0]) ?_ 6 _ rfl; refine blk_put (cs := #[.string ((rd_T30 l0 x41_2).f0), .int .i64 ((rd_T30 l0 x41_2).f1), .string ((rd_T30 l0 x41_2).f2), .int .i64 ((rd_T30 l0 x41_2).f3.f0), .int .i64 ((rd_T30 l0 x41_2).f3.f1), .int .i64 0, .int .i64 0, .int .i64 0]) ?_ 5 _ rfl; refine blk_put (cs := #[.string ((rd_T30 l0 x41_2).f0), .int .i64 ((rd_T30 l0 x41_2).f1), .string ((rd_T30 l0 x41_2).f2), .int .i64 ((rd_T30 l0 x41_2).f3.f0), .int .i64 0, .int .i64 0, .int .i64 0, .int .i64 0]) ?_ 4 _ rfl; refine blk_put (cs := #[.string ((rd_T30 l0 x41_2).f0), .int .i64 ((rd_T30 l0 x41_2).f1), .string ((rd_T30 l0 x41_2).f2), .int .i64 0, .int .i64 0, .int .i64 0, .int .i64 0, .int .i64 0]) ?_ 3 _ rfl; refine blk_put (cs := #[.string ((rd_T30 l0 x41_2).f0), .int .i64 ((rd_T30 l0 x41_2).f1), .string (⟨#[]⟩ : ByteArray), .int .i64 0, .int .i64 0, .int .i64 0, .int .i64 0, .int .i64 0]) ?_ 2 _ rfl; (with_reducible repeat (first | refine blk_drewN ?_ _ | refine blk_drew ?_ | refine blk_alloc ?_ _)); refine blk_put (cs := #[.string ((rd_T30 l0 x41_2).f0), .int .i64 0, .string (⟨#[]⟩ : ByteArray), .int .i64 0, .int .i64 0, .int .i64 0, .int .i64 0, .int .i64 0]) ?_ 1 _ rfl; (with_reducible repeat (first | refine blk_drewN ?_ _ | refine blk_drew ?_ | refine blk_alloc ?_ _)); refine blk_put (cs := #[.string (⟨#[]⟩ : ByteArray), .int .i64 0, .string (⟨#[]⟩ : ByteArray), .int .i64 0, .int .i64 0, .int .i64 0, .int .i64 0, .int .i64 0]) ?_ 0 _ rfl; (with_reducible repeat (first | refine blk_drewN ?_ _ | refine blk_drew ?_ | refine blk_alloc ?_ _)); exact BK205.out) : p := h
theorem u8_1 {p : Prop} (h : p := by (with_reducible repeat (first | refine blk_drewN ?_ _ | refine blk_drew ?_ | refine blk_alloc ?_ _)); refine blk_far ?_ NB193_205.out _; (with_reducible repeat (first | refine blk_drewN ?_ _ | refine blk_drew ?_ | refine blk_alloc ?_ _)); refine blk_far ?_ NB193_205.out _; (with_reducible repeat (first | refine blk_drewN ?_ _ | refine blk_drew ?_ | refine blk_alloc ?_ _)); refine blk_far ?_ NB193_205.out _; (with_reducible repeat (first | refine blk_drewN ?_ _ | refine blk_drew ?_ | refine blk_alloc ?_ _)); refine blk_far ?_ NB193_205.out _; (with_reducible repeat (first | refine blk_drewN ?_ _ | refine blk_drew ?_ | refine blk_alloc ?_ _)); refine blk_far ?_ NB193_205.out _; (with_reducible repeat (first | refine blk_drewN ?_ _ | refine blk_drew ?_ | refine blk_alloc ?_ _)); refine blk_far ?_ NB193_205.out _; (with_reducible repeat (first | refine blk_drewN ?_ _ | refine blk_drew ?_ | refine blk_alloc ?_ _)); refine blk_far ?_ NB193_205.out _; (with_reducible repeat (first | refine blk_drewN ?_ _ | refine blk_drew ?_ | refine blk_alloc ?_ _)); refine blk_far ?_ NB193_205.out _; (with_reducible repeat (first | refine blk_drewN ?_ _ | refine blk_drew ?_ | refine blk_alloc ?_ _)); exact BK193.out) : p := h
theorem u8_2 {p : Prop} (h : p := by repeat (first | (with_reducible first | exact HB.out | apply below_alloc | apply pw_below_drewN | apply below_drew1 | refine below_set ?_ GE193.out) | exact HB.out)) : p := h
theorem u8_3 {p : Prop} (h : p := by (with_reducible repeat (first | refine blk_drewN ?_ _ | refine blk_drew ?_ | refine blk_alloc ?_ _)); exact BK193.out) : p := h
theorem u8_4 {p : Prop} (h : p := by (with_reducible repeat (first | apply Kd.R_alloc | apply Kd.R_drewN | apply Kd.R_drew)); exact Kd.R_mono (Kd.R_far (p := ⟨gb205, 7, none⟩) (Kd.R_far (p := ⟨gb205, 6, none⟩) (Kd.R_far (p := ⟨gb205, 5, none⟩) (Kd.R_far (p := ⟨gb205, 4, none⟩) (Kd.R_far (p := ⟨gb205, 3, none⟩) (Kd.R_far (p := ⟨gb205, 2, none⟩) (Kd.R_far (p := ⟨gb205, 1, none⟩) (Kd.R_far (p := ⟨gb205, 0, none⟩) (Kd.R_mono HO_6.out (fun k_ hk => (⟨hk, hk.2⟩ : _ ∧ k_ ≠ gb205))) (fun _ hk => hk.2) (.string ((rd_T30 l0 x41_2).f0))) (fun _ hk => hk.2) (.int .i64 ((rd_T30 l0 x41_2).f1))) (fun _ hk => hk.2) (.string ((rd_T30 l0 x41_2).f2))) (fun _ hk => hk.2) (.int .i64 ((rd_T30 l0 x41_2).f3.f0))) (fun _ hk => hk.2) (.int .i64 ((rd_T30 l0 x41_2).f3.f1))) (fun _ hk => hk.2) (.int .i64 ((rd_T30 l0 x41_2).f4))) (fun _ hk => hk.2) (.int .i64 ((rd_T30 l0 x41_2).f5))) (fun _ hk => hk.2) (.int .i64 ((rd_T30 l0 x41_2).f6))) (fun _ hk => ⟨hk.1.1, hk.1.2⟩)) : p := h
theorem u8_5 {p : Prop} (h : p := by repeat (first | (with_reducible first | exact HB.out | apply below_alloc | apply pw_below_drewN | apply below_drew1 | refine below_set ?_ GE193.out | refine below_set ?_ GE205.out) | exact HB.out)) : p := h
theorem u8_6 {p : Prop} (h : p := by repeat (first | (with_reducible first | exact HB.out | apply below_alloc | apply pw_below_drewN | apply below_drew1) | exact HB.out)) : p := h
theorem u8_7 {p : Prop} (h : p := by first | rfl | (simp; done) | (simp [*]; done)) : p := h
theorem u8_8 {p : Prop} (h : p := by (try simp only [List.map_toArray, List.map_cons, List.map_nil]); first | done | rfl) : p := h
theorem u8_9 {p : Prop} (h : p := by (with_reducible repeat (first | apply Kd.R_alloc | apply Kd.R_drewN | apply Kd.R_drew)); exact HO_6.out) : p := h
def spec_l6Copies.f (l0 : List (S30)) : Option ((List (S30))) := (some (([] : List (S30)) : List (S30))).bind fun y187 => (if y187.length + l0.length < 1759218604441 then (some (y187 ++ l0)) else (none))
set_option maxHeartbeats 8000000 in
set_option maxRecDepth 100000 in
theorem spec_l6Copies.calls (A0 : Option Addr) (c0 : Nat) (l0 : List (S30)) (r : List (S30)) (w : World) (hr0 : Kd.C k30 w A0 l0.length l0) (hc0 : l0.length ≤ c0) (h : spec_l6Copies.f l0 = some r) :
  Calls Try.prog 69 #[.slice A0 l0.length c0] w fun e w' => ∃ v0_ : Value, e = .returned (v0_) ∧ Kd.R k30 30 w' w.heap.size (fun _ => True) v0_ r ∧ Below w.heap.size w w' := by
 have HR0 := Aside0.mk hr0
 have HC0 := Aside0.mk hc0
 clear hr0 hc0
 have HB := Aside0.mk (Below.refl w.heap.size w)
 have H : ((some (([] : List (S30)) : List (S30))).bind fun y187 => (if y187.length + l0.length < 1759218604441 then (some (y187 ++ l0)) else (none))) = some r := h
 clear h
 obtain ⟨y187, hy187⟩ : ∃ y_ : List (S30), y_ = (([] : List (S30))) := ⟨_, rfl⟩
 replace H : (if y187.length + l0.length < 1759218604441 then (some (y187 ++ l0)) else (none)) = some r := by first | (rw [hy187]; with_reducible exact H) | (have H2_ := (Option.bind_some _ _).symm.trans H; rw [hy187]; with_reducible exact H2_) | (have H2_ := (Option.bind_some _ _).symm.trans H; with_reducible exact H2_) | with_reducible exact H | (rw [hy187]; exact H) | exact H
 have Ny187 := Aside0.mk hy187
 clear hy187
 by_cases c2 : y187.length + l0.length < 1759218604441
 ·rw [if_pos c2] at H
  have LMc2 := Aside0.mk c2
  clear c2
  obtain ⟨y190, hy190⟩ : ∃ y_ : List (S30), y_ = (y187 ++ l0) := ⟨_, rfl⟩
  replace H : (some y190) = some r := by first | (rw [hy190]; with_reducible exact H) | (have H2_ := (Option.bind_some _ _).symm.trans H; rw [hy190]; with_reducible exact H2_) | (have H2_ := (Option.bind_some _ _).symm.trans H; with_reducible exact H2_) | with_reducible exact H | (rw [hy190]; exact H) | exact H
  have Ny190 := Aside0.mk hy190
  clear hy190
  obtain rfl := Option.some.inj H
  go_enter Try.func69, Try.ntmps69
  go_wp2_with (first | ((with_reducible refine gate_dst (N := 3) rfl ?_); refine Kd.R_lit k30 _ 30 ?hg (N := 3) ?hd (xs := ([] : List (S30))) (inner := []) (ok := fun _ => True) (okp := fun _ => True) ?hr ?hp (fun _ hk => hk) trivial (Below.refl _ _) (Nat.le_refl _) (by simp) ?_; (case hd => rfl); (case hg => rfl); (case hr => first | (go_simp; done) | (go_simp; rfl)); (case hp => exact (Reps.none _ _)); intro v188 w3 ho4 hb hg_ hnew_; clear hg_ hnew_; (first | rw [← Ny187.out] at ho4 | (simp only [Int.reduceToNat] at ho4; rw [← Ny187.out] at ho4)); have n0_ := Aside0.mk (Kd.R_lower ho4 (below_size u8_6)); have n1_ := Aside0.mk (below_step u8_6 hb); clear HB; have HO189 := n0_; have HB := n1_; clear n0_ n1_; clear hb ho4) | ((with_reducible refine gate_builtin (b := .append) (xs := #[.tmp 3, .tmp 4]) rfl ?_); at_builtin; refine Kd.R_append_rows k30 (w0 := w) w.heap.size rfl (.tmp 3) (.tmp 4) 36 30 (.agg #[(.string ⟨#[]⟩), (.int .i64 0), (.string ⟨#[]⟩), (.int .i64 0), (.int .i64 0), (.int .i64 0), (.int .i64 0), (.int .i64 0)]) 80 rfl Try.underlying36 info30 rfl (by decide) (by omega) v188 y187 l0 _ _ _ (fun _ => True) (fun _ => False) rfl rfl ?aO ?aR (fun _ _ h => h) (fun _ h => h.elim) ?aF ?aB ?aS ?aL ?_; (case aR => repeat (first | exact (Kd.C_below HR0.out HB.out) | (with_reducible refine Kd.C_alloc ?_ _) | (with_reducible refine Kd.C_drewN ?_ _) | (with_reducible refine Kd.C_drew ?_))); (case aB => exact u8_6); (case aF => exact (fun _ _ => trivial)); (case aO => exact (by (with_reducible repeat (first | apply Kd.R_alloc | apply Kd.R_drewN | apply Kd.R_drew)); exact HO189.out)); (case aS => exact (below_size u8_6)); (case aL => have := LMc2.out; omega); intro v191 w5 ho hb hg hat; rw [← Ny190.out] at ho; have n0_ := Aside0.mk (hb); have n1_ := Aside0.mk (ho); clear HB; clear HO189; have HB := n0_; have HO192 := n1_; clear n0_ n1_; clear ho hb hg hat))
  go_ret
  exact ⟨_, by first | rfl | (simp [*] <;> rfl), by (with_reducible repeat (first | apply Kd.R_alloc | apply Kd.R_drewN | apply Kd.R_drew)); exact HO192.out, by repeat (first | (with_reducible first | exact HB.out | apply below_alloc | apply pw_below_drewN | apply below_drew1) | exact HB.out)⟩
 ·rw [if_neg c2] at H
  exact absurd H (by simp)

theorem blU_irr : ∀ x, Op.bytesLess x x = false
 | [] => rfl
 | a :: x => by
  simp only [Op.bytesLess, blU_irr x, Bool.and_false, Bool.or_false, decide_eq_false_iff_not]
  exact UInt8.lt_irrefl a
theorem blU_tri : ∀ x y, Op.bytesLess x y = false → Op.bytesLess y x = false → x = y
 | [], [], _, _ => rfl
 | [], _ :: _, h, _ => by simp [Op.bytesLess] at h
 | _ :: _, [], _, h => by simp [Op.bytesLess] at h
 | a :: x, b :: y, h, h' => by
  simp only [Op.bytesLess, Bool.or_eq_false_iff, decide_eq_false_iff_not] at h h'
  have hab : a = b := by
   have h1 := h.1; have h2 := h'.1
   exact UInt8.le_antisymm (UInt8.not_lt.1 h2) (UInt8.not_lt.1 h1)
  subst hab
  simp only [beq_self_eq_true, Bool.true_and] at h h'
  rw [blU_tri x y h.2 h'.2]
theorem blU_ne {x y : List UInt8} (h : Op.bytesLess y x = true) : (x == y) = false := by
 refine beq_eq_false_iff_ne.2 (fun e => ?_)
 rw [e, blU_irr] at h; cases h
theorem blU_eq {x y : List UInt8} (h : Op.bytesLess y x = false) (h' : Op.bytesLess x y = false) : (x == y) = true := by
 rw [blU_tri x y h' h]; exact beq_self_eq_true _

theorem blU_asym : ∀ x y, Op.bytesLess x y = true → Op.bytesLess y x = false
 | [], [], _ => rfl
 | _ :: _, [], h => by simp [Op.bytesLess] at h
 | [], _ :: _, _ => rfl
 | a :: x, b :: y, h => by
  simp only [Op.bytesLess, Bool.or_eq_true, decide_eq_true_eq, Bool.and_eq_true, beq_iff_eq] at h
  simp only [Op.bytesLess, Bool.or_eq_false_iff, decide_eq_false_iff_not, Bool.and_eq_false_iff, beq_eq_false_iff_ne]
  rcases h with h | ⟨h, h2⟩
  ·exact ⟨fun c => UInt8.lt_irrefl a (UInt8.lt_trans h c), .inl (fun c => by subst c; exact UInt8.lt_irrefl _ h)⟩
  ·subst h; exact ⟨UInt8.lt_irrefl a, .inr (blU_asym x y h2)⟩
theorem blU_leF {x y : List UInt8} (h : Op.bytesLess x y = true) : (Op.bytesLess y x || y == x) = false := by
 rw [blU_asym x y h, blU_ne h, Bool.or_false]
theorem blU_leT {x y : List UInt8} (h : Op.bytesLess x y = false) : (Op.bytesLess y x || y == x) = true := by
 cases h' : Op.bytesLess y x
 ·rw [blU_tri x y h h', beq_self_eq_true, Bool.or_true]
 ·rw [Bool.true_or]

mutual
def spec_AddDevice.j0 : Nat → List (S30) → Bool → ByteArray → Int → ByteArray → Int → Int → Int → Int → Int → Option ((List (S30)) × Bool)
 | 0, _, _, _, _, _, _, _, _, _, _ => none
 | k + 1, x0, x35, x194000, x194001, x194002, x194003, x194004, x194005, x194006, x194007 => if x35 = true then ((spec_l6Copies.f x0).bind fun t198 => (some (t198, false))) else (spec_AddDevice.l0 k (([] : List (S30))) false x0 (x0.length : Int) 0 x194000 x194001 x194002 x194003 x194004 x194005 x194006 x194007)
def spec_AddDevice.l0 : Nat → List (S30) → Bool → List (S30) → Int → Int → ByteArray → Int → ByteArray → Int → Int → Int → Int → Int → Option ((List (S30)) × Bool)
 | 0, _, _, _, _, _, _, _, _, _, _, _, _, _ => none
 | k + 1, x6, x7, x39, x40, x41, x194000, x194001, x194002, x194003, x194004, x194005, x194006, x194007 => if x41 < x40 then (if 0 ≤ x41 then (if x41 < (x39.length : Int) then (if x7 = true then (if x6.length < 1759218604441 then (spec_AddDevice.l0 k (x6 ++ [(⟨(rd_T30 x39 x41).f0, (rd_T30 x39 x41).f1, (rd_T30 x39 x41).f2, (⟨(rd_T30 x39 x41).f3.f0, (rd_T30 x39 x41).f3.f1⟩ : S28), (rd_T30 x39 x41).f4, (rd_T30 x39 x41).f5, (rd_T30 x39 x41).f6⟩ : S30)]) x7 x39 x40 (wrap64 (x41 + 1)) x194000 x194001 x194002 x194003 x194004 x194005 x194006 x194007) else (none)) else (if (Op.bytesLess x194000.toList (((rd_T30 x39 x41).f0).toList)) = true then (if x6.length < 1759218604441 then ((some (x6 ++ [(⟨x194000, x194001, x194002, (⟨x194003, x194004⟩ : S28), x194005, x194006, x194007⟩ : S30)] : List (S30))).bind fun y209 => (if y209.length < 1759218604441 then (spec_AddDevice.l0 k (y209 ++ [(⟨(rd_T30 x39 x41).f0, (rd_T30 x39 x41).f1, (rd_T30 x39 x41).f2, (⟨(rd_T30 x39 x41).f3.f0, (rd_T30 x39 x41).f3.f1⟩ : S28), (rd_T30 x39 x41).f4, (rd_T30 x39 x41).f5, (rd_T30 x39 x41).f6⟩ : S30)]) true x39 x40 (wrap64 (x41 + 1)) x194000 x194001 x194002 x194003 x194004 x194005 x194006 x194007) else (none))) else (none)) else (if x6.length < 1759218604441 then (spec_AddDevice.l0 k (x6 ++ [(⟨(rd_T30 x39 x41).f0, (rd_T30 x39 x41).f1, (rd_T30 x39 x41).f2, (⟨(rd_T30 x39 x41).f3.f0, (rd_T30 x39 x41).f3.f1⟩ : S28), (rd_T30 x39 x41).f4, (rd_T30 x39 x41).f5, (rd_T30 x39 x41).f6⟩ : S30)]) x7 x39 x40 (wrap64 (x41 + 1)) x194000 x194001 x194002 x194003 x194004 x194005 x194006 x194007) else (none)))) else (none)) else (none)) else (if x7 = true then (some (x6, true)) else (if x6.length < 1759218604441 then (some ((x6 ++ [(⟨x194000, x194001, x194002, (⟨x194003, x194004⟩ : S28), x194005, x194006, x194007⟩ : S30)]), true)) else (none)))
end
def spec_AddDevice.f (k : Nat) (l0 : List (S30)) (a1_0 : ByteArray) (a1_1 : Int) (a1_2 : ByteArray) (a1_3 : Int) (a1_4 : Int) (a1_5 : Int) (a1_6 : Int) (a1_7 : Int) : Option ((List (S30)) × Bool) := (spec_IsRig.f k l0).bind fun t194 => (if t194 = true then ((spec_IsDevice.f k a1_0 a1_1 a1_2 a1_3 a1_4 a1_5 a1_6 a1_7).bind fun t195 => (if t195 = true then ((spec_FindDevice.f k l0 a1_0).bind fun t196 => (if t196 ≥ 0 then (spec_AddDevice.j0 k l0 true a1_0 a1_1 a1_2 a1_3 a1_4 a1_5 a1_6 a1_7) else (if (l0.length : Int) = 8 then (spec_AddDevice.j0 k l0 true a1_0 a1_1 a1_2 a1_3 a1_4 a1_5 a1_6 a1_7) else ((spec_l6Hangs.f k l0 a1_0 a1_1 a1_2 a1_3 a1_4 a1_5 a1_6 a1_7).bind fun t197 => (spec_AddDevice.j0 k l0 (!t197) a1_0 a1_1 a1_2 a1_3 a1_4 a1_5 a1_6 a1_7))))) else (spec_AddDevice.j0 k l0 true a1_0 a1_1 a1_2 a1_3 a1_4 a1_5 a1_6 a1_7))) else (spec_AddDevice.j0 k l0 true a1_0 a1_1 a1_2 a1_3 a1_4 a1_5 a1_6 a1_7))
theorem spec_AddDevice.mono_l : ∀ k, (∀ y0 y1 y2 y3 y4 y5 y6 y7 y8 y9, LeO (spec_AddDevice.j0 k y0 y1 y2 y3 y4 y5 y6 y7 y8 y9) (spec_AddDevice.j0 (k + 1) y0 y1 y2 y3 y4 y5 y6 y7 y8 y9)) ∧ (∀ y0 y1 y2 y3 y4 y5 y6 y7 y8 y9 y10 y11 y12, LeO (spec_AddDevice.l0 k y0 y1 y2 y3 y4 y5 y6 y7 y8 y9 y10 y11 y12) (spec_AddDevice.l0 (k + 1) y0 y1 y2 y3 y4 y5 y6 y7 y8 y9 y10 y11 y12))
 | 0 => ⟨fun _ _ _ _ _ _ _ _ _ _ r h => by simp [spec_AddDevice.j0] at h, fun _ _ _ _ _ _ _ _ _ _ _ _ _ r h => by simp [spec_AddDevice.l0] at h⟩
 | k + 1 => by
  obtain ⟨ih0, ih1⟩ := spec_AddDevice.mono_l k
  refine ⟨?_, ?_⟩
  ·intro y0 y1 y2 y3 y4 y5 y6 y7 y8 y9
   unfold spec_AddDevice.j0
   repeat' first
   | (with_reducible exact ih0 _ _ _ _ _ _ _ _ _ _)
   | (with_reducible exact ih1 _ _ _ _ _ _ _ _ _ _ _ _ _)
   | (with_reducible exact spec_FindDevice.mono _ _ _)
   | (with_reducible exact spec_IsDevice.mono _ _ _ _ _ _ _ _ _)
   | (with_reducible exact spec_IsRig.mono _ _)
   | (with_reducible exact spec_l6Hangs.mono _ _ _ _ _ _ _ _ _ _)
   | (with_reducible exact LeO.refl _)
   | (with_reducible exact LeO.none _)
   | (with_reducible refine LeO.ite ?_ ?_)
   | (with_reducible refine LeO.bind ?_ (fun _ => ?_))
  ·intro y0 y1 y2 y3 y4 y5 y6 y7 y8 y9 y10 y11 y12
   unfold spec_AddDevice.l0
   repeat' first
   | (with_reducible exact ih0 _ _ _ _ _ _ _ _ _ _)
   | (with_reducible exact ih1 _ _ _ _ _ _ _ _ _ _ _ _ _)
   | (with_reducible exact spec_FindDevice.mono _ _ _)
   | (with_reducible exact spec_IsDevice.mono _ _ _ _ _ _ _ _ _)
   | (with_reducible exact spec_IsRig.mono _ _)
   | (with_reducible exact spec_l6Hangs.mono _ _ _ _ _ _ _ _ _ _)
   | (with_reducible exact LeO.refl _)
   | (with_reducible exact LeO.none _)
   | (with_reducible refine LeO.ite ?_ ?_)
   | (with_reducible refine LeO.bind ?_ (fun _ => ?_))
theorem spec_AddDevice.mono : ∀ a0 a1 a2 a3 a4 a5 a6 a7 a8 k, LeO (spec_AddDevice.f k a0 a1 a2 a3 a4 a5 a6 a7 a8) (spec_AddDevice.f (k + 1) a0 a1 a2 a3 a4 a5 a6 a7 a8) := by
 intro a0 a1 a2 a3 a4 a5 a6 a7 a8 k
 obtain ⟨ih0, ih1⟩ := spec_AddDevice.mono_l k
 unfold spec_AddDevice.f
 repeat' first
   | (with_reducible exact ih0 _ _ _ _ _ _ _ _ _ _)
   | (with_reducible exact ih1 _ _ _ _ _ _ _ _ _ _ _ _ _)
   | (with_reducible exact spec_FindDevice.mono _ _ _)
   | (with_reducible exact spec_IsDevice.mono _ _ _ _ _ _ _ _ _)
   | (with_reducible exact spec_IsRig.mono _ _)
   | (with_reducible exact spec_l6Hangs.mono _ _ _ _ _ _ _ _ _ _)
   | (with_reducible exact LeO.refl _)
   | (with_reducible exact LeO.none _)
   | (with_reducible refine LeO.ite ?_ ?_)
   | (with_reducible refine LeO.bind ?_ (fun _ => ?_))
set_option maxHeartbeats 8000000 in
set_option maxRecDepth 100000 in
theorem spec_AddDevice.calls (k : Nat) (A0 : Option Addr) (c0 : Nat) (l0 : List (S30)) (a1_0 : ByteArray) (a1_1 : Int) (a1_2 : ByteArray) (a1_3 : Int) (a1_4 : Int) (a1_5 : Int) (a1_6 : Int) (a1_7 : Int) (r1 : List (S30)) (r2 : Bool) (w : World) (hr0 : Kd.C k30 w A0 l0.length l0) (hc0 : l0.length ≤ c0) (h : spec_AddDevice.f k l0 a1_0 a1_1 a1_2 a1_3 a1_4 a1_5 a1_6 a1_7 = some (r1, r2)) :
  Calls Try.prog 47 #[.slice A0 l0.length c0, .agg #[.string a1_0, .int .i64 a1_1, .string a1_2, .int .i64 a1_3, .int .i64 a1_4, .int .i64 a1_5, .int .i64 a1_6, .int .i64 a1_7]] w fun e w' => ∃ v0_ : Value, e = .returned (.tuple #[v0_, .bool r2]) ∧ Kd.R k30 30 w' w.heap.size (fun _ => True) v0_ r1 ∧ Below w.heap.size w w' := by
 have hu30 := Try.underlying30
 have HR0 := Aside0.mk hr0
 have HC0 := Aside0.mk hc0
 clear hr0 hc0
 have HB := Aside0.mk (Below.refl w.heap.size w)
 have H : ((spec_IsRig.f k l0).bind fun t194 => (if t194 = true then ((spec_IsDevice.f k a1_0 a1_1 a1_2 a1_3 a1_4 a1_5 a1_6 a1_7).bind fun t195 => (if t195 = true then ((spec_FindDevice.f k l0 a1_0).bind fun t196 => (if t196 ≥ 0 then (spec_AddDevice.j0 k l0 true a1_0 a1_1 a1_2 a1_3 a1_4 a1_5 a1_6 a1_7) else (if (l0.length : Int) = 8 then (spec_AddDevice.j0 k l0 true a1_0 a1_1 a1_2 a1_3 a1_4 a1_5 a1_6 a1_7) else ((spec_l6Hangs.f k l0 a1_0 a1_1 a1_2 a1_3 a1_4 a1_5 a1_6 a1_7).bind fun t197 => (spec_AddDevice.j0 k l0 (!t197) a1_0 a1_1 a1_2 a1_3 a1_4 a1_5 a1_6 a1_7))))) else (spec_AddDevice.j0 k l0 true a1_0 a1_1 a1_2 a1_3 a1_4 a1_5 a1_6 a1_7))) else (spec_AddDevice.j0 k l0 true a1_0 a1_1 a1_2 a1_3 a1_4 a1_5 a1_6 a1_7))) = some (r1, r2) := h
 clear h
 have HC3 := Aside0.mk H
 clear H
 go_enter Try.func47, Try.ntmps47
 go_upto_region 1 with (first | ((with_reducible refine gate_dst (N := 3) rfl ?_); (try (refine gate_guard (by rfl) ?_; dsimp only)); refine box_event ?hg (N := 3) ?hd (cs := #[.string a1_0, .int .i64 a1_1, .string a1_2, .int .i64 a1_3, .int .i64 a1_4, .int .i64 a1_5, .int .i64 a1_6, .int .i64 a1_7]) (t := 30) ?hr ?_; (case hd => rfl); (case hg => rfl); (case hr => first | (go_simp; done) | (go_simp; rfl)); intro gb193 hg w4 hbox hb; have n0_ := Aside0.mk (below_step u8_6 hb); have n1_ := Aside0.mk (hbox); have n2_ := Aside0.mk ((by rw [hg]; exact (below_size u8_6) : w.heap.size ≤ gb193)); have n3_ := Aside0.mk ((by rw [hg]; exact (below_size u8_6) : w.heap.size ≤ gb193)); clear HB; have HB := n0_; have BK193 := n1_; have GW193 := n2_; have GE193 := n3_; clear n0_ n1_ n2_ n3_; clear hb hbox hg))
 (try simp only [Act.put, List.setIfInBounds_toArray, List.set_cons_zero, List.set_cons_succ])
 go_cut [35] (fun v35 wc => ∃ (kq : Nat) (x35_2 : Bool), v35 = .bool x35_2 ∧ Aside0 (spec_AddDevice.j0 kq l0 x35_2 a1_0 a1_1 a1_2 a1_3 a1_4 a1_5 a1_6 a1_7 = some (r1, r2)) ∧ Aside0 (kq ≤ k) ∧ Aside0 (wc.heap[gb193]? = some (.cells #[.string a1_0, .int .i64 a1_1, .string a1_2, .int .i64 a1_3, .int .i64 a1_4, .int .i64 a1_5, .int .i64 a1_6, .int .i64 a1_7] 30 (0, 0))) ∧ Aside0 (Below w.heap.size w wc))
 case first =>
  have H := HC3.out
  clear HC3
  replace H := Option.bind_eq_some_iff.mp H
  obtain ⟨t194, A50, H⟩ := H
  replace H : (if t194 = true then ((spec_IsDevice.f k a1_0 a1_1 a1_2 a1_3 a1_4 a1_5 a1_6 a1_7).bind fun t195 => (if t195 = true then ((spec_FindDevice.f k l0 a1_0).bind fun t196 => (if t196 ≥ 0 then (spec_AddDevice.j0 k l0 true a1_0 a1_1 a1_2 a1_3 a1_4 a1_5 a1_6 a1_7) else (if (l0.length : Int) = 8 then (spec_AddDevice.j0 k l0 true a1_0 a1_1 a1_2 a1_3 a1_4 a1_5 a1_6 a1_7) else ((spec_l6Hangs.f k l0 a1_0 a1_1 a1_2 a1_3 a1_4 a1_5 a1_6 a1_7).bind fun t197 => (spec_AddDevice.j0 k l0 (!t197) a1_0 a1_1 a1_2 a1_3 a1_4 a1_5 a1_6 a1_7))))) else (spec_AddDevice.j0 k l0 true a1_0 a1_1 a1_2 a1_3 a1_4 a1_5 a1_6 a1_7))) else (spec_AddDevice.j0 k l0 true a1_0 a1_1 a1_2 a1_3 a1_4 a1_5 a1_6 a1_7)) = some (r1, r2) := H
  have A5 := Aside0.mk A50
  clear A50
  by_cases c6 : t194 = true
  ·subst c6
   have H1 : ((spec_IsDevice.f k a1_0 a1_1 a1_2 a1_3 a1_4 a1_5 a1_6 a1_7).bind fun t195 => (if t195 = true then ((spec_FindDevice.f k l0 a1_0).bind fun t196 => (if t196 ≥ 0 then (spec_AddDevice.j0 k l0 true a1_0 a1_1 a1_2 a1_3 a1_4 a1_5 a1_6 a1_7) else (if (l0.length : Int) = 8 then (spec_AddDevice.j0 k l0 true a1_0 a1_1 a1_2 a1_3 a1_4 a1_5 a1_6 a1_7) else ((spec_l6Hangs.f k l0 a1_0 a1_1 a1_2 a1_3 a1_4 a1_5 a1_6 a1_7).bind fun t197 => (spec_AddDevice.j0 k l0 (!t197) a1_0 a1_1 a1_2 a1_3 a1_4 a1_5 a1_6 a1_7))))) else (spec_AddDevice.j0 k l0 true a1_0 a1_1 a1_2 a1_3 a1_4 a1_5 a1_6 a1_7))) = some (r1, r2) := by rw [if_pos rfl] at H; exact H
   clear H
   have H := H1
   clear H1
   replace H := Option.bind_eq_some_iff.mp H
   obtain ⟨t195, A70, H⟩ := H
   replace H : (if t195 = true then ((spec_FindDevice.f k l0 a1_0).bind fun t196 => (if t196 ≥ 0 then (spec_AddDevice.j0 k l0 true a1_0 a1_1 a1_2 a1_3 a1_4 a1_5 a1_6 a1_7) else (if (l0.length : Int) = 8 then (spec_AddDevice.j0 k l0 true a1_0 a1_1 a1_2 a1_3 a1_4 a1_5 a1_6 a1_7) else ((spec_l6Hangs.f k l0 a1_0 a1_1 a1_2 a1_3 a1_4 a1_5 a1_6 a1_7).bind fun t197 => (spec_AddDevice.j0 k l0 (!t197) a1_0 a1_1 a1_2 a1_3 a1_4 a1_5 a1_6 a1_7))))) else (spec_AddDevice.j0 k l0 true a1_0 a1_1 a1_2 a1_3 a1_4 a1_5 a1_6 a1_7)) = some (r1, r2) := H
   have A7 := Aside0.mk A70
   clear A70
   by_cases c8 : t195 = true
   ·subst c8
    have H1 : ((spec_FindDevice.f k l0 a1_0).bind fun t196 => (if t196 ≥ 0 then (spec_AddDevice.j0 k l0 true a1_0 a1_1 a1_2 a1_3 a1_4 a1_5 a1_6 a1_7) else (if (l0.length : Int) = 8 then (spec_AddDevice.j0 k l0 true a1_0 a1_1 a1_2 a1_3 a1_4 a1_5 a1_6 a1_7) else ((spec_l6Hangs.f k l0 a1_0 a1_1 a1_2 a1_3 a1_4 a1_5 a1_6 a1_7).bind fun t197 => (spec_AddDevice.j0 k l0 (!t197) a1_0 a1_1 a1_2 a1_3 a1_4 a1_5 a1_6 a1_7))))) = some (r1, r2) := by rw [if_pos rfl] at H; exact H
    clear H
    have H := H1
    clear H1
    replace H := Option.bind_eq_some_iff.mp H
    obtain ⟨t196, A90, H⟩ := H
    replace H : (if t196 ≥ 0 then (spec_AddDevice.j0 k l0 true a1_0 a1_1 a1_2 a1_3 a1_4 a1_5 a1_6 a1_7) else (if (l0.length : Int) = 8 then (spec_AddDevice.j0 k l0 true a1_0 a1_1 a1_2 a1_3 a1_4 a1_5 a1_6 a1_7) else ((spec_l6Hangs.f k l0 a1_0 a1_1 a1_2 a1_3 a1_4 a1_5 a1_6 a1_7).bind fun t197 => (spec_AddDevice.j0 k l0 (!t197) a1_0 a1_1 a1_2 a1_3 a1_4 a1_5 a1_6 a1_7)))) = some (r1, r2) := H
    have A9 := Aside0.mk A90
    clear A90
    by_cases c10 : t196 ≥ 0
    ·rw [if_pos c10] at H
     have c10b0 : decide (0 ≤ t196) = true := decide_eq_true c10
     clear c10
     (first | rw [c10b0] | (simp only [i64_w, i32_w]; rw [c10b0]) | skip)
     have H' := Aside0.mk H
     clear H
     go_wp2_with (first | ((with_reducible refine gate_callee (f := 24) rfl ?_); refine goesL_ (some 11) rfl rfl Try.func24 (by kernel_rfl) rfl #[.slice A0 l0.length c0] rfl u8_8 ?_; (with_reducible refine (spec_IsRig.calls k _ _ l0 true _ ?side1 ?side2 A5.out).mono ?_); (case side1 => exact y8_0); (case side2 => exact HC0.out); rintro e w11 ⟨rfl, hb⟩; refine ⟨_, rfl, ?_⟩; have n0_ := Aside0.mk (blk_below (g := gb193) (o := .cells #[.string a1_0, .int .i64 a1_1, .string a1_2, .int .i64 a1_3, .int .i64 a1_4, .int .i64 a1_5, .int .i64 a1_6, .int .i64 a1_7] 30 (0, 0)) u8_3 hb); have n1_ := Aside0.mk (below_step u8_2 hb); clear BK193; clear HB; have BK193 := n0_; have HB := n1_; clear n0_ n1_; (try clear hb); (try clear hb2); (try clear hk); (try clear hi); have hcz12_0 : w11.cell? ⟨gb193, 0, none⟩ = some (.string a1_0) := (blk_cell BK193.out 0).trans rfl; have hcz12_1 : w11.cell? ⟨gb193, 1, none⟩ = some (.int .i64 a1_1) := (blk_cell BK193.out 1).trans rfl; have hcz12_2 : w11.cell? ⟨gb193, 2, none⟩ = some (.string a1_2) := (blk_cell BK193.out 2).trans rfl; have hcz12_3 : w11.cell? ⟨gb193, 3, none⟩ = some (.int .i64 a1_3) := (blk_cell BK193.out 3).trans rfl; have hcz12_4 : w11.cell? ⟨gb193, 4, none⟩ = some (.int .i64 a1_4) := (blk_cell BK193.out 4).trans rfl; have hcz12_5 : w11.cell? ⟨gb193, 5, none⟩ = some (.int .i64 a1_5) := (blk_cell BK193.out 5).trans rfl; have hcz12_6 : w11.cell? ⟨gb193, 6, none⟩ = some (.int .i64 a1_6) := (blk_cell BK193.out 6).trans rfl; have hcz12_7 : w11.cell? ⟨gb193, 7, none⟩ = some (.int .i64 a1_7) := (blk_cell BK193.out 7).trans rfl; have hfz12_0 := blk_frozen BK193.out 0; have hfz12_1 := blk_frozen BK193.out 1; have hfz12_2 := blk_frozen BK193.out 2; have hfz12_3 := blk_frozen BK193.out 3; have hfz12_4 := blk_frozen BK193.out 4; have hfz12_5 := blk_frozen BK193.out 5; have hfz12_6 := blk_frozen BK193.out 6; have hfz12_7 := blk_frozen BK193.out 7) | (go_at_call 16; (with_reducible refine (spec_IsDevice.calls k a1_0 a1_1 a1_2 a1_3 a1_4 a1_5 a1_6 a1_7 true _ A7.out).mono ?_); rintro e w13 ⟨rfl, hb⟩; have n0_ := Aside0.mk (blk_below (g := gb193) (o := .cells #[.string a1_0, .int .i64 a1_1, .string a1_2, .int .i64 a1_3, .int .i64 a1_4, .int .i64 a1_5, .int .i64 a1_6, .int .i64 a1_7] 30 (0, 0)) u8_3 hb); have n1_ := Aside0.mk (below_step u8_2 hb); clear BK193; clear HB; have BK193 := n0_; have HB := n1_; clear n0_ n1_; (try clear hb); (try clear hb2); (try clear hk); (try clear hi); have hcz14_0 : w13.cell? ⟨gb193, 0, none⟩ = some (.string a1_0) := (blk_cell BK193.out 0).trans rfl; have hcz14_1 : w13.cell? ⟨gb193, 1, none⟩ = some (.int .i64 a1_1) := (blk_cell BK193.out 1).trans rfl; have hcz14_2 : w13.cell? ⟨gb193, 2, none⟩ = some (.string a1_2) := (blk_cell BK193.out 2).trans rfl; have hcz14_3 : w13.cell? ⟨gb193, 3, none⟩ = some (.int .i64 a1_3) := (blk_cell BK193.out 3).trans rfl; have hcz14_4 : w13.cell? ⟨gb193, 4, none⟩ = some (.int .i64 a1_4) := (blk_cell BK193.out 4).trans rfl; have hcz14_5 : w13.cell? ⟨gb193, 5, none⟩ = some (.int .i64 a1_5) := (blk_cell BK193.out 5).trans rfl; have hcz14_6 : w13.cell? ⟨gb193, 6, none⟩ = some (.int .i64 a1_6) := (blk_cell BK193.out 6).trans rfl; have hcz14_7 : w13.cell? ⟨gb193, 7, none⟩ = some (.int .i64 a1_7) := (blk_cell BK193.out 7).trans rfl; have hfz14_0 := blk_frozen BK193.out 0; have hfz14_1 := blk_frozen BK193.out 1; have hfz14_2 := blk_frozen BK193.out 2; have hfz14_3 := blk_frozen BK193.out 3; have hfz14_4 := blk_frozen BK193.out 4; have hfz14_5 := blk_frozen BK193.out 5; have hfz14_6 := blk_frozen BK193.out 6; have hfz14_7 := blk_frozen BK193.out 7) | (go_at_call 20; (with_reducible refine (spec_FindDevice.calls k _ _ l0 a1_0 t196 _ ?side1 ?side2 A9.out).mono ?_); (case side1 => exact y8_0); (case side2 => exact HC0.out); rintro e w15 ⟨rfl, hb⟩; have n0_ := Aside0.mk (blk_below (g := gb193) (o := .cells #[.string a1_0, .int .i64 a1_1, .string a1_2, .int .i64 a1_3, .int .i64 a1_4, .int .i64 a1_5, .int .i64 a1_6, .int .i64 a1_7] 30 (0, 0)) u8_3 hb); have n1_ := Aside0.mk (below_step u8_2 hb); clear BK193; clear HB; have BK193 := n0_; have HB := n1_; clear n0_ n1_; (try clear hb); (try clear hb2); (try clear hk); (try clear hi)))
     go_meet
     case rel => exact ⟨_, (true), u8_7, H', ⟨by first | omega | exact Nat.le_refl _⟩, ⟨by (with_reducible repeat (first | refine blk_drewN ?_ _ | refine blk_drew ?_ | refine blk_alloc ?_ _)); exact BK193.out⟩, ⟨by repeat (first | (with_reducible first | exact HB.out | apply below_alloc | apply pw_below_drewN | apply below_drew1 | refine below_set ?_ GE193.out) | exact HB.out)⟩⟩
    ·rw [if_neg c10] at H
     have c10b0 : decide (0 ≤ t196) = false := decide_eq_false c10
     clear c10
     (first | rw [c10b0] | (simp only [i64_w, i32_w]; rw [c10b0]) | skip)
     by_cases c16 : (l0.length : Int) = 8
     ·rw [if_pos c16] at H
      have c16b0 : ((l0.length : Int) == 8) = true := beq_iff_eq.mpr c16
      have c16b1 : ((l0.length : Int) != 8) = false := bne_eq_false_iff_eq.mpr c16
      clear c16
      have H' := Aside0.mk H
      clear H
      go_wp2_with (first | ((with_reducible refine gate_callee (f := 24) rfl ?_); refine goesL_ (some 11) rfl rfl Try.func24 (by kernel_rfl) rfl #[.slice A0 l0.length c0] rfl u8_8 ?_; (with_reducible refine (spec_IsRig.calls k _ _ l0 true _ ?side1 ?side2 A5.out).mono ?_); (case side1 => exact y8_0); (case side2 => exact HC0.out); rintro e w17 ⟨rfl, hb⟩; refine ⟨_, rfl, ?_⟩; have n0_ := Aside0.mk (blk_below (g := gb193) (o := .cells #[.string a1_0, .int .i64 a1_1, .string a1_2, .int .i64 a1_3, .int .i64 a1_4, .int .i64 a1_5, .int .i64 a1_6, .int .i64 a1_7] 30 (0, 0)) u8_3 hb); have n1_ := Aside0.mk (below_step u8_2 hb); clear BK193; clear HB; have BK193 := n0_; have HB := n1_; clear n0_ n1_; (try clear hb); (try clear hb2); (try clear hk); (try clear hi); have hcz18_0 : w17.cell? ⟨gb193, 0, none⟩ = some (.string a1_0) := (blk_cell BK193.out 0).trans rfl; have hcz18_1 : w17.cell? ⟨gb193, 1, none⟩ = some (.int .i64 a1_1) := (blk_cell BK193.out 1).trans rfl; have hcz18_2 : w17.cell? ⟨gb193, 2, none⟩ = some (.string a1_2) := (blk_cell BK193.out 2).trans rfl; have hcz18_3 : w17.cell? ⟨gb193, 3, none⟩ = some (.int .i64 a1_3) := (blk_cell BK193.out 3).trans rfl; have hcz18_4 : w17.cell? ⟨gb193, 4, none⟩ = some (.int .i64 a1_4) := (blk_cell BK193.out 4).trans rfl; have hcz18_5 : w17.cell? ⟨gb193, 5, none⟩ = some (.int .i64 a1_5) := (blk_cell BK193.out 5).trans rfl; have hcz18_6 : w17.cell? ⟨gb193, 6, none⟩ = some (.int .i64 a1_6) := (blk_cell BK193.out 6).trans rfl; have hcz18_7 : w17.cell? ⟨gb193, 7, none⟩ = some (.int .i64 a1_7) := (blk_cell BK193.out 7).trans rfl; have hfz18_0 := blk_frozen BK193.out 0; have hfz18_1 := blk_frozen BK193.out 1; have hfz18_2 := blk_frozen BK193.out 2; have hfz18_3 := blk_frozen BK193.out 3; have hfz18_4 := blk_frozen BK193.out 4; have hfz18_5 := blk_frozen BK193.out 5; have hfz18_6 := blk_frozen BK193.out 6; have hfz18_7 := blk_frozen BK193.out 7) | (go_at_call 16; (with_reducible refine (spec_IsDevice.calls k a1_0 a1_1 a1_2 a1_3 a1_4 a1_5 a1_6 a1_7 true _ A7.out).mono ?_); rintro e w19 ⟨rfl, hb⟩; have n0_ := Aside0.mk (blk_below (g := gb193) (o := .cells #[.string a1_0, .int .i64 a1_1, .string a1_2, .int .i64 a1_3, .int .i64 a1_4, .int .i64 a1_5, .int .i64 a1_6, .int .i64 a1_7] 30 (0, 0)) u8_3 hb); have n1_ := Aside0.mk (below_step u8_2 hb); clear BK193; clear HB; have BK193 := n0_; have HB := n1_; clear n0_ n1_; (try clear hb); (try clear hb2); (try clear hk); (try clear hi); have hcz20_0 : w19.cell? ⟨gb193, 0, none⟩ = some (.string a1_0) := (blk_cell BK193.out 0).trans rfl; have hcz20_1 : w19.cell? ⟨gb193, 1, none⟩ = some (.int .i64 a1_1) := (blk_cell BK193.out 1).trans rfl; have hcz20_2 : w19.cell? ⟨gb193, 2, none⟩ = some (.string a1_2) := (blk_cell BK193.out 2).trans rfl; have hcz20_3 : w19.cell? ⟨gb193, 3, none⟩ = some (.int .i64 a1_3) := (blk_cell BK193.out 3).trans rfl; have hcz20_4 : w19.cell? ⟨gb193, 4, none⟩ = some (.int .i64 a1_4) := (blk_cell BK193.out 4).trans rfl; have hcz20_5 : w19.cell? ⟨gb193, 5, none⟩ = some (.int .i64 a1_5) := (blk_cell BK193.out 5).trans rfl; have hcz20_6 : w19.cell? ⟨gb193, 6, none⟩ = some (.int .i64 a1_6) := (blk_cell BK193.out 6).trans rfl; have hcz20_7 : w19.cell? ⟨gb193, 7, none⟩ = some (.int .i64 a1_7) := (blk_cell BK193.out 7).trans rfl; have hfz20_0 := blk_frozen BK193.out 0; have hfz20_1 := blk_frozen BK193.out 1; have hfz20_2 := blk_frozen BK193.out 2; have hfz20_3 := blk_frozen BK193.out 3; have hfz20_4 := blk_frozen BK193.out 4; have hfz20_5 := blk_frozen BK193.out 5; have hfz20_6 := blk_frozen BK193.out 6; have hfz20_7 := blk_frozen BK193.out 7) | (go_at_call 20; (with_reducible refine (spec_FindDevice.calls k _ _ l0 a1_0 t196 _ ?side1 ?side2 A9.out).mono ?_); (case side1 => exact y8_0); (case side2 => exact HC0.out); rintro e w21 ⟨rfl, hb⟩; have n0_ := Aside0.mk (blk_below (g := gb193) (o := .cells #[.string a1_0, .int .i64 a1_1, .string a1_2, .int .i64 a1_3, .int .i64 a1_4, .int .i64 a1_5, .int .i64 a1_6, .int .i64 a1_7] 30 (0, 0)) u8_3 hb); have n1_ := Aside0.mk (below_step u8_2 hb); clear BK193; clear HB; have BK193 := n0_; have HB := n1_; clear n0_ n1_; (try clear hb); (try clear hb2); (try clear hk); (try clear hi)))
      go_meet
      case rel => exact ⟨_, (true), u8_7, H', ⟨by first | omega | exact Nat.le_refl _⟩, ⟨by (with_reducible repeat (first | refine blk_drewN ?_ _ | refine blk_drew ?_ | refine blk_alloc ?_ _)); exact BK193.out⟩, ⟨by repeat (first | (with_reducible first | exact HB.out | apply below_alloc | apply pw_below_drewN | apply below_drew1 | refine below_set ?_ GE193.out) | exact HB.out)⟩⟩
     ·rw [if_neg c16] at H
      have c16b0 : ((l0.length : Int) == 8) = false := beq_eq_false_iff_ne.mpr c16
      have c16b1 : ((l0.length : Int) != 8) = true := bne_iff_ne.mpr c16
      replace H := Option.bind_eq_some_iff.mp H
      obtain ⟨t197, A220, H⟩ := H
      replace H : (spec_AddDevice.j0 k l0 (!t197) a1_0 a1_1 a1_2 a1_3 a1_4 a1_5 a1_6 a1_7) = some (r1, r2) := H
      have A22 := Aside0.mk A220
      clear A220
      have H' := Aside0.mk H
      clear H
      go_wp2_with (first | ((with_reducible refine gate_callee (f := 24) rfl ?_); refine goesL_ (some 11) rfl rfl Try.func24 (by kernel_rfl) rfl #[.slice A0 l0.length c0] rfl u8_8 ?_; (with_reducible refine (spec_IsRig.calls k _ _ l0 true _ ?side1 ?side2 A5.out).mono ?_); (case side1 => exact y8_0); (case side2 => exact HC0.out); rintro e w23 ⟨rfl, hb⟩; refine ⟨_, rfl, ?_⟩; have n0_ := Aside0.mk (blk_below (g := gb193) (o := .cells #[.string a1_0, .int .i64 a1_1, .string a1_2, .int .i64 a1_3, .int .i64 a1_4, .int .i64 a1_5, .int .i64 a1_6, .int .i64 a1_7] 30 (0, 0)) u8_3 hb); have n1_ := Aside0.mk (below_step u8_2 hb); clear BK193; clear HB; have BK193 := n0_; have HB := n1_; clear n0_ n1_; (try clear hb); (try clear hb2); (try clear hk); (try clear hi); have hcz24_0 : w23.cell? ⟨gb193, 0, none⟩ = some (.string a1_0) := (blk_cell BK193.out 0).trans rfl; have hcz24_1 : w23.cell? ⟨gb193, 1, none⟩ = some (.int .i64 a1_1) := (blk_cell BK193.out 1).trans rfl; have hcz24_2 : w23.cell? ⟨gb193, 2, none⟩ = some (.string a1_2) := (blk_cell BK193.out 2).trans rfl; have hcz24_3 : w23.cell? ⟨gb193, 3, none⟩ = some (.int .i64 a1_3) := (blk_cell BK193.out 3).trans rfl; have hcz24_4 : w23.cell? ⟨gb193, 4, none⟩ = some (.int .i64 a1_4) := (blk_cell BK193.out 4).trans rfl; have hcz24_5 : w23.cell? ⟨gb193, 5, none⟩ = some (.int .i64 a1_5) := (blk_cell BK193.out 5).trans rfl; have hcz24_6 : w23.cell? ⟨gb193, 6, none⟩ = some (.int .i64 a1_6) := (blk_cell BK193.out 6).trans rfl; have hcz24_7 : w23.cell? ⟨gb193, 7, none⟩ = some (.int .i64 a1_7) := (blk_cell BK193.out 7).trans rfl; have hfz24_0 := blk_frozen BK193.out 0; have hfz24_1 := blk_frozen BK193.out 1; have hfz24_2 := blk_frozen BK193.out 2; have hfz24_3 := blk_frozen BK193.out 3; have hfz24_4 := blk_frozen BK193.out 4; have hfz24_5 := blk_frozen BK193.out 5; have hfz24_6 := blk_frozen BK193.out 6; have hfz24_7 := blk_frozen BK193.out 7) | (go_at_call 16; (with_reducible refine (spec_IsDevice.calls k a1_0 a1_1 a1_2 a1_3 a1_4 a1_5 a1_6 a1_7 true _ A7.out).mono ?_); rintro e w25 ⟨rfl, hb⟩; have n0_ := Aside0.mk (blk_below (g := gb193) (o := .cells #[.string a1_0, .int .i64 a1_1, .string a1_2, .int .i64 a1_3, .int .i64 a1_4, .int .i64 a1_5, .int .i64 a1_6, .int .i64 a1_7] 30 (0, 0)) u8_3 hb); have n1_ := Aside0.mk (below_step u8_2 hb); clear BK193; clear HB; have BK193 := n0_; have HB := n1_; clear n0_ n1_; (try clear hb); (try clear hb2); (try clear hk); (try clear hi); have hcz26_0 : w25.cell? ⟨gb193, 0, none⟩ = some (.string a1_0) := (blk_cell BK193.out 0).trans rfl; have hcz26_1 : w25.cell? ⟨gb193, 1, none⟩ = some (.int .i64 a1_1) := (blk_cell BK193.out 1).trans rfl; have hcz26_2 : w25.cell? ⟨gb193, 2, none⟩ = some (.string a1_2) := (blk_cell BK193.out 2).trans rfl; have hcz26_3 : w25.cell? ⟨gb193, 3, none⟩ = some (.int .i64 a1_3) := (blk_cell BK193.out 3).trans rfl; have hcz26_4 : w25.cell? ⟨gb193, 4, none⟩ = some (.int .i64 a1_4) := (blk_cell BK193.out 4).trans rfl; have hcz26_5 : w25.cell? ⟨gb193, 5, none⟩ = some (.int .i64 a1_5) := (blk_cell BK193.out 5).trans rfl; have hcz26_6 : w25.cell? ⟨gb193, 6, none⟩ = some (.int .i64 a1_6) := (blk_cell BK193.out 6).trans rfl; have hcz26_7 : w25.cell? ⟨gb193, 7, none⟩ = some (.int .i64 a1_7) := (blk_cell BK193.out 7).trans rfl; have hfz26_0 := blk_frozen BK193.out 0; have hfz26_1 := blk_frozen BK193.out 1; have hfz26_2 := blk_frozen BK193.out 2; have hfz26_3 := blk_frozen BK193.out 3; have hfz26_4 := blk_frozen BK193.out 4; have hfz26_5 := blk_frozen BK193.out 5; have hfz26_6 := blk_frozen BK193.out 6; have hfz26_7 := blk_frozen BK193.out 7) | (go_at_call 20; (with_reducible refine (spec_FindDevice.calls k _ _ l0 a1_0 t196 _ ?side1 ?side2 A9.out).mono ?_); (case side1 => exact y8_0); (case side2 => exact HC0.out); rintro e w27 ⟨rfl, hb⟩; have n0_ := Aside0.mk (blk_below (g := gb193) (o := .cells #[.string a1_0, .int .i64 a1_1, .string a1_2, .int .i64 a1_3, .int .i64 a1_4, .int .i64 a1_5, .int .i64 a1_6, .int .i64 a1_7] 30 (0, 0)) u8_3 hb); have n1_ := Aside0.mk (below_step u8_2 hb); clear BK193; clear HB; have BK193 := n0_; have HB := n1_; clear n0_ n1_; (try clear hb); (try clear hb2); (try clear hk); (try clear hi); have hcz28_0 : w27.cell? ⟨gb193, 0, none⟩ = some (.string a1_0) := (blk_cell BK193.out 0).trans rfl; have hcz28_1 : w27.cell? ⟨gb193, 1, none⟩ = some (.int .i64 a1_1) := (blk_cell BK193.out 1).trans rfl; have hcz28_2 : w27.cell? ⟨gb193, 2, none⟩ = some (.string a1_2) := (blk_cell BK193.out 2).trans rfl; have hcz28_3 : w27.cell? ⟨gb193, 3, none⟩ = some (.int .i64 a1_3) := (blk_cell BK193.out 3).trans rfl; have hcz28_4 : w27.cell? ⟨gb193, 4, none⟩ = some (.int .i64 a1_4) := (blk_cell BK193.out 4).trans rfl; have hcz28_5 : w27.cell? ⟨gb193, 5, none⟩ = some (.int .i64 a1_5) := (blk_cell BK193.out 5).trans rfl; have hcz28_6 : w27.cell? ⟨gb193, 6, none⟩ = some (.int .i64 a1_6) := (blk_cell BK193.out 6).trans rfl; have hcz28_7 : w27.cell? ⟨gb193, 7, none⟩ = some (.int .i64 a1_7) := (blk_cell BK193.out 7).trans rfl; have hfz28_0 := blk_frozen BK193.out 0; have hfz28_1 := blk_frozen BK193.out 1; have hfz28_2 := blk_frozen BK193.out 2; have hfz28_3 := blk_frozen BK193.out 3; have hfz28_4 := blk_frozen BK193.out 4; have hfz28_5 := blk_frozen BK193.out 5; have hfz28_6 := blk_frozen BK193.out 6; have hfz28_7 := blk_frozen BK193.out 7) | (go_at_call 64; (with_reducible refine (spec_l6Hangs.calls k _ _ l0 a1_0 a1_1 a1_2 a1_3 a1_4 a1_5 a1_6 a1_7 t197 _ ?side1 ?side2 A22.out).mono ?_); (case side1 => exact y8_0); (case side2 => exact HC0.out); rintro e w29 ⟨rfl, hb⟩; have n0_ := Aside0.mk (blk_below (g := gb193) (o := .cells #[.string a1_0, .int .i64 a1_1, .string a1_2, .int .i64 a1_3, .int .i64 a1_4, .int .i64 a1_5, .int .i64 a1_6, .int .i64 a1_7] 30 (0, 0)) u8_3 hb); have n1_ := Aside0.mk (below_step u8_2 hb); clear BK193; clear HB; have BK193 := n0_; have HB := n1_; clear n0_ n1_; (try clear hb); (try clear hb2); (try clear hk); (try clear hi)))
      go_meet
      case rel => exact ⟨_, (!t197), u8_7, H', ⟨by first | omega | exact Nat.le_refl _⟩, ⟨by (with_reducible repeat (first | refine blk_drewN ?_ _ | refine blk_drew ?_ | refine blk_alloc ?_ _)); exact BK193.out⟩, ⟨by repeat (first | (with_reducible first | exact HB.out | apply below_alloc | apply pw_below_drewN | apply below_drew1 | refine below_set ?_ GE193.out) | exact HB.out)⟩⟩
   ·replace c8 := Bool.eq_false_iff.mpr c8
    subst c8
    have H1 : (spec_AddDevice.j0 k l0 true a1_0 a1_1 a1_2 a1_3 a1_4 a1_5 a1_6 a1_7) = some (r1, r2) := by rw [if_neg (show ¬ (false = true) by decide)] at H; exact H
    clear H
    have H := H1
    clear H1
    have H' := Aside0.mk H
    clear H
    go_wp2_with (first | ((with_reducible refine gate_callee (f := 24) rfl ?_); refine goesL_ (some 11) rfl rfl Try.func24 (by kernel_rfl) rfl #[.slice A0 l0.length c0] rfl u8_8 ?_; (with_reducible refine (spec_IsRig.calls k _ _ l0 true _ ?side1 ?side2 A5.out).mono ?_); (case side1 => exact y8_0); (case side2 => exact HC0.out); rintro e w30 ⟨rfl, hb⟩; refine ⟨_, rfl, ?_⟩; have n0_ := Aside0.mk (blk_below (g := gb193) (o := .cells #[.string a1_0, .int .i64 a1_1, .string a1_2, .int .i64 a1_3, .int .i64 a1_4, .int .i64 a1_5, .int .i64 a1_6, .int .i64 a1_7] 30 (0, 0)) u8_3 hb); have n1_ := Aside0.mk (below_step u8_2 hb); clear BK193; clear HB; have BK193 := n0_; have HB := n1_; clear n0_ n1_; (try clear hb); (try clear hb2); (try clear hk); (try clear hi); have hcz31_0 : w30.cell? ⟨gb193, 0, none⟩ = some (.string a1_0) := (blk_cell BK193.out 0).trans rfl; have hcz31_1 : w30.cell? ⟨gb193, 1, none⟩ = some (.int .i64 a1_1) := (blk_cell BK193.out 1).trans rfl; have hcz31_2 : w30.cell? ⟨gb193, 2, none⟩ = some (.string a1_2) := (blk_cell BK193.out 2).trans rfl; have hcz31_3 : w30.cell? ⟨gb193, 3, none⟩ = some (.int .i64 a1_3) := (blk_cell BK193.out 3).trans rfl; have hcz31_4 : w30.cell? ⟨gb193, 4, none⟩ = some (.int .i64 a1_4) := (blk_cell BK193.out 4).trans rfl; have hcz31_5 : w30.cell? ⟨gb193, 5, none⟩ = some (.int .i64 a1_5) := (blk_cell BK193.out 5).trans rfl; have hcz31_6 : w30.cell? ⟨gb193, 6, none⟩ = some (.int .i64 a1_6) := (blk_cell BK193.out 6).trans rfl; have hcz31_7 : w30.cell? ⟨gb193, 7, none⟩ = some (.int .i64 a1_7) := (blk_cell BK193.out 7).trans rfl; have hfz31_0 := blk_frozen BK193.out 0; have hfz31_1 := blk_frozen BK193.out 1; have hfz31_2 := blk_frozen BK193.out 2; have hfz31_3 := blk_frozen BK193.out 3; have hfz31_4 := blk_frozen BK193.out 4; have hfz31_5 := blk_frozen BK193.out 5; have hfz31_6 := blk_frozen BK193.out 6; have hfz31_7 := blk_frozen BK193.out 7) | (go_at_call 16; (with_reducible refine (spec_IsDevice.calls k a1_0 a1_1 a1_2 a1_3 a1_4 a1_5 a1_6 a1_7 false _ A7.out).mono ?_); rintro e w32 ⟨rfl, hb⟩; have n0_ := Aside0.mk (blk_below (g := gb193) (o := .cells #[.string a1_0, .int .i64 a1_1, .string a1_2, .int .i64 a1_3, .int .i64 a1_4, .int .i64 a1_5, .int .i64 a1_6, .int .i64 a1_7] 30 (0, 0)) u8_3 hb); have n1_ := Aside0.mk (below_step u8_2 hb); clear BK193; clear HB; have BK193 := n0_; have HB := n1_; clear n0_ n1_; (try clear hb); (try clear hb2); (try clear hk); (try clear hi)))
    go_meet
    case rel => exact ⟨_, (true), u8_7, H', ⟨by first | omega | exact Nat.le_refl _⟩, ⟨by (with_reducible repeat (first | refine blk_drewN ?_ _ | refine blk_drew ?_ | refine blk_alloc ?_ _)); exact BK193.out⟩, ⟨by repeat (first | (with_reducible first | exact HB.out | apply below_alloc | apply pw_below_drewN | apply below_drew1 | refine below_set ?_ GE193.out) | exact HB.out)⟩⟩
  ·replace c6 := Bool.eq_false_iff.mpr c6
   subst c6
   have H1 : (spec_AddDevice.j0 k l0 true a1_0 a1_1 a1_2 a1_3 a1_4 a1_5 a1_6 a1_7) = some (r1, r2) := by rw [if_neg (show ¬ (false = true) by decide)] at H; exact H
   clear H
   have H := H1
   clear H1
   have H' := Aside0.mk H
   clear H
   go_wp2_with (first | ((with_reducible refine gate_callee (f := 24) rfl ?_); refine goesL_ (some 11) rfl rfl Try.func24 (by kernel_rfl) rfl #[.slice A0 l0.length c0] rfl u8_8 ?_; (with_reducible refine (spec_IsRig.calls k _ _ l0 false _ ?side1 ?side2 A5.out).mono ?_); (case side1 => exact y8_0); (case side2 => exact HC0.out); rintro e w33 ⟨rfl, hb⟩; refine ⟨_, rfl, ?_⟩; have n0_ := Aside0.mk (blk_below (g := gb193) (o := .cells #[.string a1_0, .int .i64 a1_1, .string a1_2, .int .i64 a1_3, .int .i64 a1_4, .int .i64 a1_5, .int .i64 a1_6, .int .i64 a1_7] 30 (0, 0)) u8_3 hb); have n1_ := Aside0.mk (below_step u8_2 hb); clear BK193; clear HB; have BK193 := n0_; have HB := n1_; clear n0_ n1_; (try clear hb); (try clear hb2); (try clear hk); (try clear hi)))
   go_meet
   case rel => exact ⟨_, (true), u8_7, H', ⟨by first | omega | exact Nat.le_refl _⟩, ⟨by (with_reducible repeat (first | refine blk_drewN ?_ _ | refine blk_drew ?_ | refine blk_alloc ?_ _)); exact BK193.out⟩, ⟨by repeat (first | (with_reducible first | exact HB.out | apply below_alloc | apply pw_below_drewN | apply below_drew1 | refine below_set ?_ GE193.out) | exact HB.out)⟩⟩
 case rest =>
  clear HC3
  try clear c1
  try clear c2
  try clear p2
  try clear c4
  try clear c6
  try clear c8
  try clear c10
  try clear c10b0
  try clear c16
  try clear c16b0
  try clear c16b1
  try clear c24
  try clear hcz12_0
  try clear hcz12_1
  try clear hcz12_2
  try clear hcz12_3
  try clear hcz12_4
  try clear hcz12_5
  try clear hcz12_6
  try clear hcz12_7
  try clear hcz14_0
  try clear hcz14_1
  try clear hcz14_2
  try clear hcz14_3
  try clear hcz14_4
  try clear hcz14_5
  try clear hcz14_6
  try clear hcz14_7
  try clear hcz18_0
  try clear hcz18_1
  try clear hcz18_2
  try clear hcz18_3
  try clear hcz18_4
  try clear hcz18_5
  try clear hcz18_6
  try clear hcz18_7
  try clear hcz20_0
  try clear hcz20_1
  try clear hcz20_2
  try clear hcz20_3
  try clear hcz20_4
  try clear hcz20_5
  try clear hcz20_6
  try clear hcz20_7
  try clear hcz24_0
  try clear hcz24_1
  try clear hcz24_2
  try clear hcz24_3
  try clear hcz24_4
  try clear hcz24_5
  try clear hcz24_6
  try clear hcz24_7
  try clear hcz26_0
  try clear hcz26_1
  try clear hcz26_2
  try clear hcz26_3
  try clear hcz26_4
  try clear hcz26_5
  try clear hcz26_6
  try clear hcz26_7
  try clear hcz28_0
  try clear hcz28_1
  try clear hcz28_2
  try clear hcz28_3
  try clear hcz28_4
  try clear hcz28_5
  try clear hcz28_6
  try clear hcz28_7
  try clear hcz31_0
  try clear hcz31_1
  try clear hcz31_2
  try clear hcz31_3
  try clear hcz31_4
  try clear hcz31_5
  try clear hcz31_6
  try clear hcz31_7
  try clear hfz12_0
  try clear hfz12_1
  try clear hfz12_2
  try clear hfz12_3
  try clear hfz12_4
  try clear hfz12_5
  try clear hfz12_6
  try clear hfz12_7
  try clear hfz14_0
  try clear hfz14_1
  try clear hfz14_2
  try clear hfz14_3
  try clear hfz14_4
  try clear hfz14_5
  try clear hfz14_6
  try clear hfz14_7
  try clear hfz18_0
  try clear hfz18_1
  try clear hfz18_2
  try clear hfz18_3
  try clear hfz18_4
  try clear hfz18_5
  try clear hfz18_6
  try clear hfz18_7
  try clear hfz20_0
  try clear hfz20_1
  try clear hfz20_2
  try clear hfz20_3
  try clear hfz20_4
  try clear hfz20_5
  try clear hfz20_6
  try clear hfz20_7
  try clear hfz24_0
  try clear hfz24_1
  try clear hfz24_2
  try clear hfz24_3
  try clear hfz24_4
  try clear hfz24_5
  try clear hfz24_6
  try clear hfz24_7
  try clear hfz26_0
  try clear hfz26_1
  try clear hfz26_2
  try clear hfz26_3
  try clear hfz26_4
  try clear hfz26_5
  try clear hfz26_6
  try clear hfz26_7
  try clear hfz28_0
  try clear hfz28_1
  try clear hfz28_2
  try clear hfz28_3
  try clear hfz28_4
  try clear hfz28_5
  try clear hfz28_6
  try clear hfz28_7
  try clear hfz31_0
  try clear hfz31_1
  try clear hfz31_2
  try clear hfz31_3
  try clear hfz31_4
  try clear hfz31_5
  try clear hfz31_6
  try clear hfz31_7
  obtain ⟨kq, x35_2, rfl, HA, HJ2, BK193, HB⟩ := hcut
  cases kq with
  | zero => exact absurd HA.out (by simp [spec_AddDevice.j0])
  | succ kj2 =>
   have H := HA.out
   clear HA
   simp only [spec_AddDevice.j0] at H
   by_cases c34 : x35_2 = true
   ·subst c34
    have H1 : ((spec_l6Copies.f l0).bind fun t198 => (some (t198, false))) = some (r1, r2) := by rw [if_pos rfl] at H; exact H
    clear H
    have H := H1
    clear H1
    replace H := Option.bind_eq_some_iff.mp H
    obtain ⟨t198, A350, H⟩ := H
    replace H : (some (t198, false)) = some (r1, r2) := H
    have A35 := Aside0.mk A350
    clear A350
    simp only [Option.some.injEq, Prod.mk.injEq] at H
    obtain ⟨rfl, rfl⟩ := H
    go_wp2_with (first | ((with_reducible refine gate_callee (f := 69) rfl ?_); refine goesL_ (some 37) rfl rfl Try.func69 (by kernel_rfl) rfl #[.slice A0 l0.length c0] rfl u8_8 ?_; (with_reducible refine (spec_l6Copies.calls _ _ l0 t198 _ ?side1 ?side2 A35.out).mono ?_); (case side1 => exact y8_0); (case side2 => exact HC0.out); rintro e w36 ⟨v199, rfl, ho0, hb⟩; refine ⟨_, rfl, ?_⟩; have n0_ := Aside0.mk (Kd.R_lower (Kd.R_newB ho0 (g := gb193) (o := .cells #[.string a1_0, .int .i64 a1_1, .string a1_2, .int .i64 a1_3, .int .i64 a1_4, .int .i64 a1_5, .int .i64 a1_6, .int .i64 a1_7] 30 (0, 0)) u8_3) (below_size u8_2)); have n1_ := Aside0.mk (blk_below (g := gb193) (o := .cells #[.string a1_0, .int .i64 a1_1, .string a1_2, .int .i64 a1_3, .int .i64 a1_4, .int .i64 a1_5, .int .i64 a1_6, .int .i64 a1_7] 30 (0, 0)) u8_3 hb); have n2_ := Aside0.mk (below_step u8_2 hb); clear BK193; clear HB; have HO200 := n0_; have BK193 := n1_; have HB := n2_; clear n0_ n1_ n2_; (try clear hb); (try clear hb2); (try clear hk); (try clear hi); (try clear ho0)))
    go_ret2
    exact ⟨_, by first | rfl | (simp [*] <;> rfl), by (with_reducible repeat (first | apply Kd.R_alloc | apply Kd.R_drewN | apply Kd.R_drew)); exact Kd.R_mono HO200.out (fun _ hk => trivial), by repeat (first | (with_reducible first | exact HB.out | apply below_alloc | apply pw_below_drewN | apply below_drew1 | refine below_set ?_ GE193.out) | exact HB.out)⟩
   ·replace c34 := Bool.eq_false_iff.mpr c34
    subst c34
    have H1 : (spec_AddDevice.l0 kj2 (([] : List (S30))) false l0 (l0.length : Int) 0 a1_0 a1_1 a1_2 a1_3 a1_4 a1_5 a1_6 a1_7) = some (r1, r2) := by rw [if_neg (show ¬ (false = true) by decide)] at H; exact H
    clear H
    have H := H1
    clear H1
    obtain ⟨y201, hy201⟩ : ∃ y_ : List (S30), y_ = (([] : List (S30))) := ⟨_, rfl⟩
    replace H : (spec_AddDevice.l0 kj2 y201 false l0 (l0.length : Int) 0 a1_0 a1_1 a1_2 a1_3 a1_4 a1_5 a1_6 a1_7) = some (r1, r2) := by first | (rw [hy201]; with_reducible exact H) | (have H2_ := (Option.bind_some _ _).symm.trans H; rw [hy201]; with_reducible exact H2_) | (have H2_ := (Option.bind_some _ _).symm.trans H; with_reducible exact H2_) | with_reducible exact H | (rw [hy201]; exact H) | exact H
    have Ny201 := Aside0.mk hy201
    clear hy201
    have H' := Aside0.mk H
    clear H
    go_wp2_with (first | ((with_reducible refine gate_dst (N := 38) rfl ?_); (try (refine gate_guard (by rfl) ?_; dsimp only)); refine Kd.R_lit k30 _ 30 ?hg (N := 38) ?hd (xs := ([] : List (S30))) (inner := []) (ok := fun _ => True) (okp := fun _ => True) ?hr ?hp (fun _ hk => hk) trivial (Below.refl _ _) (Nat.le_refl _) (by simp) ?_; (case hd => rfl); (case hg => rfl); (case hr => first | (go_simp; done) | (go_simp; rfl)); (case hp => exact (Reps.none _ _)); intro v202 w37 ho38 hb hg_ hnew_; clear hg_ hnew_; (first | rw [← Ny201.out] at ho38 | (simp only [Int.reduceToNat] at ho38; rw [← Ny201.out] at ho38)); have n0_ := Aside0.mk (Kd.R_lower (Kd.R_newB ho38 (g := gb193) (o := .cells #[.string a1_0, .int .i64 a1_1, .string a1_2, .int .i64 a1_3, .int .i64 a1_4, .int .i64 a1_5, .int .i64 a1_6, .int .i64 a1_7] 30 (0, 0)) u8_3) (below_size u8_2)); have n1_ := Aside0.mk (blk_below (g := gb193) (o := .cells #[.string a1_0, .int .i64 a1_1, .string a1_2, .int .i64 a1_3, .int .i64 a1_4, .int .i64 a1_5, .int .i64 a1_6, .int .i64 a1_7] 30 (0, 0)) u8_3 hb); have n2_ := Aside0.mk (below_step u8_2 hb); clear BK193; clear HB; have HO203 := n0_; have BK193 := n1_; have HB := n2_; clear n0_ n1_ n2_; clear hb ho38))
    go_loopg [6, 7, 41] kj2 (fun kq v6 v7 v41 w' => ∃ (x6_2 : List (S30)) (x7_2 : Bool) (x41_2 : Int), v7 = .bool x7_2 ∧ v41 = .int .i64 x41_2 ∧ Aside0 (spec_AddDevice.l0 kq x6_2 x7_2 l0 (l0.length : Int) x41_2 a1_0 a1_1 a1_2 a1_3 a1_4 a1_5 a1_6 a1_7 = some (r1, r2)) ∧ Aside0 (kq ≤ kj2) ∧ Aside0 (Kd.R k30 30 w' w.heap.size (fun k_ => k_ ≠ gb193) v6 x6_2) ∧ Aside0 (w'.heap[gb193]? = some (.cells #[.string a1_0, .int .i64 a1_1, .string a1_2, .int .i64 a1_3, .int .i64 a1_4, .int .i64 a1_5, .int .i64 a1_6, .int .i64 a1_7] 30 (0, 0))) ∧ Aside0 (Below w.heap.size w w'))
    case atStart => exact ⟨(y201), (false), (0), u8_7, u8_7, H', ⟨Nat.le_refl _⟩, ⟨by (with_reducible repeat (first | apply Kd.R_alloc | apply Kd.R_drewN | apply Kd.R_drew)); exact Kd.R_mono HO203.out (fun _ hk => hk.2)⟩, ⟨by (with_reducible repeat (first | refine blk_drewN ?_ _ | refine blk_drew ?_ | refine blk_alloc ?_ _)); exact BK193.out⟩, ⟨by repeat (first | (with_reducible first | exact HB.out | apply below_alloc | apply pw_below_drewN | apply below_drew1 | refine below_set ?_ GE193.out) | exact HB.out)⟩⟩
    case round =>
     clear H'
     try clear c1
     try clear c2
     try clear p2
     try clear c3
     try clear c4
     try clear c6
     try clear c8
     try clear c10
     try clear c10b0
     try clear c16
     try clear c16b0
     try clear c16b1
     try clear c24
     try clear c34
     try clear hcz12_0
     try clear hcz12_1
     try clear hcz12_2
     try clear hcz12_3
     try clear hcz12_4
     try clear hcz12_5
     try clear hcz12_6
     try clear hcz12_7
     try clear hcz14_0
     try clear hcz14_1
     try clear hcz14_2
     try clear hcz14_3
     try clear hcz14_4
     try clear hcz14_5
     try clear hcz14_6
     try clear hcz14_7
     try clear hcz18_0
     try clear hcz18_1
     try clear hcz18_2
     try clear hcz18_3
     try clear hcz18_4
     try clear hcz18_5
     try clear hcz18_6
     try clear hcz18_7
     try clear hcz20_0
     try clear hcz20_1
     try clear hcz20_2
     try clear hcz20_3
     try clear hcz20_4
     try clear hcz20_5
     try clear hcz20_6
     try clear hcz20_7
     try clear hcz24_0
     try clear hcz24_1
     try clear hcz24_2
     try clear hcz24_3
     try clear hcz24_4
     try clear hcz24_5
     try clear hcz24_6
     try clear hcz24_7
     try clear hcz26_0
     try clear hcz26_1
     try clear hcz26_2
     try clear hcz26_3
     try clear hcz26_4
     try clear hcz26_5
     try clear hcz26_6
     try clear hcz26_7
     try clear hcz28_0
     try clear hcz28_1
     try clear hcz28_2
     try clear hcz28_3
     try clear hcz28_4
     try clear hcz28_5
     try clear hcz28_6
     try clear hcz28_7
     try clear hcz31_0
     try clear hcz31_1
     try clear hcz31_2
     try clear hcz31_3
     try clear hcz31_4
     try clear hcz31_5
     try clear hcz31_6
     try clear hcz31_7
     try clear hfz12_0
     try clear hfz12_1
     try clear hfz12_2
     try clear hfz12_3
     try clear hfz12_4
     try clear hfz12_5
     try clear hfz12_6
     try clear hfz12_7
     try clear hfz14_0
     try clear hfz14_1
     try clear hfz14_2
     try clear hfz14_3
     try clear hfz14_4
     try clear hfz14_5
     try clear hfz14_6
     try clear hfz14_7
     try clear hfz18_0
     try clear hfz18_1
     try clear hfz18_2
     try clear hfz18_3
     try clear hfz18_4
     try clear hfz18_5
     try clear hfz18_6
     try clear hfz18_7
     try clear hfz20_0
     try clear hfz20_1
     try clear hfz20_2
     try clear hfz20_3
     try clear hfz20_4
     try clear hfz20_5
     try clear hfz20_6
     try clear hfz20_7
     try clear hfz24_0
     try clear hfz24_1
     try clear hfz24_2
     try clear hfz24_3
     try clear hfz24_4
     try clear hfz24_5
     try clear hfz24_6
     try clear hfz24_7
     try clear hfz26_0
     try clear hfz26_1
     try clear hfz26_2
     try clear hfz26_3
     try clear hfz26_4
     try clear hfz26_5
     try clear hfz26_6
     try clear hfz26_7
     try clear hfz28_0
     try clear hfz28_1
     try clear hfz28_2
     try clear hfz28_3
     try clear hfz28_4
     try clear hfz28_5
     try clear hfz28_6
     try clear hfz28_7
     try clear hfz31_0
     try clear hfz31_1
     try clear hfz31_2
     try clear hfz31_3
     try clear hfz31_4
     try clear hfz31_5
     try clear hfz31_6
     try clear hfz31_7
     try clear p2
     obtain ⟨x6_2, x7_2, x41_2, rfl, rfl, HA, HK2, HO_6, BK193, HB⟩ := hrel
     cases gk with
     | zero => exact absurd HA.out (by simp [spec_AddDevice.l0])
     | succ k2 =>
      have H := HA.out
      clear HA
      simp only [spec_AddDevice.l0] at H
      by_cases c39 : x41_2 < (l0.length : Int)
      ·rw [if_pos c39] at H
       have c39b0 : decide (x41_2 < (l0.length : Int)) = true := decide_eq_true c39
       clear c39
       by_cases c40 : 0 ≤ x41_2
       ·rw [if_pos c40] at H
        have c40b0 : decide (0 ≤ x41_2) = true := decide_eq_true c40
        clear c40
        by_cases c41 : x41_2 < (l0.length : Int)
        ·rw [if_pos c41] at H
         have c41b0 : decide (x41_2 < (l0.length : Int)) = true := decide_eq_true c41
         clear c41
         by_cases c42 : x7_2 = true
         ·subst c42
          have H1 : (if x6_2.length < 1759218604441 then (spec_AddDevice.l0 k2 (x6_2 ++ [(⟨(rd_T30 l0 x41_2).f0, (rd_T30 l0 x41_2).f1, (rd_T30 l0 x41_2).f2, (⟨(rd_T30 l0 x41_2).f3.f0, (rd_T30 l0 x41_2).f3.f1⟩ : S28), (rd_T30 l0 x41_2).f4, (rd_T30 l0 x41_2).f5, (rd_T30 l0 x41_2).f6⟩ : S30)]) true l0 (l0.length : Int) (wrap64 (x41_2 + 1)) a1_0 a1_1 a1_2 a1_3 a1_4 a1_5 a1_6 a1_7) else (none)) = some (r1, r2) := by rw [if_pos rfl] at H; exact H
          clear H
          have H := H1
          clear H1
          by_cases c43 : x6_2.length < 1759218604441
          ·rw [if_pos c43] at H
           have LMc43 := Aside0.mk c43
           clear c43
           obtain ⟨y206, hy206⟩ : ∃ y_ : List (S30), y_ = (x6_2 ++ [(⟨(rd_T30 l0 x41_2).f0, (rd_T30 l0 x41_2).f1, (rd_T30 l0 x41_2).f2, (⟨(rd_T30 l0 x41_2).f3.f0, (rd_T30 l0 x41_2).f3.f1⟩ : S28), (rd_T30 l0 x41_2).f4, (rd_T30 l0 x41_2).f5, (rd_T30 l0 x41_2).f6⟩ : S30)]) := ⟨_, rfl⟩
           replace H : (spec_AddDevice.l0 k2 y206 true l0 (l0.length : Int) (wrap64 (x41_2 + 1)) a1_0 a1_1 a1_2 a1_3 a1_4 a1_5 a1_6 a1_7) = some (r1, r2) := by first | (rw [hy206]; with_reducible exact H) | (have H2_ := (Option.bind_some _ _).symm.trans H; rw [hy206]; with_reducible exact H2_) | (have H2_ := (Option.bind_some _ _).symm.trans H; with_reducible exact H2_) | with_reducible exact H | (rw [hy206]; exact H) | exact H
           have Ny206 := Aside0.mk hy206
           clear hy206
           have H' := Aside0.mk H
           clear H
           have p204 : 0 ≤ (x41_2 : Int) := of_decide_eq_true (by assumption)
           have q204 : x41_2 < (l0.length : Int) := of_decide_eq_true (by assumption)
           obtain ⟨ad204, e204, hx204_0, hx204_1, hx204_2, hx204_3, hx204_4, hx204_5, hx204_6, hx204_7⟩ := at_T30 HR0.out x41_2 p204 q204
           cases e204
           replace hx204_0 := bc HB.out hx204_0
           replace hx204_1 := bc HB.out hx204_1
           replace hx204_2 := bc HB.out hx204_2
           replace hx204_3 := bc HB.out hx204_3
           replace hx204_4 := bc HB.out hx204_4
           replace hx204_5 := bc HB.out hx204_5
           replace hx204_6 := bc HB.out hx204_6
           replace hx204_7 := bc HB.out hx204_7
           replace p204 := eq_true p204
           replace q204 := eq_true q204
           go_wp2_with (first | ((with_reducible refine gate_dst (N := 9) rfl ?_); (try (refine gate_guard (by rfl) ?_; dsimp only)); refine box_event ?hg (N := 9) ?hd (cs := #[.string (⟨#[]⟩ : ByteArray), .int .i64 0, .string (⟨#[]⟩ : ByteArray), .int .i64 0, .int .i64 0, .int .i64 0, .int .i64 0, .int .i64 0]) (t := 30) ?hr ?_; (case hd => rfl); (case hg => rfl); (case hr => first | (go_simp; done) | (go_simp; rfl)); intro gb205 hg w44 hbox hb; have n0_ := Aside0.mk (Kd.R_below (Kd.R_elderB u8_9 gb205 (Nat.le_of_eq hg.symm)) hb); have n1_ := Aside0.mk (blk_below (g := gb193) (o := .cells #[.string a1_0, .int .i64 a1_1, .string a1_2, .int .i64 a1_3, .int .i64 a1_4, .int .i64 a1_5, .int .i64 a1_6, .int .i64 a1_7] 30 (0, 0)) u8_3 hb); have n2_ := Aside0.mk (below_step u8_2 hb); have n3_ := Aside0.mk (hbox); have n4_ := Aside0.mk ((by rw [hg]; exact (below_size u8_2) : w.heap.size ≤ gb205)); have n5_ := Aside0.mk ((by rw [hg]; exact (below_size u8_2) : w.heap.size ≤ gb205)); have n6_ := Aside0.mk ((by rw [hg]; exact Nat.ne_of_lt (blk_lt (g := gb193) (o := .cells #[.string a1_0, .int .i64 a1_1, .string a1_2, .int .i64 a1_3, .int .i64 a1_4, .int .i64 a1_5, .int .i64 a1_6, .int .i64 a1_7] 30 (0, 0)) u8_3) : gb193 ≠ gb205)); have n7_ := Aside0.mk ((by rw [hg]; exact Nat.ne_of_gt (blk_lt (g := gb193) (o := .cells #[.string a1_0, .int .i64 a1_1, .string a1_2, .int .i64 a1_3, .int .i64 a1_4, .int .i64 a1_5, .int .i64 a1_6, .int .i64 a1_7] 30 (0, 0)) u8_3) : gb205 ≠ gb193)); clear HO_6; clear BK193; clear HB; have HO_6 := n0_; have BK193 := n1_; have HB := n2_; have BK205 := n3_; have GW205 := n4_; have GE205 := n5_; have NB193_205 := n6_; have NB205_193 := n7_; clear n0_ n1_ n2_ n3_ n4_ n5_ n6_ n7_; clear hb hbox hg; have hnb45 := NB205_193.out; have hnc45 := NB193_205.out; have hcz46_0 : w44.cell? ⟨gb205, 0, none⟩ = some (.string (⟨#[]⟩ : ByteArray)) := (blk_cell BK205.out 0).trans rfl; have hcz46_1 : w44.cell? ⟨gb205, 1, none⟩ = some (.int .i64 0) := (blk_cell BK205.out 1).trans rfl; have hcz46_2 : w44.cell? ⟨gb205, 2, none⟩ = some (.string (⟨#[]⟩ : ByteArray)) := (blk_cell BK205.out 2).trans rfl; have hcz46_3 : w44.cell? ⟨gb205, 3, none⟩ = some (.int .i64 0) := (blk_cell BK205.out 3).trans rfl; have hcz46_4 : w44.cell? ⟨gb205, 4, none⟩ = some (.int .i64 0) := (blk_cell BK205.out 4).trans rfl; have hcz46_5 : w44.cell? ⟨gb205, 5, none⟩ = some (.int .i64 0) := (blk_cell BK205.out 5).trans rfl; have hcz46_6 : w44.cell? ⟨gb205, 6, none⟩ = some (.int .i64 0) := (blk_cell BK205.out 6).trans rfl; have hcz46_7 : w44.cell? ⟨gb205, 7, none⟩ = some (.int .i64 0) := (blk_cell BK205.out 7).trans rfl; have hfz46_0 := blk_frozen BK205.out 0; have hfz46_1 := blk_frozen BK205.out 1; have hfz46_2 := blk_frozen BK205.out 2; have hfz46_3 := blk_frozen BK205.out 3; have hfz46_4 := blk_frozen BK205.out 4; have hfz46_5 := blk_frozen BK205.out 5; have hfz46_6 := blk_frozen BK205.out 6; have hfz46_7 := blk_frozen BK205.out 7) | ((with_reducible refine gate_builtin (b := .append) (xs := #[.tmp 58, .tmp 60]) rfl ?_); (try (refine gate_guard (by rfl) ?_; dsimp only)); at_builtin; refine Kd.R_append k30 (w0 := w) w.heap.size rfl (.tmp 58) (.tmp 60) 36 30 (.agg #[(.string ⟨#[]⟩), (.int .i64 0), (.string ⟨#[]⟩), (.int .i64 0), (.int .i64 0), (.int .i64 0), (.int .i64 0), (.int .i64 0)]) 80 rfl Try.underlying36 info30 rfl (by decide) (by omega) u6 x6_2 (⟨(rd_T30 l0 x41_2).f0, (rd_T30 l0 x41_2).f1, (rd_T30 l0 x41_2).f2, (⟨(rd_T30 l0 x41_2).f3.f0, (rd_T30 l0 x41_2).f3.f1⟩ : S28), (rd_T30 l0 x41_2).f4, (rd_T30 l0 x41_2).f5, (rd_T30 l0 x41_2).f6⟩ : S30) [.string ((rd_T30 l0 x41_2).f0), .int .i64 ((rd_T30 l0 x41_2).f1), .string ((rd_T30 l0 x41_2).f2), .int .i64 ((rd_T30 l0 x41_2).f3.f0), .int .i64 ((rd_T30 l0 x41_2).f3.f1), .int .i64 ((rd_T30 l0 x41_2).f4), .int .i64 ((rd_T30 l0 x41_2).f5), .int .i64 ((rd_T30 l0 x41_2).f6)] (fun k_ => k_ ≠ gb193 ∧ k_ ≠ gb205) (fun _ => False) rfl (by first | (go_simp; done) | (go_simp; rfl)) ?aP (fun _ hk => hk.elim) ?aF ?aO ?aB ?aS ?aL ?_; (case aP => exact k30_mkM _ _ _ (⟨(rd_T30 l0 x41_2).f0, (rd_T30 l0 x41_2).f1, (rd_T30 l0 x41_2).f2, (⟨(rd_T30 l0 x41_2).f3.f0, (rd_T30 l0 x41_2).f3.f1⟩ : S28), (rd_T30 l0 x41_2).f4, (rd_T30 l0 x41_2).f5, (rd_T30 l0 x41_2).f6⟩ : S30)); (case aB => exact u8_5); (case aF => exact (fun k_ hk => ⟨Kd.freshB (g := gb193) (o := .cells #[.string a1_0, .int .i64 a1_1, .string a1_2, .int .i64 a1_3, .int .i64 a1_4, .int .i64 a1_5, .int .i64 a1_6, .int .i64 a1_7] 30 (0, 0)) u8_1 k_ hk, Kd.freshB (g := gb205) (o := .cells #[.string ((rd_T30 l0 x41_2).f0), .int .i64 ((rd_T30 l0 x41_2).f1), .string ((rd_T30 l0 x41_2).f2), .int .i64 ((rd_T30 l0 x41_2).f3.f0), .int .i64 ((rd_T30 l0 x41_2).f3.f1), .int .i64 ((rd_T30 l0 x41_2).f4), .int .i64 ((rd_T30 l0 x41_2).f5), .int .i64 ((rd_T30 l0 x41_2).f6)] 30 (0, 0)) u8_0 k_ hk⟩)); (case aO => exact u8_4); (case aS => exact (below_size u8_5)); (case aL => have := LMc43.out; omega); intro v207 w47 ho hb hg hat; rw [← Ny206.out] at ho; have n0_ := Aside0.mk (blk_grown (g := gb193) (o := .cells #[.string a1_0, .int .i64 a1_1, .string a1_2, .int .i64 a1_3, .int .i64 a1_4, .int .i64 a1_5, .int .i64 a1_6, .int .i64 a1_7] 30 (0, 0)) u8_1 hg (Kd.R_away HO_6.out (fun _ hk => hk.1))); have n1_ := Aside0.mk (blk_grown (g := gb205) (o := .cells #[.string ((rd_T30 l0 x41_2).f0), .int .i64 ((rd_T30 l0 x41_2).f1), .string ((rd_T30 l0 x41_2).f2), .int .i64 ((rd_T30 l0 x41_2).f3.f0), .int .i64 ((rd_T30 l0 x41_2).f3.f1), .int .i64 ((rd_T30 l0 x41_2).f4), .int .i64 ((rd_T30 l0 x41_2).f5), .int .i64 ((rd_T30 l0 x41_2).f6)] 30 (0, 0)) u8_0 hg (Kd.R_away HO_6.out (fun _ hk => hk.2))); have n2_ := Aside0.mk (hb); have n3_ := Aside0.mk (ho); clear BK193; clear BK205; clear HB; clear HO_6; have BK193 := n0_; have BK205 := n1_; have HB := n2_; have HO208 := n3_; clear n0_ n1_ n2_ n3_; clear ho hb hg hat))
           go_roundg k2
           case measure => have := HJ2.out; have := HK2.out; omega
           case rel => exact ⟨(y206), (true), (wrap64 (x41_2 + 1)), u8_7, u8_7, H', ⟨by have := HJ2.out; have := HK2.out; omega⟩, ⟨by (with_reducible repeat (first | apply Kd.R_alloc | apply Kd.R_drewN | apply Kd.R_drew)); exact Kd.R_mono HO208.out (fun _ hk => hk.1)⟩, ⟨by (with_reducible repeat (first | refine blk_drewN ?_ _ | refine blk_drew ?_ | refine blk_alloc ?_ _)); exact BK193.out⟩, ⟨by repeat (first | (with_reducible first | exact HB.out | apply below_alloc | apply pw_below_drewN | apply below_drew1 | refine below_set ?_ GE193.out | refine below_set ?_ GE205.out) | exact HB.out)⟩⟩
          ·rw [if_neg c43] at H
           exact absurd H (by simp)
         ·replace c42 := Bool.eq_false_iff.mpr c42
          subst c42
          have H1 : (if (Op.bytesLess a1_0.toList (((rd_T30 l0 x41_2).f0).toList)) = true then (if x6_2.length < 1759218604441 then ((some (x6_2 ++ [(⟨a1_0, a1_1, a1_2, (⟨a1_3, a1_4⟩ : S28), a1_5, a1_6, a1_7⟩ : S30)] : List (S30))).bind fun y209 => (if y209.length < 1759218604441 then (spec_AddDevice.l0 k2 (y209 ++ [(⟨(rd_T30 l0 x41_2).f0, (rd_T30 l0 x41_2).f1, (rd_T30 l0 x41_2).f2, (⟨(rd_T30 l0 x41_2).f3.f0, (rd_T30 l0 x41_2).f3.f1⟩ : S28), (rd_T30 l0 x41_2).f4, (rd_T30 l0 x41_2).f5, (rd_T30 l0 x41_2).f6⟩ : S30)]) true l0 (l0.length : Int) (wrap64 (x41_2 + 1)) a1_0 a1_1 a1_2 a1_3 a1_4 a1_5 a1_6 a1_7) else (none))) else (none)) else (if x6_2.length < 1759218604441 then (spec_AddDevice.l0 k2 (x6_2 ++ [(⟨(rd_T30 l0 x41_2).f0, (rd_T30 l0 x41_2).f1, (rd_T30 l0 x41_2).f2, (⟨(rd_T30 l0 x41_2).f3.f0, (rd_T30 l0 x41_2).f3.f1⟩ : S28), (rd_T30 l0 x41_2).f4, (rd_T30 l0 x41_2).f5, (rd_T30 l0 x41_2).f6⟩ : S30)]) false l0 (l0.length : Int) (wrap64 (x41_2 + 1)) a1_0 a1_1 a1_2 a1_3 a1_4 a1_5 a1_6 a1_7) else (none))) = some (r1, r2) := by rw [if_neg (show ¬ (false = true) by decide)] at H; exact H
          clear H
          have H := H1
          clear H1
          by_cases c48 : (Op.bytesLess a1_0.toList (((rd_T30 l0 x41_2).f0).toList)) = true
          ·rw [if_pos c48] at H
           have c48b0 : (Op.bytesLess a1_0.toList (((rd_T30 l0 x41_2).f0).toList)) = true := c48
           have c48e : (Op.bytesLess (((rd_T30 l0 x41_2).f0).toList) a1_0.toList || (((rd_T30 l0 x41_2).f0).toList) == a1_0.toList) = false := blU_leF c48b0
           clear c48
           by_cases c49 : x6_2.length < 1759218604441
           ·rw [if_pos c49] at H
            have LMc49 := Aside0.mk c49
            clear c49
            obtain ⟨y209, hy209⟩ : ∃ y_ : List (S30), y_ = (x6_2 ++ [(⟨a1_0, a1_1, a1_2, (⟨a1_3, a1_4⟩ : S28), a1_5, a1_6, a1_7⟩ : S30)]) := ⟨_, rfl⟩
            replace H : (if y209.length < 1759218604441 then (spec_AddDevice.l0 k2 (y209 ++ [(⟨(rd_T30 l0 x41_2).f0, (rd_T30 l0 x41_2).f1, (rd_T30 l0 x41_2).f2, (⟨(rd_T30 l0 x41_2).f3.f0, (rd_T30 l0 x41_2).f3.f1⟩ : S28), (rd_T30 l0 x41_2).f4, (rd_T30 l0 x41_2).f5, (rd_T30 l0 x41_2).f6⟩ : S30)]) true l0 (l0.length : Int) (wrap64 (x41_2 + 1)) a1_0 a1_1 a1_2 a1_3 a1_4 a1_5 a1_6 a1_7) else (none)) = some (r1, r2) := by first | (rw [hy209]; with_reducible exact H) | (have H2_ := (Option.bind_some _ _).symm.trans H; rw [hy209]; with_reducible exact H2_) | (have H2_ := (Option.bind_some _ _).symm.trans H; with_reducible exact H2_) | with_reducible exact H | (rw [hy209]; exact H) | exact H
            have Ny209 := Aside0.mk hy209
            clear hy209
            by_cases c50 : y209.length < 1759218604441
            ·rw [if_pos c50] at H
             have LMc50 := Aside0.mk c50
             clear c50
             obtain ⟨y212, hy212⟩ : ∃ y_ : List (S30), y_ = (y209 ++ [(⟨(rd_T30 l0 x41_2).f0, (rd_T30 l0 x41_2).f1, (rd_T30 l0 x41_2).f2, (⟨(rd_T30 l0 x41_2).f3.f0, (rd_T30 l0 x41_2).f3.f1⟩ : S28), (rd_T30 l0 x41_2).f4, (rd_T30 l0 x41_2).f5, (rd_T30 l0 x41_2).f6⟩ : S30)]) := ⟨_, rfl⟩
             replace H : (spec_AddDevice.l0 k2 y212 true l0 (l0.length : Int) (wrap64 (x41_2 + 1)) a1_0 a1_1 a1_2 a1_3 a1_4 a1_5 a1_6 a1_7) = some (r1, r2) := by first | (rw [hy212]; with_reducible exact H) | (have H2_ := (Option.bind_some _ _).symm.trans H; rw [hy212]; with_reducible exact H2_) | (have H2_ := (Option.bind_some _ _).symm.trans H; with_reducible exact H2_) | with_reducible exact H | (rw [hy212]; exact H) | exact H
             have Ny212 := Aside0.mk hy212
             clear hy212
             have H' := Aside0.mk H
             clear H
             have p204 : 0 ≤ (x41_2 : Int) := of_decide_eq_true (by assumption)
             have q204 : x41_2 < (l0.length : Int) := of_decide_eq_true (by assumption)
             obtain ⟨ad204, e204, hx204_0, hx204_1, hx204_2, hx204_3, hx204_4, hx204_5, hx204_6, hx204_7⟩ := at_T30 HR0.out x41_2 p204 q204
             cases e204
             replace hx204_0 := bc HB.out hx204_0
             replace hx204_1 := bc HB.out hx204_1
             replace hx204_2 := bc HB.out hx204_2
             replace hx204_3 := bc HB.out hx204_3
             replace hx204_4 := bc HB.out hx204_4
             replace hx204_5 := bc HB.out hx204_5
             replace hx204_6 := bc HB.out hx204_6
             replace hx204_7 := bc HB.out hx204_7
             replace p204 := eq_true p204
             replace q204 := eq_true q204
             go_wp2_with (first | ((with_reducible refine gate_dst (N := 9) rfl ?_); (try (refine gate_guard (by rfl) ?_; dsimp only)); refine box_event ?hg (N := 9) ?hd (cs := #[.string (⟨#[]⟩ : ByteArray), .int .i64 0, .string (⟨#[]⟩ : ByteArray), .int .i64 0, .int .i64 0, .int .i64 0, .int .i64 0, .int .i64 0]) (t := 30) ?hr ?_; (case hd => rfl); (case hg => rfl); (case hr => first | (go_simp; done) | (go_simp; rfl)); intro gb205 hg w51 hbox hb; have n0_ := Aside0.mk (Kd.R_below (Kd.R_elderB u8_9 gb205 (Nat.le_of_eq hg.symm)) hb); have n1_ := Aside0.mk (blk_below (g := gb193) (o := .cells #[.string a1_0, .int .i64 a1_1, .string a1_2, .int .i64 a1_3, .int .i64 a1_4, .int .i64 a1_5, .int .i64 a1_6, .int .i64 a1_7] 30 (0, 0)) u8_3 hb); have n2_ := Aside0.mk (below_step u8_2 hb); have n3_ := Aside0.mk (hbox); have n4_ := Aside0.mk ((by rw [hg]; exact (below_size u8_2) : w.heap.size ≤ gb205)); have n5_ := Aside0.mk ((by rw [hg]; exact (below_size u8_2) : w.heap.size ≤ gb205)); have n6_ := Aside0.mk ((by rw [hg]; exact Nat.ne_of_lt (blk_lt (g := gb193) (o := .cells #[.string a1_0, .int .i64 a1_1, .string a1_2, .int .i64 a1_3, .int .i64 a1_4, .int .i64 a1_5, .int .i64 a1_6, .int .i64 a1_7] 30 (0, 0)) u8_3) : gb193 ≠ gb205)); have n7_ := Aside0.mk ((by rw [hg]; exact Nat.ne_of_gt (blk_lt (g := gb193) (o := .cells #[.string a1_0, .int .i64 a1_1, .string a1_2, .int .i64 a1_3, .int .i64 a1_4, .int .i64 a1_5, .int .i64 a1_6, .int .i64 a1_7] 30 (0, 0)) u8_3) : gb205 ≠ gb193)); clear HO_6; clear BK193; clear HB; have HO_6 := n0_; have BK193 := n1_; have HB := n2_; have BK205 := n3_; have GW205 := n4_; have GE205 := n5_; have NB193_205 := n6_; have NB205_193 := n7_; clear n0_ n1_ n2_ n3_ n4_ n5_ n6_ n7_; clear hb hbox hg; have hnb52 := NB205_193.out; have hnc52 := NB193_205.out; have hcz53_0 : w51.cell? ⟨gb205, 0, none⟩ = some (.string (⟨#[]⟩ : ByteArray)) := (blk_cell BK205.out 0).trans rfl; have hcz53_1 : w51.cell? ⟨gb205, 1, none⟩ = some (.int .i64 0) := (blk_cell BK205.out 1).trans rfl; have hcz53_2 : w51.cell? ⟨gb205, 2, none⟩ = some (.string (⟨#[]⟩ : ByteArray)) := (blk_cell BK205.out 2).trans rfl; have hcz53_3 : w51.cell? ⟨gb205, 3, none⟩ = some (.int .i64 0) := (blk_cell BK205.out 3).trans rfl; have hcz53_4 : w51.cell? ⟨gb205, 4, none⟩ = some (.int .i64 0) := (blk_cell BK205.out 4).trans rfl; have hcz53_5 : w51.cell? ⟨gb205, 5, none⟩ = some (.int .i64 0) := (blk_cell BK205.out 5).trans rfl; have hcz53_6 : w51.cell? ⟨gb205, 6, none⟩ = some (.int .i64 0) := (blk_cell BK205.out 6).trans rfl; have hcz53_7 : w51.cell? ⟨gb205, 7, none⟩ = some (.int .i64 0) := (blk_cell BK205.out 7).trans rfl; have hfz53_0 := blk_frozen BK205.out 0; have hfz53_1 := blk_frozen BK205.out 1; have hfz53_2 := blk_frozen BK205.out 2; have hfz53_3 := blk_frozen BK205.out 3; have hfz53_4 := blk_frozen BK205.out 4; have hfz53_5 := blk_frozen BK205.out 5; have hfz53_6 := blk_frozen BK205.out 6; have hfz53_7 := blk_frozen BK205.out 7; have hcz54_0 : w51.cell? ⟨gb193, 0, none⟩ = some (.string a1_0) := (blk_cell BK193.out 0).trans rfl; have hcz54_1 : w51.cell? ⟨gb193, 1, none⟩ = some (.int .i64 a1_1) := (blk_cell BK193.out 1).trans rfl; have hcz54_2 : w51.cell? ⟨gb193, 2, none⟩ = some (.string a1_2) := (blk_cell BK193.out 2).trans rfl; have hcz54_3 : w51.cell? ⟨gb193, 3, none⟩ = some (.int .i64 a1_3) := (blk_cell BK193.out 3).trans rfl; have hcz54_4 : w51.cell? ⟨gb193, 4, none⟩ = some (.int .i64 a1_4) := (blk_cell BK193.out 4).trans rfl; have hcz54_5 : w51.cell? ⟨gb193, 5, none⟩ = some (.int .i64 a1_5) := (blk_cell BK193.out 5).trans rfl; have hcz54_6 : w51.cell? ⟨gb193, 6, none⟩ = some (.int .i64 a1_6) := (blk_cell BK193.out 6).trans rfl; have hcz54_7 : w51.cell? ⟨gb193, 7, none⟩ = some (.int .i64 a1_7) := (blk_cell BK193.out 7).trans rfl; have hfz54_0 := blk_frozen BK193.out 0; have hfz54_1 := blk_frozen BK193.out 1; have hfz54_2 := blk_frozen BK193.out 2; have hfz54_3 := blk_frozen BK193.out 3; have hfz54_4 := blk_frozen BK193.out 4; have hfz54_5 := blk_frozen BK193.out 5; have hfz54_6 := blk_frozen BK193.out 6; have hfz54_7 := blk_frozen BK193.out 7) | ((with_reducible refine gate_builtin (b := .append) (xs := #[.tmp 54, .tmp 56]) rfl ?_); (try (refine gate_guard (by rfl) ?_; dsimp only)); at_builtin; refine Kd.R_append k30 (w0 := w) w.heap.size rfl (.tmp 54) (.tmp 56) 36 30 (.agg #[(.string ⟨#[]⟩), (.int .i64 0), (.string ⟨#[]⟩), (.int .i64 0), (.int .i64 0), (.int .i64 0), (.int .i64 0), (.int .i64 0)]) 80 rfl Try.underlying36 info30 rfl (by decide) (by omega) u6 x6_2 (⟨a1_0, a1_1, a1_2, (⟨a1_3, a1_4⟩ : S28), a1_5, a1_6, a1_7⟩ : S30) [.string a1_0, .int .i64 a1_1, .string a1_2, .int .i64 a1_3, .int .i64 a1_4, .int .i64 a1_5, .int .i64 a1_6, .int .i64 a1_7] (fun k_ => k_ ≠ gb193 ∧ k_ ≠ gb205) (fun _ => False) rfl (by first | (go_simp; done) | (go_simp; rfl)) ?aP (fun _ hk => hk.elim) ?aF ?aO ?aB ?aS ?aL ?_; (case aP => exact k30_mkM _ _ _ (⟨a1_0, a1_1, a1_2, (⟨a1_3, a1_4⟩ : S28), a1_5, a1_6, a1_7⟩ : S30)); (case aB => exact u8_5); (case aF => exact (fun k_ hk => ⟨Kd.freshB (g := gb193) (o := .cells #[.string a1_0, .int .i64 a1_1, .string a1_2, .int .i64 a1_3, .int .i64 a1_4, .int .i64 a1_5, .int .i64 a1_6, .int .i64 a1_7] 30 (0, 0)) u8_1 k_ hk, Kd.freshB (g := gb205) (o := .cells #[.string ((rd_T30 l0 x41_2).f0), .int .i64 ((rd_T30 l0 x41_2).f1), .string ((rd_T30 l0 x41_2).f2), .int .i64 ((rd_T30 l0 x41_2).f3.f0), .int .i64 ((rd_T30 l0 x41_2).f3.f1), .int .i64 ((rd_T30 l0 x41_2).f4), .int .i64 ((rd_T30 l0 x41_2).f5), .int .i64 ((rd_T30 l0 x41_2).f6)] 30 (0, 0)) u8_0 k_ hk⟩)); (case aO => exact u8_4); (case aS => exact (below_size u8_5)); (case aL => have := LMc49.out; omega); intro v210 w55 ho hb hg hat; rw [← Ny209.out] at ho; have n0_ := Aside0.mk (blk_grown (g := gb193) (o := .cells #[.string a1_0, .int .i64 a1_1, .string a1_2, .int .i64 a1_3, .int .i64 a1_4, .int .i64 a1_5, .int .i64 a1_6, .int .i64 a1_7] 30 (0, 0)) u8_1 hg (Kd.R_away HO_6.out (fun _ hk => hk.1))); have n1_ := Aside0.mk (blk_grown (g := gb205) (o := .cells #[.string ((rd_T30 l0 x41_2).f0), .int .i64 ((rd_T30 l0 x41_2).f1), .string ((rd_T30 l0 x41_2).f2), .int .i64 ((rd_T30 l0 x41_2).f3.f0), .int .i64 ((rd_T30 l0 x41_2).f3.f1), .int .i64 ((rd_T30 l0 x41_2).f4), .int .i64 ((rd_T30 l0 x41_2).f5), .int .i64 ((rd_T30 l0 x41_2).f6)] 30 (0, 0)) u8_0 hg (Kd.R_away HO_6.out (fun _ hk => hk.2))); have n2_ := Aside0.mk (hb); have n3_ := Aside0.mk (ho); clear BK193; clear BK205; clear HB; clear HO_6; have BK193 := n0_; have BK205 := n1_; have HB := n2_; have HO211 := n3_; clear n0_ n1_ n2_ n3_; clear ho hb hg hat; have hcz56_0 : w55.cell? ⟨gb205, 0, none⟩ = some (.string ((rd_T30 l0 x41_2).f0)) := (blk_cell BK205.out 0).trans rfl; have hcz56_1 : w55.cell? ⟨gb205, 1, none⟩ = some (.int .i64 ((rd_T30 l0 x41_2).f1)) := (blk_cell BK205.out 1).trans rfl; have hcz56_2 : w55.cell? ⟨gb205, 2, none⟩ = some (.string ((rd_T30 l0 x41_2).f2)) := (blk_cell BK205.out 2).trans rfl; have hcz56_3 : w55.cell? ⟨gb205, 3, none⟩ = some (.int .i64 ((rd_T30 l0 x41_2).f3.f0)) := (blk_cell BK205.out 3).trans rfl; have hcz56_4 : w55.cell? ⟨gb205, 4, none⟩ = some (.int .i64 ((rd_T30 l0 x41_2).f3.f1)) := (blk_cell BK205.out 4).trans rfl; have hcz56_5 : w55.cell? ⟨gb205, 5, none⟩ = some (.int .i64 ((rd_T30 l0 x41_2).f4)) := (blk_cell BK205.out 5).trans rfl; have hcz56_6 : w55.cell? ⟨gb205, 6, none⟩ = some (.int .i64 ((rd_T30 l0 x41_2).f5)) := (blk_cell BK205.out 6).trans rfl; have hcz56_7 : w55.cell? ⟨gb205, 7, none⟩ = some (.int .i64 ((rd_T30 l0 x41_2).f6)) := (blk_cell BK205.out 7).trans rfl; have hfz56_0 := blk_frozen BK205.out 0; have hfz56_1 := blk_frozen BK205.out 1; have hfz56_2 := blk_frozen BK205.out 2; have hfz56_3 := blk_frozen BK205.out 3; have hfz56_4 := blk_frozen BK205.out 4; have hfz56_5 := blk_frozen BK205.out 5; have hfz56_6 := blk_frozen BK205.out 6; have hfz56_7 := blk_frozen BK205.out 7) | ((with_reducible refine gate_builtin (b := .append) (xs := #[.tmp 58, .tmp 60]) rfl ?_); (try (refine gate_guard (by rfl) ?_; dsimp only)); at_builtin; refine Kd.R_append k30 (w0 := w) w.heap.size rfl (.tmp 58) (.tmp 60) 36 30 (.agg #[(.string ⟨#[]⟩), (.int .i64 0), (.string ⟨#[]⟩), (.int .i64 0), (.int .i64 0), (.int .i64 0), (.int .i64 0), (.int .i64 0)]) 80 rfl Try.underlying36 info30 rfl (by decide) (by omega) v210 y209 (⟨(rd_T30 l0 x41_2).f0, (rd_T30 l0 x41_2).f1, (rd_T30 l0 x41_2).f2, (⟨(rd_T30 l0 x41_2).f3.f0, (rd_T30 l0 x41_2).f3.f1⟩ : S28), (rd_T30 l0 x41_2).f4, (rd_T30 l0 x41_2).f5, (rd_T30 l0 x41_2).f6⟩ : S30) [.string ((rd_T30 l0 x41_2).f0), .int .i64 ((rd_T30 l0 x41_2).f1), .string ((rd_T30 l0 x41_2).f2), .int .i64 ((rd_T30 l0 x41_2).f3.f0), .int .i64 ((rd_T30 l0 x41_2).f3.f1), .int .i64 ((rd_T30 l0 x41_2).f4), .int .i64 ((rd_T30 l0 x41_2).f5), .int .i64 ((rd_T30 l0 x41_2).f6)] (fun k_ => k_ ≠ gb193 ∧ k_ ≠ gb205) (fun _ => False) rfl rfl ?aP (fun _ hk => hk.elim) ?aF ?aO ?aB ?aS ?aL ?_; (case aP => exact k30_mkM _ _ _ (⟨(rd_T30 l0 x41_2).f0, (rd_T30 l0 x41_2).f1, (rd_T30 l0 x41_2).f2, (⟨(rd_T30 l0 x41_2).f3.f0, (rd_T30 l0 x41_2).f3.f1⟩ : S28), (rd_T30 l0 x41_2).f4, (rd_T30 l0 x41_2).f5, (rd_T30 l0 x41_2).f6⟩ : S30)); (case aB => exact u8_5); (case aF => exact (fun k_ hk => ⟨Kd.freshB (g := gb193) (o := .cells #[.string a1_0, .int .i64 a1_1, .string a1_2, .int .i64 a1_3, .int .i64 a1_4, .int .i64 a1_5, .int .i64 a1_6, .int .i64 a1_7] 30 (0, 0)) u8_3 k_ hk, Kd.freshB (g := gb205) (o := .cells #[.string ((rd_T30 l0 x41_2).f0), .int .i64 ((rd_T30 l0 x41_2).f1), .string ((rd_T30 l0 x41_2).f2), .int .i64 ((rd_T30 l0 x41_2).f3.f0), .int .i64 ((rd_T30 l0 x41_2).f3.f1), .int .i64 ((rd_T30 l0 x41_2).f4), .int .i64 ((rd_T30 l0 x41_2).f5), .int .i64 ((rd_T30 l0 x41_2).f6)] 30 (0, 0)) (by (with_reducible repeat (first | refine blk_drewN ?_ _ | refine blk_drew ?_ | refine blk_alloc ?_ _)); exact BK205.out) k_ hk⟩)); (case aO => exact (by (with_reducible repeat (first | apply Kd.R_alloc | apply Kd.R_drewN | apply Kd.R_drew)); exact HO211.out)); (case aS => exact (below_size u8_5)); (case aL => have := LMc50.out; omega); intro v213 w57 ho hb hg hat; rw [← Ny212.out] at ho; have n0_ := Aside0.mk (blk_grown (g := gb193) (o := .cells #[.string a1_0, .int .i64 a1_1, .string a1_2, .int .i64 a1_3, .int .i64 a1_4, .int .i64 a1_5, .int .i64 a1_6, .int .i64 a1_7] 30 (0, 0)) u8_3 hg (Kd.R_away HO211.out (fun _ hk => hk.1))); have n1_ := Aside0.mk (blk_grown (g := gb205) (o := .cells #[.string ((rd_T30 l0 x41_2).f0), .int .i64 ((rd_T30 l0 x41_2).f1), .string ((rd_T30 l0 x41_2).f2), .int .i64 ((rd_T30 l0 x41_2).f3.f0), .int .i64 ((rd_T30 l0 x41_2).f3.f1), .int .i64 ((rd_T30 l0 x41_2).f4), .int .i64 ((rd_T30 l0 x41_2).f5), .int .i64 ((rd_T30 l0 x41_2).f6)] 30 (0, 0)) (by (with_reducible repeat (first | refine blk_drewN ?_ _ | refine blk_drew ?_ | refine blk_alloc ?_ _)); exact BK205.out) hg (Kd.R_away HO211.out (fun _ hk => hk.2))); have n2_ := Aside0.mk (hb); have n3_ := Aside0.mk (ho); clear BK193; clear BK205; clear HB; clear HO211; have BK193 := n0_; have BK205 := n1_; have HB := n2_; have HO214 := n3_; clear n0_ n1_ n2_ n3_; clear ho hb hg hat))
             go_roundg k2
             case measure => have := HJ2.out; have := HK2.out; omega
             case rel => exact ⟨(y212), (true), (wrap64 (x41_2 + 1)), u8_7, u8_7, H', ⟨by have := HJ2.out; have := HK2.out; omega⟩, ⟨by (with_reducible repeat (first | apply Kd.R_alloc | apply Kd.R_drewN | apply Kd.R_drew)); exact Kd.R_mono HO214.out (fun _ hk => hk.1)⟩, ⟨by (with_reducible repeat (first | refine blk_drewN ?_ _ | refine blk_drew ?_ | refine blk_alloc ?_ _)); exact BK193.out⟩, ⟨by repeat (first | (with_reducible first | exact HB.out | apply below_alloc | apply pw_below_drewN | apply below_drew1 | refine below_set ?_ GE193.out | refine below_set ?_ GE205.out) | exact HB.out)⟩⟩
            ·rw [if_neg c50] at H
             exact absurd H (by simp)
           ·rw [if_neg c49] at H
            exact absurd H (by simp)
          ·rw [if_neg c48] at H
           have c48b0 : (Op.bytesLess a1_0.toList (((rd_T30 l0 x41_2).f0).toList)) = false := by simpa using c48
           have c48e : (Op.bytesLess (((rd_T30 l0 x41_2).f0).toList) a1_0.toList || (((rd_T30 l0 x41_2).f0).toList) == a1_0.toList) = true := blU_leT c48b0
           clear c48
           by_cases c58 : x6_2.length < 1759218604441
           ·rw [if_pos c58] at H
            have LMc58 := Aside0.mk c58
            clear c58
            obtain ⟨y215, hy215⟩ : ∃ y_ : List (S30), y_ = (x6_2 ++ [(⟨(rd_T30 l0 x41_2).f0, (rd_T30 l0 x41_2).f1, (rd_T30 l0 x41_2).f2, (⟨(rd_T30 l0 x41_2).f3.f0, (rd_T30 l0 x41_2).f3.f1⟩ : S28), (rd_T30 l0 x41_2).f4, (rd_T30 l0 x41_2).f5, (rd_T30 l0 x41_2).f6⟩ : S30)]) := ⟨_, rfl⟩
            replace H : (spec_AddDevice.l0 k2 y215 false l0 (l0.length : Int) (wrap64 (x41_2 + 1)) a1_0 a1_1 a1_2 a1_3 a1_4 a1_5 a1_6 a1_7) = some (r1, r2) := by first | (rw [hy215]; with_reducible exact H) | (have H2_ := (Option.bind_some _ _).symm.trans H; rw [hy215]; with_reducible exact H2_) | (have H2_ := (Option.bind_some _ _).symm.trans H; with_reducible exact H2_) | with_reducible exact H | (rw [hy215]; exact H) | exact H
            have Ny215 := Aside0.mk hy215
            clear hy215
            have H' := Aside0.mk H
            clear H
            have p204 : 0 ≤ (x41_2 : Int) := of_decide_eq_true (by assumption)
            have q204 : x41_2 < (l0.length : Int) := of_decide_eq_true (by assumption)
            obtain ⟨ad204, e204, hx204_0, hx204_1, hx204_2, hx204_3, hx204_4, hx204_5, hx204_6, hx204_7⟩ := at_T30 HR0.out x41_2 p204 q204
            cases e204
            replace hx204_0 := bc HB.out hx204_0
            replace hx204_1 := bc HB.out hx204_1
            replace hx204_2 := bc HB.out hx204_2
            replace hx204_3 := bc HB.out hx204_3
            replace hx204_4 := bc HB.out hx204_4
            replace hx204_5 := bc HB.out hx204_5
            replace hx204_6 := bc HB.out hx204_6
            replace hx204_7 := bc HB.out hx204_7
            replace p204 := eq_true p204
            replace q204 := eq_true q204
            go_wp2_with (first | ((with_reducible refine gate_dst (N := 9) rfl ?_); (try (refine gate_guard (by rfl) ?_; dsimp only)); refine box_event ?hg (N := 9) ?hd (cs := #[.string (⟨#[]⟩ : ByteArray), .int .i64 0, .string (⟨#[]⟩ : ByteArray), .int .i64 0, .int .i64 0, .int .i64 0, .int .i64 0, .int .i64 0]) (t := 30) ?hr ?_; (case hd => rfl); (case hg => rfl); (case hr => first | (go_simp; done) | (go_simp; rfl)); intro gb205 hg w59 hbox hb; have n0_ := Aside0.mk (Kd.R_below (Kd.R_elderB u8_9 gb205 (Nat.le_of_eq hg.symm)) hb); have n1_ := Aside0.mk (blk_below (g := gb193) (o := .cells #[.string a1_0, .int .i64 a1_1, .string a1_2, .int .i64 a1_3, .int .i64 a1_4, .int .i64 a1_5, .int .i64 a1_6, .int .i64 a1_7] 30 (0, 0)) u8_3 hb); have n2_ := Aside0.mk (below_step u8_2 hb); have n3_ := Aside0.mk (hbox); have n4_ := Aside0.mk ((by rw [hg]; exact (below_size u8_2) : w.heap.size ≤ gb205)); have n5_ := Aside0.mk ((by rw [hg]; exact (below_size u8_2) : w.heap.size ≤ gb205)); have n6_ := Aside0.mk ((by rw [hg]; exact Nat.ne_of_lt (blk_lt (g := gb193) (o := .cells #[.string a1_0, .int .i64 a1_1, .string a1_2, .int .i64 a1_3, .int .i64 a1_4, .int .i64 a1_5, .int .i64 a1_6, .int .i64 a1_7] 30 (0, 0)) u8_3) : gb193 ≠ gb205)); have n7_ := Aside0.mk ((by rw [hg]; exact Nat.ne_of_gt (blk_lt (g := gb193) (o := .cells #[.string a1_0, .int .i64 a1_1, .string a1_2, .int .i64 a1_3, .int .i64 a1_4, .int .i64 a1_5, .int .i64 a1_6, .int .i64 a1_7] 30 (0, 0)) u8_3) : gb205 ≠ gb193)); clear HO_6; clear BK193; clear HB; have HO_6 := n0_; have BK193 := n1_; have HB := n2_; have BK205 := n3_; have GW205 := n4_; have GE205 := n5_; have NB193_205 := n6_; have NB205_193 := n7_; clear n0_ n1_ n2_ n3_ n4_ n5_ n6_ n7_; clear hb hbox hg; have hnb60 := NB205_193.out; have hnc60 := NB193_205.out; have hcz61_0 : w59.cell? ⟨gb205, 0, none⟩ = some (.string (⟨#[]⟩ : ByteArray)) := (blk_cell BK205.out 0).trans rfl; have hcz61_1 : w59.cell? ⟨gb205, 1, none⟩ = some (.int .i64 0) := (blk_cell BK205.out 1).trans rfl; have hcz61_2 : w59.cell? ⟨gb205, 2, none⟩ = some (.string (⟨#[]⟩ : ByteArray)) := (blk_cell BK205.out 2).trans rfl; have hcz61_3 : w59.cell? ⟨gb205, 3, none⟩ = some (.int .i64 0) := (blk_cell BK205.out 3).trans rfl; have hcz61_4 : w59.cell? ⟨gb205, 4, none⟩ = some (.int .i64 0) := (blk_cell BK205.out 4).trans rfl; have hcz61_5 : w59.cell? ⟨gb205, 5, none⟩ = some (.int .i64 0) := (blk_cell BK205.out 5).trans rfl; have hcz61_6 : w59.cell? ⟨gb205, 6, none⟩ = some (.int .i64 0) := (blk_cell BK205.out 6).trans rfl; have hcz61_7 : w59.cell? ⟨gb205, 7, none⟩ = some (.int .i64 0) := (blk_cell BK205.out 7).trans rfl; have hfz61_0 := blk_frozen BK205.out 0; have hfz61_1 := blk_frozen BK205.out 1; have hfz61_2 := blk_frozen BK205.out 2; have hfz61_3 := blk_frozen BK205.out 3; have hfz61_4 := blk_frozen BK205.out 4; have hfz61_5 := blk_frozen BK205.out 5; have hfz61_6 := blk_frozen BK205.out 6; have hfz61_7 := blk_frozen BK205.out 7; have hcz62_0 : w59.cell? ⟨gb193, 0, none⟩ = some (.string a1_0) := (blk_cell BK193.out 0).trans rfl; have hcz62_1 : w59.cell? ⟨gb193, 1, none⟩ = some (.int .i64 a1_1) := (blk_cell BK193.out 1).trans rfl; have hcz62_2 : w59.cell? ⟨gb193, 2, none⟩ = some (.string a1_2) := (blk_cell BK193.out 2).trans rfl; have hcz62_3 : w59.cell? ⟨gb193, 3, none⟩ = some (.int .i64 a1_3) := (blk_cell BK193.out 3).trans rfl; have hcz62_4 : w59.cell? ⟨gb193, 4, none⟩ = some (.int .i64 a1_4) := (blk_cell BK193.out 4).trans rfl; have hcz62_5 : w59.cell? ⟨gb193, 5, none⟩ = some (.int .i64 a1_5) := (blk_cell BK193.out 5).trans rfl; have hcz62_6 : w59.cell? ⟨gb193, 6, none⟩ = some (.int .i64 a1_6) := (blk_cell BK193.out 6).trans rfl; have hcz62_7 : w59.cell? ⟨gb193, 7, none⟩ = some (.int .i64 a1_7) := (blk_cell BK193.out 7).trans rfl; have hfz62_0 := blk_frozen BK193.out 0; have hfz62_1 := blk_frozen BK193.out 1; have hfz62_2 := blk_frozen BK193.out 2; have hfz62_3 := blk_frozen BK193.out 3; have hfz62_4 := blk_frozen BK193.out 4; have hfz62_5 := blk_frozen BK193.out 5; have hfz62_6 := blk_frozen BK193.out 6; have hfz62_7 := blk_frozen BK193.out 7) | ((with_reducible refine gate_builtin (b := .append) (xs := #[.tmp 58, .tmp 60]) rfl ?_); (try (refine gate_guard (by rfl) ?_; dsimp only)); at_builtin; refine Kd.R_append k30 (w0 := w) w.heap.size rfl (.tmp 58) (.tmp 60) 36 30 (.agg #[(.string ⟨#[]⟩), (.int .i64 0), (.string ⟨#[]⟩), (.int .i64 0), (.int .i64 0), (.int .i64 0), (.int .i64 0), (.int .i64 0)]) 80 rfl Try.underlying36 info30 rfl (by decide) (by omega) u6 x6_2 (⟨(rd_T30 l0 x41_2).f0, (rd_T30 l0 x41_2).f1, (rd_T30 l0 x41_2).f2, (⟨(rd_T30 l0 x41_2).f3.f0, (rd_T30 l0 x41_2).f3.f1⟩ : S28), (rd_T30 l0 x41_2).f4, (rd_T30 l0 x41_2).f5, (rd_T30 l0 x41_2).f6⟩ : S30) [.string ((rd_T30 l0 x41_2).f0), .int .i64 ((rd_T30 l0 x41_2).f1), .string ((rd_T30 l0 x41_2).f2), .int .i64 ((rd_T30 l0 x41_2).f3.f0), .int .i64 ((rd_T30 l0 x41_2).f3.f1), .int .i64 ((rd_T30 l0 x41_2).f4), .int .i64 ((rd_T30 l0 x41_2).f5), .int .i64 ((rd_T30 l0 x41_2).f6)] (fun k_ => k_ ≠ gb193 ∧ k_ ≠ gb205) (fun _ => False) rfl (by first | (go_simp; done) | (go_simp; rfl)) ?aP (fun _ hk => hk.elim) ?aF ?aO ?aB ?aS ?aL ?_; (case aP => exact k30_mkM _ _ _ (⟨(rd_T30 l0 x41_2).f0, (rd_T30 l0 x41_2).f1, (rd_T30 l0 x41_2).f2, (⟨(rd_T30 l0 x41_2).f3.f0, (rd_T30 l0 x41_2).f3.f1⟩ : S28), (rd_T30 l0 x41_2).f4, (rd_T30 l0 x41_2).f5, (rd_T30 l0 x41_2).f6⟩ : S30)); (case aB => exact u8_5); (case aF => exact (fun k_ hk => ⟨Kd.freshB (g := gb193) (o := .cells #[.string a1_0, .int .i64 a1_1, .string a1_2, .int .i64 a1_3, .int .i64 a1_4, .int .i64 a1_5, .int .i64 a1_6, .int .i64 a1_7] 30 (0, 0)) u8_1 k_ hk, Kd.freshB (g := gb205) (o := .cells #[.string ((rd_T30 l0 x41_2).f0), .int .i64 ((rd_T30 l0 x41_2).f1), .string ((rd_T30 l0 x41_2).f2), .int .i64 ((rd_T30 l0 x41_2).f3.f0), .int .i64 ((rd_T30 l0 x41_2).f3.f1), .int .i64 ((rd_T30 l0 x41_2).f4), .int .i64 ((rd_T30 l0 x41_2).f5), .int .i64 ((rd_T30 l0 x41_2).f6)] 30 (0, 0)) u8_0 k_ hk⟩)); (case aO => exact u8_4); (case aS => exact (below_size u8_5)); (case aL => have := LMc58.out; omega); intro v216 w63 ho hb hg hat; rw [← Ny215.out] at ho; have n0_ := Aside0.mk (blk_grown (g := gb193) (o := .cells #[.string a1_0, .int .i64 a1_1, .string a1_2, .int .i64 a1_3, .int .i64 a1_4, .int .i64 a1_5, .int .i64 a1_6, .int .i64 a1_7] 30 (0, 0)) u8_1 hg (Kd.R_away HO_6.out (fun _ hk => hk.1))); have n1_ := Aside0.mk (blk_grown (g := gb205) (o := .cells #[.string ((rd_T30 l0 x41_2).f0), .int .i64 ((rd_T30 l0 x41_2).f1), .string ((rd_T30 l0 x41_2).f2), .int .i64 ((rd_T30 l0 x41_2).f3.f0), .int .i64 ((rd_T30 l0 x41_2).f3.f1), .int .i64 ((rd_T30 l0 x41_2).f4), .int .i64 ((rd_T30 l0 x41_2).f5), .int .i64 ((rd_T30 l0 x41_2).f6)] 30 (0, 0)) u8_0 hg (Kd.R_away HO_6.out (fun _ hk => hk.2))); have n2_ := Aside0.mk (hb); have n3_ := Aside0.mk (ho); clear BK193; clear BK205; clear HB; clear HO_6; have BK193 := n0_; have BK205 := n1_; have HB := n2_; have HO217 := n3_; clear n0_ n1_ n2_ n3_; clear ho hb hg hat))
            go_roundg k2
            case measure => have := HJ2.out; have := HK2.out; omega
            case rel => exact ⟨(y215), (false), (wrap64 (x41_2 + 1)), u8_7, u8_7, H', ⟨by have := HJ2.out; have := HK2.out; omega⟩, ⟨by (with_reducible repeat (first | apply Kd.R_alloc | apply Kd.R_drewN | apply Kd.R_drew)); exact Kd.R_mono HO217.out (fun _ hk => hk.1)⟩, ⟨by (with_reducible repeat (first | refine blk_drewN ?_ _ | refine blk_drew ?_ | refine blk_alloc ?_ _)); exact BK193.out⟩, ⟨by repeat (first | (with_reducible first | exact HB.out | apply below_alloc | apply pw_below_drewN | apply below_drew1 | refine below_set ?_ GE193.out | refine below_set ?_ GE205.out) | exact HB.out)⟩⟩
           ·rw [if_neg c58] at H
            exact absurd H (by simp)
        ·rw [if_neg c41] at H
         exact absurd H (by simp)
       ·rw [if_neg c40] at H
        exact absurd H (by simp)
      ·rw [if_neg c39] at H
       have c39b0 : decide (x41_2 < (l0.length : Int)) = false := decide_eq_false c39
       clear c39
       by_cases c64 : x7_2 = true
       ·subst c64
        have H1 : (some (x6_2, true)) = some (r1, r2) := by rw [if_pos rfl] at H; exact H
        clear H
        have H := H1
        clear H1
        simp only [Option.some.injEq, Prod.mk.injEq] at H
        obtain ⟨rfl, rfl⟩ := H
        go_wp2
        go_ret2
        exact ⟨_, by first | rfl | (simp [*] <;> rfl), by (with_reducible repeat (first | apply Kd.R_alloc | apply Kd.R_drewN | apply Kd.R_drew)); exact Kd.R_mono HO_6.out (fun _ hk => trivial), by repeat (first | (with_reducible first | exact HB.out | apply below_alloc | apply pw_below_drewN | apply below_drew1 | refine below_set ?_ GE193.out) | exact HB.out)⟩
       ·replace c64 := Bool.eq_false_iff.mpr c64
        subst c64
        have H1 : (if x6_2.length < 1759218604441 then (some ((x6_2 ++ [(⟨a1_0, a1_1, a1_2, (⟨a1_3, a1_4⟩ : S28), a1_5, a1_6, a1_7⟩ : S30)]), true)) else (none)) = some (r1, r2) := by rw [if_neg (show ¬ (false = true) by decide)] at H; exact H
        clear H
        have H := H1
        clear H1
        by_cases c65 : x6_2.length < 1759218604441
        ·rw [if_pos c65] at H
         have LMc65 := Aside0.mk c65
         clear c65
         obtain ⟨y218, hy218⟩ : ∃ y_ : List (S30), y_ = (x6_2 ++ [(⟨a1_0, a1_1, a1_2, (⟨a1_3, a1_4⟩ : S28), a1_5, a1_6, a1_7⟩ : S30)]) := ⟨_, rfl⟩
         replace H : (some (y218, true)) = some (r1, r2) := by first | (rw [hy218]; with_reducible exact H) | (have H2_ := (Option.bind_some _ _).symm.trans H; rw [hy218]; with_reducible exact H2_) | (have H2_ := (Option.bind_some _ _).symm.trans H; with_reducible exact H2_) | with_reducible exact H | (rw [hy218]; exact H) | exact H
         have Ny218 := Aside0.mk hy218
         clear hy218
         simp only [Option.some.injEq, Prod.mk.injEq] at H
         obtain ⟨rfl, rfl⟩ := H
         have hcz66_0 : wr.cell? ⟨gb193, 0, none⟩ = some (.string a1_0) := (blk_cell BK193.out 0).trans rfl
         have hcz66_1 : wr.cell? ⟨gb193, 1, none⟩ = some (.int .i64 a1_1) := (blk_cell BK193.out 1).trans rfl
         have hcz66_2 : wr.cell? ⟨gb193, 2, none⟩ = some (.string a1_2) := (blk_cell BK193.out 2).trans rfl
         have hcz66_3 : wr.cell? ⟨gb193, 3, none⟩ = some (.int .i64 a1_3) := (blk_cell BK193.out 3).trans rfl
         have hcz66_4 : wr.cell? ⟨gb193, 4, none⟩ = some (.int .i64 a1_4) := (blk_cell BK193.out 4).trans rfl
         have hcz66_5 : wr.cell? ⟨gb193, 5, none⟩ = some (.int .i64 a1_5) := (blk_cell BK193.out 5).trans rfl
         have hcz66_6 : wr.cell? ⟨gb193, 6, none⟩ = some (.int .i64 a1_6) := (blk_cell BK193.out 6).trans rfl
         have hcz66_7 : wr.cell? ⟨gb193, 7, none⟩ = some (.int .i64 a1_7) := (blk_cell BK193.out 7).trans rfl
         have hfz66_0 := blk_frozen BK193.out 0
         have hfz66_1 := blk_frozen BK193.out 1
         have hfz66_2 := blk_frozen BK193.out 2
         have hfz66_3 := blk_frozen BK193.out 3
         have hfz66_4 := blk_frozen BK193.out 4
         have hfz66_5 := blk_frozen BK193.out 5
         have hfz66_6 := blk_frozen BK193.out 6
         have hfz66_7 := blk_frozen BK193.out 7
         go_wp2_with (first | ((with_reducible refine gate_builtin (b := .append) (xs := #[.tmp 65, .tmp 67]) rfl ?_); (try (refine gate_guard (by rfl) ?_; dsimp only)); at_builtin; refine Kd.R_append k30 (w0 := w) w.heap.size rfl (.tmp 65) (.tmp 67) 36 30 (.agg #[(.string ⟨#[]⟩), (.int .i64 0), (.string ⟨#[]⟩), (.int .i64 0), (.int .i64 0), (.int .i64 0), (.int .i64 0), (.int .i64 0)]) 80 rfl Try.underlying36 info30 rfl (by decide) (by omega) u6 x6_2 (⟨a1_0, a1_1, a1_2, (⟨a1_3, a1_4⟩ : S28), a1_5, a1_6, a1_7⟩ : S30) [.string a1_0, .int .i64 a1_1, .string a1_2, .int .i64 a1_3, .int .i64 a1_4, .int .i64 a1_5, .int .i64 a1_6, .int .i64 a1_7] (fun k_ => k_ ≠ gb193) (fun _ => False) rfl rfl ?aP (fun _ hk => hk.elim) ?aF ?aO ?aB ?aS ?aL ?_; (case aP => exact k30_mkM _ _ _ (⟨a1_0, a1_1, a1_2, (⟨a1_3, a1_4⟩ : S28), a1_5, a1_6, a1_7⟩ : S30)); (case aB => exact u8_2); (case aF => exact (fun k_ hk => Kd.freshB (g := gb193) (o := .cells #[.string a1_0, .int .i64 a1_1, .string a1_2, .int .i64 a1_3, .int .i64 a1_4, .int .i64 a1_5, .int .i64 a1_6, .int .i64 a1_7] 30 (0, 0)) u8_3 k_ hk)); (case aO => exact u8_9); (case aS => exact (below_size u8_2)); (case aL => have := LMc65.out; omega); intro v219 w67 ho hb hg hat; rw [← Ny218.out] at ho; have n0_ := Aside0.mk (blk_grown (g := gb193) (o := .cells #[.string a1_0, .int .i64 a1_1, .string a1_2, .int .i64 a1_3, .int .i64 a1_4, .int .i64 a1_5, .int .i64 a1_6, .int .i64 a1_7] 30 (0, 0)) u8_3 hg (Kd.R_away HO_6.out (fun _ hk => hk))); have n1_ := Aside0.mk (hb); have n2_ := Aside0.mk (ho); clear BK193; clear HB; clear HO_6; have BK193 := n0_; have HB := n1_; have HO220 := n2_; clear n0_ n1_ n2_; clear ho hb hg hat))
         go_ret2
         exact ⟨_, by first | rfl | (simp [*] <;> rfl), by (with_reducible repeat (first | apply Kd.R_alloc | apply Kd.R_drewN | apply Kd.R_drew)); exact Kd.R_mono HO220.out (fun _ hk => trivial), by repeat (first | (with_reducible first | exact HB.out | apply below_alloc | apply pw_below_drewN | apply below_drew1 | refine below_set ?_ GE193.out) | exact HB.out)⟩
        ·rw [if_neg c65] at H
         exact absurd H (by simp)

def impl_isWithin.f (a0 : Int) (a1 : Int) (a2 : Int) : Option (Bool) := if a1 ≤ a0 then (some (decide (a0 ≤ a2))) else (some false)
set_option maxHeartbeats 8000000 in
set_option maxRecDepth 100000 in
theorem impl_isWithin.calls (a0 : Int) (a1 : Int) (a2 : Int) (r : Bool) (w : World) (h : impl_isWithin.f a0 a1 a2 = some r) :
  Calls Try.prog 59 #[.int .i64 a0, .int .i64 a1, .int .i64 a2] w fun e w' => e = .returned (.bool r) ∧ Drawn0 w w' := by
 have H : (if a1 ≤ a0 then (some (decide (a0 ≤ a2))) else (some false)) = some r := h
 clear h
 by_cases c4 : a1 ≤ a0
 ·rw [if_pos c4] at H
  have c4b0 : decide (a1 ≤ a0) = true := decide_eq_true c4
  clear c4
  obtain rfl := Option.some.inj H
  go_enter Try.func59, Try.ntmps59
  go_wp2
  go_ret
  exact ⟨by first | rfl | (simp; done) | (simp [*]; done), by repeat (first | exact Drawn0.refl _ | apply Drawn0.step)⟩
 ·rw [if_neg c4] at H
  have c4b0 : decide (a1 ≤ a0) = false := decide_eq_false c4
  clear c4
  obtain rfl := Option.some.inj H
  go_enter Try.func59, Try.ntmps59
  go_wp2
  go_ret
  exact ⟨by first | rfl | (simp; done) | (simp [*]; done), by repeat (first | exact Drawn0.refl _ | apply Drawn0.step)⟩

end Go.Proofs.Ytkedcokhcgklpaa.MFnExactAddDevice
