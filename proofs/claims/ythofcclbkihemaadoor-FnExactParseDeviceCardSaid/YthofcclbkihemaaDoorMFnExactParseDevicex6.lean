-- Written by a program for this claim.
import Derived.Test.YthofcclbkihemaaDoorMFnExactParseDevicex0
import Derived.Test.YthofcclbkihemaaDoorMFnExactParseDevicex3
import Derived.Test.YthofcclbkihemaaDoorMFnExactParseDevicex5
namespace Go.Proofs.YthofcclbkihemaaDoor.MFnExactParseDevice
open Go.RowKit Go.Proofs.YthofcclbkihemaaDoorW.PrintWords Go.Proofs.YthofcclbkihemaaDoorW.PrintLast Go.Proofs.YthofcclbkihemaaDoorW.PrintMore
attribute [local go_sem] max2_int min2_int max_two min_two max_three min_three max_four min_four
set_option linter.unusedVariables false
set_option linter.unusedSimpArgs false
set_option maxHeartbeats 8000000
set_option maxRecDepth 100000

theorem s6_0 {p : Prop} (h : p := by repeat (first | (with_reducible first | exact HB.out | apply below_alloc | apply pw_below_drewN | apply below_drew1 | refine below_set ?_ GE169.out | refine below_set ?_ GE176.out) | exact HB.out)) : p := h
theorem s6_1 {p : Prop} (h : p := by repeat (first | (with_reducible first | exact HB.out | apply below_alloc | apply pw_below_drewN | apply below_drew1 | refine below_set ?_ GE169.out) | exact HB.out)) : p := h
theorem u6_0 {p : Prop} (h : p := by repeat (first | (with_reducible first | exact HB.out | apply below_alloc | apply pw_below_drewN | apply below_drew1 | refine below_set ?_ GE169.out) | exact HB.out)) : p := h
theorem u6_1 {p : Prop} (h : p := by exact bd BK169.out) : p := h
theorem u6_2 {p : Prop} (h : p := by (try simp only [List.map_toArray, List.map_cons, List.map_nil]); first | done | rfl) : p := h
theorem u6_3 {p : Prop} (h : p := by (with_reducible repeat (first | refine bN ?_ _ | refine bD ?_ | refine bA ?_ _)); refine blk_put (cs := zr4 0 0) ?_ 1 _ rfl; refine blk_put (cs := zr4 0 0) ?_ 0 _ rfl; (with_reducible repeat (first | refine bN ?_ _ | refine bD ?_ | refine bA ?_ _)); refine blk_far ?_ NB169_176.out _; (with_reducible repeat (first | refine bN ?_ _ | refine bD ?_ | refine bA ?_ _)); refine blk_far ?_ NB169_176.out _; exact bd BK169.out) : p := h
theorem u6_4 {p : Prop} (h : p := by (with_reducible repeat (first | refine bN ?_ _ | refine bD ?_ | refine bA ?_ _)); refine blk_far ?_ NB169_176.out _; (with_reducible repeat (first | refine bN ?_ _ | refine bD ?_ | refine bA ?_ _)); refine blk_far ?_ NB169_176.out _; exact bd BK169.out) : p := h
theorem u6_5 {p : Prop} (h : p := by (with_reducible repeat (first | refine bN ?_ _ | refine bD ?_ | refine bA ?_ _)); refine blk_put (cs := zr4 t171 0) ?_ 1 _ rfl; refine blk_put (cs := zr4 0 0) ?_ 0 _ rfl; exact bd BK176.out) : p := h
theorem u6_6 {p : Prop} (h : p := by (with_reducible repeat (first | refine bN ?_ _ | refine bD ?_ | refine bA ?_ _)); refine blk_put (cs := zr4 0 0) ?_ 1 _ rfl; refine blk_put (cs := zr4 0 0) ?_ 0 _ rfl; exact bd BK169.out) : p := h
theorem u6_7 {p : Prop} (h : p := by repeat (first | (with_reducible first | exact HB.out | apply below_alloc | apply pw_below_drewN | apply below_drew1) | exact HB.out)) : p := h
/-! ### impl_ParsePlace: function 53 -/
def impl_ParsePlace.j0 : Nat → ByteArray → Int → Bool → Option (Int × Int × Bool)
 | 0, _, _, _ => none
 | k + 1, x0, x4, x21 => if x21 = true then (some (0, 0, false)) else (if 0 ≤ x4 then (if x4 ≤ (x0.size : Int) then ((impl_ParseMeasure.f k (x0.extract 0 (x4 : Int).toNat)).bind fun bt171 => (if x4 ≤ (wrap64 ((x0.size : Int) - 1)) then (if (wrap64 ((x0.size : Int) - 1)) ≤ (x0.size : Int) then ((strings_TrimPrefix.f (x0.extract (x4 : Int).toNat ((wrap64 ((x0.size : Int) - 1)) : Int).toNat) (⟨#[43]⟩ : ByteArray)).bind fun t173 => ((impl_ParseMeasure.f k t173).bind fun bt174 => (if bt171.2 = true then (if bt174.2 = true then ((impl_FormatPlace.f k bt171.1 bt174.1).bind fun t177 => (if t177.toList = x0.toList then (some (bt171.1, bt174.1, true)) else (some (0, 0, false)))) else (some (0, 0, false))) else (some (0, 0, false))))) else (none)) else (none))) else (none)) else (none))
def impl_ParsePlace.f (k : Nat) (a0 : ByteArray) : Option (Int × Int × Bool) := (strings_LastIndexAny.f a0 (⟨#[43, 45]⟩ : ByteArray)).bind fun t170 => (if t170 < 1 then (impl_ParsePlace.j0 k a0 t170 true) else (if 0 ≤ (wrap64 ((a0.size : Int) - 1)) then (if (wrap64 ((a0.size : Int) - 1)) < (a0.size : Int) then (impl_ParsePlace.j0 k a0 t170 ((bt a0 (wrap64 ((a0.size : Int) - 1))) != 105)) else (none)) else (none)))
theorem impl_ParsePlace.mono_l : ∀ k, (∀ y0 y1 y2, LeO (impl_ParsePlace.j0 k y0 y1 y2) (impl_ParsePlace.j0 (k + 1) y0 y1 y2))
 | 0 => fun _ _ _ r h => by simp [impl_ParsePlace.j0] at h
 | k + 1 => by
  have ih0 := impl_ParsePlace.mono_l k
  ·intro y0 y1 y2
   unfold impl_ParsePlace.j0
   repeat' first
   | (with_reducible exact ih0 _ _ _)
   | (with_reducible exact impl_FormatPlace.mono _ _ _)
   | (with_reducible exact impl_ParseMeasure.mono _ _)
   | (with_reducible exact LeO.refl _)
   | (with_reducible exact LeO.none _)
   | (with_reducible refine LeO.ite ?_ ?_)
   | (with_reducible refine LeO.bind ?_ (fun _ => ?_))
theorem impl_ParsePlace.mono : ∀ a0 k, LeO (impl_ParsePlace.f k a0) (impl_ParsePlace.f (k + 1) a0) := by
 intro a0 k
 have ih0 := impl_ParsePlace.mono_l k
 unfold impl_ParsePlace.f
 repeat' first
   | (with_reducible exact ih0 _ _ _)
   | (with_reducible exact impl_FormatPlace.mono _ _ _)
   | (with_reducible exact impl_ParseMeasure.mono _ _)
   | (with_reducible exact LeO.refl _)
   | (with_reducible exact LeO.none _)
   | (with_reducible refine LeO.ite ?_ ?_)
   | (with_reducible refine LeO.bind ?_ (fun _ => ?_))
theorem impl_ParsePlace.calls (k : Nat) (a0 : ByteArray) (r1 : Int) (r2 : Int) (r3 : Bool) (w : World) (h : impl_ParsePlace.f k a0 = some (r1, r2, r3)) (hT : Ty.TabP w := by first | exact hT | exact Ty.TabP.below hT (by repeat (first | (with_reducible first | exact HB.out | apply below_alloc | apply pw_below_drewN | apply below_drew1 | refine below_set ?_ (Aside0.out (by assumption))) | exact HB.out)) | (repeat (first | exact hT | apply Ty.TabP.drewN))) :
  Calls Tryd.prog 53 #[.string a0] w fun e w' => e = .returned (.tuple #[.agg #[.int .i64 r1, .int .i64 r2], .bool r3]) ∧ Below w.heap.size w w' := by
 have hu36 := Tryd.underlying36
 have HB := am (Below.refl w.heap.size w)
 have H : ((strings_LastIndexAny.f a0 (⟨#[43, 45]⟩ : ByteArray)).bind fun t170 => (if t170 < 1 then (impl_ParsePlace.j0 k a0 t170 true) else (if 0 ≤ (wrap64 ((a0.size : Int) - 1)) then (if (wrap64 ((a0.size : Int) - 1)) < (a0.size : Int) then (impl_ParsePlace.j0 k a0 t170 ((bt a0 (wrap64 ((a0.size : Int) - 1))) != 105)) else (none)) else (none)))) = some (r1, r2, r3) := h
 clear h
 replace H := ob H
 obtain ⟨t170, A20, H⟩ := H
 replace H : (if t170 < 1 then (impl_ParsePlace.j0 k a0 t170 true) else (if 0 ≤ (wrap64 ((a0.size : Int) - 1)) then (if (wrap64 ((a0.size : Int) - 1)) < (a0.size : Int) then (impl_ParsePlace.j0 k a0 t170 ((bt a0 (wrap64 ((a0.size : Int) - 1))) != 105)) else (none)) else (none))) = some (r1, r2, r3) := H
 have A2 := am A20
 clear A20
 have HC3 := am H
 clear H
 go_enter Tryd.func53, Tryd.ntmps53
 go_upto_region 2 with (first | ((with_reducible refine gate_dst (N := 2) rfl ?_); (try (refine gate_guard (by rfl) ?_; dsimp only)); refine box_event ?hg (N := 2) ?hd (cs := #[.int .i64 0, .int .i64 0]) (t := 36) ?hr ?_; (case hd => rfl); (case hg => rfl); (case hr => exact gq); intro gb169 hg w4 hbox hb; have n0_ := am (below_step u6_7 hb); have n1_ := am (hbox); have n2_ := bsw w hg (below_size u6_7); have n3_ := bsw w hg (below_size u6_7); clear HB; have HB := n0_; have BK169 := n1_; have GW169 := n2_; have GE169 := n3_; clear n0_ n1_ n2_ n3_ hb hbox hg) | ((with_reducible refine gate_callee (f := 87) rfl ?_); refine goesL_ (some 11) rfl rfl Tryd.func87 (by kernel_rfl) rfl #[.string a0, .string (⟨#[43, 45]⟩ : ByteArray)] rfl u6_2 ?_; (with_reducible refine (strings_LastIndexAny.calls a0 (⟨#[43, 45]⟩ : ByteArray) t170 _ A2.out).mono ?_); rintro e w5 ⟨rfl, hb⟩; refine ⟨_, rfl, ?_⟩; have n0_ := am (blk_below (g := gb169) (o := zo2 0 0) u6_1 hb); have n1_ := am (below_step u6_0 hb); clear BK169 HB; have BK169 := n0_; have HB := n1_; clear n0_ n1_; (try clear hb); (try clear hb2); (try clear hk); (try clear hi)))
 (try simp only [Act.put, List.setIfInBounds_toArray, List.set_cons_zero, List.set_cons_succ])
 go_cut [21] (fun v21 wc => ∃ (kq : Nat) (x21_2 : Bool), v21 = .bool x21_2 ∧ Aside0 (impl_ParsePlace.j0 kq a0 t170 x21_2 = some (r1, r2, r3)) ∧ Aside0 (kq ≤ k) ∧ Aside0 (wc.heap[gb169]? = some (.cells #[.int .i64 0, .int .i64 0] 36 (0, 0))) ∧ Aside0 (Below w.heap.size w wc))
 case first =>
  have H := HC3.out
  clear HC3
  by_cases c6 : t170 < 1
  ·rw [if_pos c6] at H
   have c6b0 : decide (t170 < 1) = true := decide_eq_true c6
   clear c6
   (first | rw [c6b0] | (simp only [i64_w, i32_w]; rw [c6b0]) | skip)
   have H' := am H
   clear H
   go_wp2
   go_meet
   case rel => exact ⟨_, (true), (by first | rfl | (simp; done) | (simp [*]; done)), H', ⟨by first | omega | exact Nat.le_refl _⟩, ⟨bd BK169.out⟩, ⟨s6_1⟩⟩
  ·rw [if_neg c6] at H
   have c6b0 : decide (t170 < 1) = false := decide_eq_false c6
   clear c6
   (first | rw [c6b0] | (simp only [i64_w, i32_w]; rw [c6b0]) | skip)
   obtain ⟨ji7, hji7⟩ : ∃ j_ : Int, (wrap64 ((a0.size : Int) - 1)) = j_ := ⟨_, rfl⟩
   replace H : (if 0 ≤ (ji7) then (if (ji7) < (a0.size : Int) then (impl_ParsePlace.j0 k a0 t170 ((bt a0 (ji7)) != 105)) else (none)) else (none)) = some (r1, r2, r3) := by first | (rw [hji7] at H; exact H) | (simp only [hji7] at H ⊢; exact H)
   have hji7w : (IntKind.i64.wrap ((a0.size : Int) - 1)) = ji7 := (i64_w _).trans hji7
   by_cases c8 : 0 ≤ (ji7)
   ·rw [if_pos c8] at H
    have c8b0 : decide (0 ≤ (ji7)) = true := decide_eq_true c8
    clear c8
    by_cases c9 : (ji7) < (a0.size : Int)
    ·rw [if_pos c9] at H
     have c9b0 : decide ((ji7) < (a0.size : Int)) = true := decide_eq_true c9
     clear c9
     have H' := am H
     clear H
     have p10 : 0 ≤ ((ji7) : Int) := od (by assumption)
     have q10 : (ji7) < (a0.size : Int) := od (by assumption)
     have hx10 := bt_at a0 (ji7)
     replace p10 := eq_true p10
     replace q10 := eq_true q10
     go_wp2
     go_meet
     case rel => exact ⟨_, (((bt a0 (ji7)) != 105)), (by first | rfl | (simp; done) | (simp only [← hji7] <;> (first | rfl | simp)) | (simp [*]; done)), H', ⟨by first | omega | exact Nat.le_refl _⟩, ⟨bd BK169.out⟩, ⟨s6_1⟩⟩
    ·rw [if_neg c9] at H
     exact absurd H (by simp)
   ·rw [if_neg c8] at H
    exact absurd H (by simp)
 case rest =>
  clear HC3
  try clear p1
  try clear q1
  try clear hx1
  try clear p2
  try clear c5
  try clear c6
  try clear c6b0
  try clear p6
  try clear c8
  try clear c8b0
  try clear c9
  try clear c9b0
  try clear p10
  try clear q10
  try clear hx10
  try clear p10
  try clear q10
  obtain ⟨kq, x21_2, rfl, HA, HJ2, BK169, HB⟩ := hcut
  cases kq with
  | zero => exact absurd HA.out (by simp [impl_ParsePlace.j0])
  | succ kj2 =>
   have H := HA.out
   clear HA
   simp only [impl_ParsePlace.j0] at H
   by_cases c11 : x21_2 = true
   ·subst c11
    have H1 : (some (0, 0, false)) = some (r1, r2, r3) := by rw [if_pos rfl] at H; exact H
    clear H
    have H := H1
    clear H1
    simp only [Option.some.injEq, Prod.mk.injEq] at H
    obtain ⟨rfl, rfl, rfl⟩ := H
    obtain ⟨hcz12_0, hcz12_1, hfz12_0, hfz12_1⟩ := cf2 BK169.out
    go_wp2
    refine bodyPost_ret (results_ct rfl _ _ gb169 36 #[.int .i64 0, .int .i64 0] (0, 0) _ rfl u6_6 Tryd.underlying36 rfl (by kernel_rfl)) rfl ?_
    exact ⟨by first | rfl | (simp [*] <;> rfl), s6_1⟩
   ·replace c11 := Bool.eq_false_iff.mpr c11
    subst c11
    have H1 : (if 0 ≤ t170 then (if t170 ≤ (a0.size : Int) then ((impl_ParseMeasure.f kj2 (a0.extract 0 (t170 : Int).toNat)).bind fun bt171 => (if t170 ≤ (wrap64 ((a0.size : Int) - 1)) then (if (wrap64 ((a0.size : Int) - 1)) ≤ (a0.size : Int) then ((strings_TrimPrefix.f (a0.extract (t170 : Int).toNat ((wrap64 ((a0.size : Int) - 1)) : Int).toNat) (⟨#[43]⟩ : ByteArray)).bind fun t173 => ((impl_ParseMeasure.f kj2 t173).bind fun bt174 => (if bt171.2 = true then (if bt174.2 = true then ((impl_FormatPlace.f kj2 bt171.1 bt174.1).bind fun t177 => (if t177.toList = a0.toList then (some (bt171.1, bt174.1, true)) else (some (0, 0, false)))) else (some (0, 0, false))) else (some (0, 0, false))))) else (none)) else (none))) else (none)) else (none)) = some (r1, r2, r3) := by rw [if_neg (show ¬ (false = true) by decide)] at H; exact H
    clear H
    have H := H1
    clear H1
    by_cases c13 : 0 ≤ t170
    ·rw [if_pos c13] at H
     have c13b0 := eq_true c13
     have c13b1 : decide (0 ≤ t170) = true := decide_eq_true c13
     clear c13
     by_cases c14 : t170 ≤ (a0.size : Int)
     ·rw [if_pos c14] at H
      have c14b0 := eq_true c14
      have c14b1 : decide (t170 ≤ (a0.size : Int)) = true := decide_eq_true c14
      clear c14
      replace H := ob H
      obtain ⟨⟨t171, t172⟩, A150, H⟩ := H
      replace H : (if t170 ≤ (wrap64 ((a0.size : Int) - 1)) then (if (wrap64 ((a0.size : Int) - 1)) ≤ (a0.size : Int) then ((strings_TrimPrefix.f (a0.extract (t170 : Int).toNat ((wrap64 ((a0.size : Int) - 1)) : Int).toNat) (⟨#[43]⟩ : ByteArray)).bind fun t173 => ((impl_ParseMeasure.f kj2 t173).bind fun bt174 => (if t172 = true then (if bt174.2 = true then ((impl_FormatPlace.f kj2 t171 bt174.1).bind fun t177 => (if t177.toList = a0.toList then (some (t171, bt174.1, true)) else (some (0, 0, false)))) else (some (0, 0, false))) else (some (0, 0, false))))) else (none)) else (none)) = some (r1, r2, r3) := H
      have A15 := am A150
      clear A150
      have c16b0 := eq_true (od (by assumption) : 0 ≤ t170)
      by_cases c17 : t170 ≤ (wrap64 ((a0.size : Int) - 1))
      ·rw [if_pos c17] at H
       have c17b0 := eq_true c17
       have c17b1 : decide (t170 ≤ (wrap64 ((a0.size : Int) - 1))) = true := decide_eq_true c17
       clear c17
       by_cases c18 : (wrap64 ((a0.size : Int) - 1)) ≤ (a0.size : Int)
       ·rw [if_pos c18] at H
        have c18b0 := eq_true c18
        have c18b1 : decide ((wrap64 ((a0.size : Int) - 1)) ≤ (a0.size : Int)) = true := decide_eq_true c18
        clear c18
        replace H := ob H
        obtain ⟨t173, A190, H⟩ := H
        replace H : ((impl_ParseMeasure.f kj2 t173).bind fun bt174 => (if t172 = true then (if bt174.2 = true then ((impl_FormatPlace.f kj2 t171 bt174.1).bind fun t177 => (if t177.toList = a0.toList then (some (t171, bt174.1, true)) else (some (0, 0, false)))) else (some (0, 0, false))) else (some (0, 0, false)))) = some (r1, r2, r3) := H
        have A19 := am A190
        clear A190
        replace H := ob H
        obtain ⟨⟨t174, t175⟩, A200, H⟩ := H
        replace H : (if t172 = true then (if t175 = true then ((impl_FormatPlace.f kj2 t171 t174).bind fun t177 => (if t177.toList = a0.toList then (some (t171, t174, true)) else (some (0, 0, false)))) else (some (0, 0, false))) else (some (0, 0, false))) = some (r1, r2, r3) := H
        have A20 := am A200
        clear A200
        by_cases c21 : t172 = true
        ·subst c21
         have H1 : (if t175 = true then ((impl_FormatPlace.f kj2 t171 t174).bind fun t177 => (if t177.toList = a0.toList then (some (t171, t174, true)) else (some (0, 0, false)))) else (some (0, 0, false))) = some (r1, r2, r3) := by rw [if_pos rfl] at H; exact H
         clear H
         have H := H1
         clear H1
         by_cases c22 : t175 = true
         ·subst c22
          have H1 : ((impl_FormatPlace.f kj2 t171 t174).bind fun t177 => (if t177.toList = a0.toList then (some (t171, t174, true)) else (some (0, 0, false)))) = some (r1, r2, r3) := by rw [if_pos rfl] at H; exact H
          clear H
          have H := H1
          clear H1
          replace H := ob H
          obtain ⟨t177, A230, H⟩ := H
          replace H : (if t177.toList = a0.toList then (some (t171, t174, true)) else (some (0, 0, false))) = some (r1, r2, r3) := H
          have A23 := am A230
          clear A230
          by_cases c24 : t177.toList = a0.toList
          ·rw [if_pos c24] at H
           have c24b0 : (t177.toList == a0.toList) = true := beq_iff_eq.mpr c24
           have c24b1 : (t177.toList != a0.toList) = false := bne_eq_false_iff_eq.mpr c24
           clear c24
           simp only [Option.some.injEq, Prod.mk.injEq] at H
           obtain ⟨rfl, rfl, rfl⟩ := H
           go_wp2_with (first | ((with_reducible refine gate_callee (f := 38) rfl ?_); refine goesL_ (some 27) rfl rfl Tryd.func38 (by kernel_rfl) rfl #[.string (a0.extract 0 (t170 : Int).toNat)] rfl u6_2 ?_; (with_reducible refine (impl_ParseMeasure.calls kj2 (a0.extract 0 (t170 : Int).toNat) t171 true _ A15.out).mono ?_); rintro e w25 ⟨rfl, hb⟩; refine ⟨_, rfl, ?_⟩; have n0_ := am (blk_below (g := gb169) (o := zo2 0 0) u6_1 hb); have n1_ := am (below_step u6_0 hb); clear BK169 HB; have BK169 := n0_; have HB := n1_; clear n0_ n1_; (try clear hb); (try clear hb2); (try clear hk); (try clear hi)) | ((with_reducible refine gate_callee (f := 75) rfl ?_); refine goesL_ (some 37) rfl rfl Tryd.func75 (by kernel_rfl) rfl #[.string (a0.extract (t170 : Int).toNat ((wrap64 ((a0.size : Int) - 1)) : Int).toNat), .string (⟨#[43]⟩ : ByteArray)] rfl u6_2 ?_; (with_reducible refine (strings_TrimPrefix.calls (a0.extract (t170 : Int).toNat ((wrap64 ((a0.size : Int) - 1)) : Int).toNat) (⟨#[43]⟩ : ByteArray) t173 _ A19.out).mono ?_); rintro e w' ⟨rfl, ⟨nd, rfl⟩⟩; refine ⟨_, rfl, ?_⟩; (try (rw [drewN_self w25]; generalize hq_ : World.drewN w25 _ = w25; have n0_ : Aside0 (w25.heap[gb169]? = some (.cells #[.int .i64 0, .int .i64 0] 36 (0, 0))) := ⟨by rw [← hq_]; exact u6_1⟩; have n1_ : Aside0 (Below w.heap.size w w25) := ⟨by rw [← hq_]; exact u6_0⟩; clear BK169 HB hq_; have BK169 := n0_; have HB := n1_; clear n0_ n1_))) | ((with_reducible refine gate_callee (f := 38) rfl ?_); refine goesL_ (some 38) rfl rfl Tryd.func38 (by kernel_rfl) rfl #[.string t173] rfl u6_2 ?_; (with_reducible refine (impl_ParseMeasure.calls kj2 t173 t174 true _ A20.out).mono ?_); rintro e w26 ⟨rfl, hb⟩; refine ⟨_, rfl, ?_⟩; have n0_ := am (blk_below (g := gb169) (o := zo2 0 0) u6_1 hb); have n1_ := am (below_step u6_0 hb); clear BK169 HB; have BK169 := n0_; have HB := n1_; clear n0_ n1_; (try clear hb); (try clear hb2); (try clear hk); (try clear hi)) | ((with_reducible refine gate_dst (N := 9) rfl ?_); (try (refine gate_guard (by rfl) ?_; dsimp only)); refine box_event ?hg (N := 9) ?hd (cs := #[.int .i64 0, .int .i64 0]) (t := 36) ?hr ?_; (case hd => rfl); (case hg => rfl); (case hr => exact gq); intro gb176 hg w27 hbox hb; have n0_ := am (blk_below (g := gb169) (o := zo2 0 0) u6_1 hb); have n1_ := am (below_step u6_0 hb); have n2_ := am (hbox); have n3_ := bsw w hg (below_size u6_0); have n4_ := bsw w hg (below_size u6_0); have n5_ := am ((by rw [hg]; exact Nat.ne_of_lt (blk_lt (g := gb169) (o := zo2 0 0) u6_1) : gb169 ≠ gb176)); have n6_ := am ((by rw [hg]; exact Nat.ne_of_gt (blk_lt (g := gb169) (o := zo2 0 0) u6_1) : gb176 ≠ gb169)); clear BK169 HB; have BK169 := n0_; have HB := n1_; have BK176 := n2_; have GW176 := n3_; have GE176 := n4_; have NB169_176 := n5_; have NB176_169 := n6_; clear n0_ n1_ n2_ n3_ n4_ n5_ n6_ hb hbox hg; have hnb28 := NB176_169.out; have hnc28 := NB169_176.out; obtain ⟨hcz29_0, hcz29_1, hfz29_0, hfz29_1⟩ := cf2 BK176.out) | (go_at_call 54; (with_reducible refine (impl_FormatPlace.calls kj2 t171 t174 t177 _ A23.out).mono ?_); rintro e w30 ⟨rfl, hb⟩; have n0_ := am (blk_below (g := gb169) (o := zo2 0 0) u6_4 hb); have n1_ := am (blk_below (g := gb176) (o := zo2 t171 t174) u6_5 hb); have n2_ := am (below_step (by repeat (first | (with_reducible first | exact HB.out | apply below_alloc | apply pw_below_drewN | apply below_drew1 | refine below_set ?_ GE169.out | refine below_set ?_ GE176.out) | exact HB.out)) hb); clear BK169 BK176 HB; have BK169 := n0_; have BK176 := n1_; have HB := n2_; clear n0_ n1_ n2_; (try clear hb); (try clear hb2); (try clear hk); (try clear hi); obtain ⟨hcz31_0, hcz31_1, hfz31_0, hfz31_1⟩ := cf2 BK176.out; obtain ⟨hcz32_0, hcz32_1, hfz32_0, hfz32_1⟩ := cf2 BK169.out))
           refine bodyPost_ret (results_ct rfl _ _ gb169 36 #[.int .i64 t171, .int .i64 t174] (0, 0) _ rfl (by (with_reducible repeat (first | refine bN ?_ _ | refine bD ?_ | refine bA ?_ _)); refine blk_put (cs := zr4 t171 0) ?_ 1 _ rfl; refine blk_put (cs := zr4 0 0) ?_ 0 _ rfl; exact bd BK169.out) Tryd.underlying36 rfl (by kernel_rfl)) rfl ?_
           exact ⟨by first | rfl | (simp [*] <;> rfl), s6_0⟩
          ·rw [if_neg c24] at H
           have c24b0 : (t177.toList == a0.toList) = false := beq_eq_false_iff_ne.mpr c24
           have c24b1 : (t177.toList != a0.toList) = true := bne_iff_ne.mpr c24
           simp only [Option.some.injEq, Prod.mk.injEq] at H
           obtain ⟨rfl, rfl, rfl⟩ := H
           go_wp2_with (first | ((with_reducible refine gate_callee (f := 38) rfl ?_); refine goesL_ (some 27) rfl rfl Tryd.func38 (by kernel_rfl) rfl #[.string (a0.extract 0 (t170 : Int).toNat)] rfl u6_2 ?_; (with_reducible refine (impl_ParseMeasure.calls kj2 (a0.extract 0 (t170 : Int).toNat) t171 true _ A15.out).mono ?_); rintro e w33 ⟨rfl, hb⟩; refine ⟨_, rfl, ?_⟩; have n0_ := am (blk_below (g := gb169) (o := zo2 0 0) u6_1 hb); have n1_ := am (below_step u6_0 hb); clear BK169 HB; have BK169 := n0_; have HB := n1_; clear n0_ n1_; (try clear hb); (try clear hb2); (try clear hk); (try clear hi)) | ((with_reducible refine gate_callee (f := 75) rfl ?_); refine goesL_ (some 37) rfl rfl Tryd.func75 (by kernel_rfl) rfl #[.string (a0.extract (t170 : Int).toNat ((wrap64 ((a0.size : Int) - 1)) : Int).toNat), .string (⟨#[43]⟩ : ByteArray)] rfl u6_2 ?_; (with_reducible refine (strings_TrimPrefix.calls (a0.extract (t170 : Int).toNat ((wrap64 ((a0.size : Int) - 1)) : Int).toNat) (⟨#[43]⟩ : ByteArray) t173 _ A19.out).mono ?_); rintro e w' ⟨rfl, ⟨nd, rfl⟩⟩; refine ⟨_, rfl, ?_⟩; (try (rw [drewN_self w33]; generalize hq_ : World.drewN w33 _ = w33; have n0_ : Aside0 (w33.heap[gb169]? = some (.cells #[.int .i64 0, .int .i64 0] 36 (0, 0))) := ⟨by rw [← hq_]; exact u6_1⟩; have n1_ : Aside0 (Below w.heap.size w w33) := ⟨by rw [← hq_]; exact u6_0⟩; clear BK169 HB hq_; have BK169 := n0_; have HB := n1_; clear n0_ n1_))) | ((with_reducible refine gate_callee (f := 38) rfl ?_); refine goesL_ (some 38) rfl rfl Tryd.func38 (by kernel_rfl) rfl #[.string t173] rfl u6_2 ?_; (with_reducible refine (impl_ParseMeasure.calls kj2 t173 t174 true _ A20.out).mono ?_); rintro e w34 ⟨rfl, hb⟩; refine ⟨_, rfl, ?_⟩; have n0_ := am (blk_below (g := gb169) (o := zo2 0 0) u6_1 hb); have n1_ := am (below_step u6_0 hb); clear BK169 HB; have BK169 := n0_; have HB := n1_; clear n0_ n1_; (try clear hb); (try clear hb2); (try clear hk); (try clear hi)) | ((with_reducible refine gate_dst (N := 9) rfl ?_); (try (refine gate_guard (by rfl) ?_; dsimp only)); refine box_event ?hg (N := 9) ?hd (cs := #[.int .i64 0, .int .i64 0]) (t := 36) ?hr ?_; (case hd => rfl); (case hg => rfl); (case hr => exact gq); intro gb176 hg w35 hbox hb; have n0_ := am (blk_below (g := gb169) (o := zo2 0 0) u6_1 hb); have n1_ := am (below_step u6_0 hb); have n2_ := am (hbox); have n3_ := bsw w hg (below_size u6_0); have n4_ := bsw w hg (below_size u6_0); have n5_ := am ((by rw [hg]; exact Nat.ne_of_lt (blk_lt (g := gb169) (o := zo2 0 0) u6_1) : gb169 ≠ gb176)); have n6_ := am ((by rw [hg]; exact Nat.ne_of_gt (blk_lt (g := gb169) (o := zo2 0 0) u6_1) : gb176 ≠ gb169)); clear BK169 HB; have BK169 := n0_; have HB := n1_; have BK176 := n2_; have GW176 := n3_; have GE176 := n4_; have NB169_176 := n5_; have NB176_169 := n6_; clear n0_ n1_ n2_ n3_ n4_ n5_ n6_ hb hbox hg; have hnb36 := NB176_169.out; have hnc36 := NB169_176.out; obtain ⟨hcz37_0, hcz37_1, hfz37_0, hfz37_1⟩ := cf2 BK176.out) | (go_at_call 54; (with_reducible refine (impl_FormatPlace.calls kj2 t171 t174 t177 _ A23.out).mono ?_); rintro e w38 ⟨rfl, hb⟩; have n0_ := am (blk_below (g := gb169) (o := zo2 0 0) u6_4 hb); have n1_ := am (blk_below (g := gb176) (o := zo2 t171 t174) u6_5 hb); have n2_ := am (below_step (by repeat (first | (with_reducible first | exact HB.out | apply below_alloc | apply pw_below_drewN | apply below_drew1 | refine below_set ?_ GE169.out | refine below_set ?_ GE176.out) | exact HB.out)) hb); clear BK169 BK176 HB; have BK169 := n0_; have BK176 := n1_; have HB := n2_; clear n0_ n1_ n2_; (try clear hb); (try clear hb2); (try clear hk); (try clear hi); obtain ⟨hcz39_0, hcz39_1, hfz39_0, hfz39_1⟩ := cf2 BK169.out))
           refine bodyPost_ret (results_ct rfl _ _ gb169 36 #[.int .i64 0, .int .i64 0] (0, 0) _ rfl u6_6 Tryd.underlying36 rfl (by kernel_rfl)) rfl ?_
           exact ⟨by first | rfl | (simp [*] <;> rfl), s6_0⟩
         ·replace c22 := Bool.eq_false_iff.mpr c22
          subst c22
          have H1 : (some (0, 0, false)) = some (r1, r2, r3) := by rw [if_neg (show ¬ (false = true) by decide)] at H; exact H
          clear H
          have H := H1
          clear H1
          simp only [Option.some.injEq, Prod.mk.injEq] at H
          obtain ⟨rfl, rfl, rfl⟩ := H
          go_wp2_with (first | ((with_reducible refine gate_callee (f := 38) rfl ?_); refine goesL_ (some 27) rfl rfl Tryd.func38 (by kernel_rfl) rfl #[.string (a0.extract 0 (t170 : Int).toNat)] rfl u6_2 ?_; (with_reducible refine (impl_ParseMeasure.calls kj2 (a0.extract 0 (t170 : Int).toNat) t171 true _ A15.out).mono ?_); rintro e w40 ⟨rfl, hb⟩; refine ⟨_, rfl, ?_⟩; have n0_ := am (blk_below (g := gb169) (o := zo2 0 0) u6_1 hb); have n1_ := am (below_step u6_0 hb); clear BK169 HB; have BK169 := n0_; have HB := n1_; clear n0_ n1_; (try clear hb); (try clear hb2); (try clear hk); (try clear hi)) | ((with_reducible refine gate_callee (f := 75) rfl ?_); refine goesL_ (some 37) rfl rfl Tryd.func75 (by kernel_rfl) rfl #[.string (a0.extract (t170 : Int).toNat ((wrap64 ((a0.size : Int) - 1)) : Int).toNat), .string (⟨#[43]⟩ : ByteArray)] rfl u6_2 ?_; (with_reducible refine (strings_TrimPrefix.calls (a0.extract (t170 : Int).toNat ((wrap64 ((a0.size : Int) - 1)) : Int).toNat) (⟨#[43]⟩ : ByteArray) t173 _ A19.out).mono ?_); rintro e w' ⟨rfl, ⟨nd, rfl⟩⟩; refine ⟨_, rfl, ?_⟩; (try (rw [drewN_self w40]; generalize hq_ : World.drewN w40 _ = w40; have n0_ : Aside0 (w40.heap[gb169]? = some (.cells #[.int .i64 0, .int .i64 0] 36 (0, 0))) := ⟨by rw [← hq_]; exact u6_1⟩; have n1_ : Aside0 (Below w.heap.size w w40) := ⟨by rw [← hq_]; exact u6_0⟩; clear BK169 HB hq_; have BK169 := n0_; have HB := n1_; clear n0_ n1_))) | ((with_reducible refine gate_callee (f := 38) rfl ?_); refine goesL_ (some 38) rfl rfl Tryd.func38 (by kernel_rfl) rfl #[.string t173] rfl u6_2 ?_; (with_reducible refine (impl_ParseMeasure.calls kj2 t173 t174 false _ A20.out).mono ?_); rintro e w41 ⟨rfl, hb⟩; refine ⟨_, rfl, ?_⟩; have n0_ := am (blk_below (g := gb169) (o := zo2 0 0) u6_1 hb); have n1_ := am (below_step u6_0 hb); clear BK169 HB; have BK169 := n0_; have HB := n1_; clear n0_ n1_; (try clear hb); (try clear hb2); (try clear hk); (try clear hi)) | ((with_reducible refine gate_dst (N := 9) rfl ?_); (try (refine gate_guard (by rfl) ?_; dsimp only)); refine box_event ?hg (N := 9) ?hd (cs := #[.int .i64 0, .int .i64 0]) (t := 36) ?hr ?_; (case hd => rfl); (case hg => rfl); (case hr => exact gq); intro gb176 hg w42 hbox hb; have n0_ := am (blk_below (g := gb169) (o := zo2 0 0) u6_1 hb); have n1_ := am (below_step u6_0 hb); have n2_ := am (hbox); have n3_ := bsw w hg (below_size u6_0); have n4_ := bsw w hg (below_size u6_0); have n5_ := am ((by rw [hg]; exact Nat.ne_of_lt (blk_lt (g := gb169) (o := zo2 0 0) u6_1) : gb169 ≠ gb176)); have n6_ := am ((by rw [hg]; exact Nat.ne_of_gt (blk_lt (g := gb169) (o := zo2 0 0) u6_1) : gb176 ≠ gb169)); clear BK169 HB; have BK169 := n0_; have HB := n1_; have BK176 := n2_; have GW176 := n3_; have GE176 := n4_; have NB169_176 := n5_; have NB176_169 := n6_; clear n0_ n1_ n2_ n3_ n4_ n5_ n6_ hb hbox hg; have hnb43 := NB176_169.out; have hnc43 := NB169_176.out; obtain ⟨hcz44_0, hcz44_1, hfz44_0, hfz44_1⟩ := cf2 BK176.out; obtain ⟨hcz45_0, hcz45_1, hfz45_0, hfz45_1⟩ := cf2 BK169.out))
          refine bodyPost_ret (results_ct rfl _ _ gb169 36 #[.int .i64 0, .int .i64 0] (0, 0) _ rfl u6_3 Tryd.underlying36 rfl (by kernel_rfl)) rfl ?_
          exact ⟨by first | rfl | (simp [*] <;> rfl), s6_0⟩
        ·replace c21 := Bool.eq_false_iff.mpr c21
         subst c21
         have H1 : (some (0, 0, false)) = some (r1, r2, r3) := by rw [if_neg (show ¬ (false = true) by decide)] at H; exact H
         clear H
         have H := H1
         clear H1
         simp only [Option.some.injEq, Prod.mk.injEq] at H
         obtain ⟨rfl, rfl, rfl⟩ := H
         go_wp2_with (first | ((with_reducible refine gate_callee (f := 38) rfl ?_); refine goesL_ (some 27) rfl rfl Tryd.func38 (by kernel_rfl) rfl #[.string (a0.extract 0 (t170 : Int).toNat)] rfl u6_2 ?_; (with_reducible refine (impl_ParseMeasure.calls kj2 (a0.extract 0 (t170 : Int).toNat) t171 false _ A15.out).mono ?_); rintro e w46 ⟨rfl, hb⟩; refine ⟨_, rfl, ?_⟩; have n0_ := am (blk_below (g := gb169) (o := zo2 0 0) u6_1 hb); have n1_ := am (below_step u6_0 hb); clear BK169 HB; have BK169 := n0_; have HB := n1_; clear n0_ n1_; (try clear hb); (try clear hb2); (try clear hk); (try clear hi)) | ((with_reducible refine gate_callee (f := 75) rfl ?_); refine goesL_ (some 37) rfl rfl Tryd.func75 (by kernel_rfl) rfl #[.string (a0.extract (t170 : Int).toNat ((wrap64 ((a0.size : Int) - 1)) : Int).toNat), .string (⟨#[43]⟩ : ByteArray)] rfl u6_2 ?_; (with_reducible refine (strings_TrimPrefix.calls (a0.extract (t170 : Int).toNat ((wrap64 ((a0.size : Int) - 1)) : Int).toNat) (⟨#[43]⟩ : ByteArray) t173 _ A19.out).mono ?_); rintro e w' ⟨rfl, ⟨nd, rfl⟩⟩; refine ⟨_, rfl, ?_⟩; (try (rw [drewN_self w46]; generalize hq_ : World.drewN w46 _ = w46; have n0_ : Aside0 (w46.heap[gb169]? = some (.cells #[.int .i64 0, .int .i64 0] 36 (0, 0))) := ⟨by rw [← hq_]; exact u6_1⟩; have n1_ : Aside0 (Below w.heap.size w w46) := ⟨by rw [← hq_]; exact u6_0⟩; clear BK169 HB hq_; have BK169 := n0_; have HB := n1_; clear n0_ n1_))) | ((with_reducible refine gate_callee (f := 38) rfl ?_); refine goesL_ (some 38) rfl rfl Tryd.func38 (by kernel_rfl) rfl #[.string t173] rfl u6_2 ?_; (with_reducible refine (impl_ParseMeasure.calls kj2 t173 t174 t175 _ A20.out).mono ?_); rintro e w47 ⟨rfl, hb⟩; refine ⟨_, rfl, ?_⟩; have n0_ := am (blk_below (g := gb169) (o := zo2 0 0) u6_1 hb); have n1_ := am (below_step u6_0 hb); clear BK169 HB; have BK169 := n0_; have HB := n1_; clear n0_ n1_; (try clear hb); (try clear hb2); (try clear hk); (try clear hi)) | ((with_reducible refine gate_dst (N := 9) rfl ?_); (try (refine gate_guard (by rfl) ?_; dsimp only)); refine box_event ?hg (N := 9) ?hd (cs := #[.int .i64 0, .int .i64 0]) (t := 36) ?hr ?_; (case hd => rfl); (case hg => rfl); (case hr => exact gq); intro gb176 hg w48 hbox hb; have n0_ := am (blk_below (g := gb169) (o := zo2 0 0) u6_1 hb); have n1_ := am (below_step u6_0 hb); have n2_ := am (hbox); have n3_ := bsw w hg (below_size u6_0); have n4_ := bsw w hg (below_size u6_0); have n5_ := am ((by rw [hg]; exact Nat.ne_of_lt (blk_lt (g := gb169) (o := zo2 0 0) u6_1) : gb169 ≠ gb176)); have n6_ := am ((by rw [hg]; exact Nat.ne_of_gt (blk_lt (g := gb169) (o := zo2 0 0) u6_1) : gb176 ≠ gb169)); clear BK169 HB; have BK169 := n0_; have HB := n1_; have BK176 := n2_; have GW176 := n3_; have GE176 := n4_; have NB169_176 := n5_; have NB176_169 := n6_; clear n0_ n1_ n2_ n3_ n4_ n5_ n6_ hb hbox hg; have hnb49 := NB176_169.out; have hnc49 := NB169_176.out; obtain ⟨hcz50_0, hcz50_1, hfz50_0, hfz50_1⟩ := cf2 BK176.out; obtain ⟨hcz51_0, hcz51_1, hfz51_0, hfz51_1⟩ := cf2 BK169.out))
         refine bodyPost_ret (results_ct rfl _ _ gb169 36 #[.int .i64 0, .int .i64 0] (0, 0) _ rfl u6_3 Tryd.underlying36 rfl (by kernel_rfl)) rfl ?_
         exact ⟨by first | rfl | (simp [*] <;> rfl), s6_0⟩
       ·rw [if_neg c18] at H
        exact absurd H (by simp)
      ·rw [if_neg c17] at H
       exact absurd H (by simp)
     ·rw [if_neg c14] at H
      exact absurd H (by simp)
    ·rw [if_neg c13] at H
     exact absurd H (by simp)

end Go.Proofs.YthofcclbkihemaaDoor.MFnExactParseDevice
