-- Written by a program for this claim.
import Derived.Test.YthofcclbkihemaaDoorMFnExactFormatCuex0
import Derived.Test.YthofcclbkihemaaDoorMFnExactFormatCuex2
namespace Go.Proofs.YthofcclbkihemaaDoor.MFnExactFormatCue
open Go.RowKit Go.Proofs.YthofcclbkihemaaDoorW.PrintWords Go.Proofs.YthofcclbkihemaaDoorW.PrintLast Go.Proofs.YthofcclbkihemaaDoorW.PrintMore
attribute [local go_sem] max2_int min2_int max_two min_two max_three min_three max_four min_four   -- for this text's walks alone
set_option linter.unusedVariables false
set_option linter.unusedSimpArgs false

/-! ### spec_IsCue: function 14 -/
def spec_IsCue.f (k : Nat) (a0_0 : Int) (a0_1 : ByteArray) (a0_2 : Int) (a0_3 : Int) : Option (Bool) := (spec_l1In.f a0_0 0 64).bind fun t123 => (if t123 = true then ((spec_IsName.f k a0_1).bind fun t124 => (if t124 = true then ((spec_l1In.f a0_2 0 32).bind fun t125 => (if t125 = true then ((spec_l1In.f a0_3 0 16).bind fun t126 => (some t126)) else (some false))) else (some false))) else (some false))
theorem spec_IsCue.mono : ∀ a0 a1 a2 a3 k, LeO (spec_IsCue.f k a0 a1 a2 a3) (spec_IsCue.f (k + 1) a0 a1 a2 a3) := by
  intro a0 a1 a2 a3 k
  unfold spec_IsCue.f
  repeat' first
      | (with_reducible exact spec_IsName.mono _ _)
      | (with_reducible exact LeO.refl _)
      | (with_reducible exact LeO.none _)
      | (with_reducible refine LeO.ite ?_ ?_)
      | (with_reducible refine LeO.bind ?_ (fun _ => ?_))
      | exact spec_IsName.mono _ _
      | exact LeO.none _
      | refine LeO.ite ?_ ?_
      | refine LeO.bind ?_ (fun _ => ?_)
set_option maxHeartbeats 8000000 in
set_option maxRecDepth 100000 in
theorem spec_IsCue.calls (k : Nat) (a0_0 : Int) (a0_1 : ByteArray) (a0_2 : Int) (a0_3 : Int) (r : Bool) (w : World) (h : spec_IsCue.f k a0_0 a0_1 a0_2 a0_3 = some r) :
    Calls Tryd.prog 14 #[.agg #[.int .i64 a0_0, .string a0_1, .int .i64 a0_2, .int .i64 a0_3]] w fun e w' => e = .returned (.bool r) ∧ Below w.heap.size w w' := by
  have hu25 := Tryd.underlying25
  have HB := Aside0.mk (Below.refl w.heap.size w)
  have H : ((spec_l1In.f a0_0 0 64).bind fun t123 => (if t123 = true then ((spec_IsName.f k a0_1).bind fun t124 => (if t124 = true then ((spec_l1In.f a0_2 0 32).bind fun t125 => (if t125 = true then ((spec_l1In.f a0_3 0 16).bind fun t126 => (some t126)) else (some false))) else (some false))) else (some false))) = some r := h
  clear h
  replace H := Option.bind_eq_some_iff.mp H
  obtain ⟨t123, A20, H⟩ := H
  replace H : (if t123 = true then ((spec_IsName.f k a0_1).bind fun t124 => (if t124 = true then ((spec_l1In.f a0_2 0 32).bind fun t125 => (if t125 = true then ((spec_l1In.f a0_3 0 16).bind fun t126 => (some t126)) else (some false))) else (some false))) else (some false)) = some r := H
  have A2 := Aside0.mk A20
  clear A20
  by_cases c3 : t123 = true
  · subst c3
    have H1 : ((spec_IsName.f k a0_1).bind fun t124 => (if t124 = true then ((spec_l1In.f a0_2 0 32).bind fun t125 => (if t125 = true then ((spec_l1In.f a0_3 0 16).bind fun t126 => (some t126)) else (some false))) else (some false))) = some r := by rw [if_pos rfl] at H; exact H
    clear H
    have H := H1
    clear H1
    replace H := Option.bind_eq_some_iff.mp H
    obtain ⟨t124, A40, H⟩ := H
    replace H : (if t124 = true then ((spec_l1In.f a0_2 0 32).bind fun t125 => (if t125 = true then ((spec_l1In.f a0_3 0 16).bind fun t126 => (some t126)) else (some false))) else (some false)) = some r := H
    have A4 := Aside0.mk A40
    clear A40
    by_cases c5 : t124 = true
    · subst c5
      have H1 : ((spec_l1In.f a0_2 0 32).bind fun t125 => (if t125 = true then ((spec_l1In.f a0_3 0 16).bind fun t126 => (some t126)) else (some false))) = some r := by rw [if_pos rfl] at H; exact H
      clear H
      have H := H1
      clear H1
      replace H := Option.bind_eq_some_iff.mp H
      obtain ⟨t125, A60, H⟩ := H
      replace H : (if t125 = true then ((spec_l1In.f a0_3 0 16).bind fun t126 => (some t126)) else (some false)) = some r := H
      have A6 := Aside0.mk A60
      clear A60
      by_cases c7 : t125 = true
      · subst c7
        have H1 : ((spec_l1In.f a0_3 0 16).bind fun t126 => (some t126)) = some r := by rw [if_pos rfl] at H; exact H
        clear H
        have H := H1
        clear H1
        replace H := Option.bind_eq_some_iff.mp H
        obtain ⟨t126, A80, H⟩ := H
        replace H : (some t126) = some r := H
        have A8 := Aside0.mk A80
        clear A80
        obtain rfl := Option.some.inj H
        go_enter Tryd.func14, Tryd.ntmps14
        go_wp2_with (first | ((with_reducible refine gate_dst (N := 1) rfl ?_); refine box_event ?hg (N := 1) ?hd (cs := #[.int .i64 a0_0, .string a0_1, .int .i64 a0_2, .int .i64 a0_3]) (t := 25) ?hr ?_; (case hd => rfl); (case hg => rfl); (case hr => first | (go_simp; done) | (go_simp; rfl)); intro gb122 hg w9 hbox hb; have n0_ := Aside0.mk (below_step (by repeat (first | (with_reducible first | exact HB.out | apply below_alloc | apply pw_below_drewN | apply below_drew1) | exact HB.out)) hb); have n1_ := Aside0.mk (hbox); have n2_ := Aside0.mk ((by rw [hg]; exact (below_size (by repeat (first | (with_reducible first | exact HB.out | apply below_alloc | apply pw_below_drewN | apply below_drew1) | exact HB.out))) : w.heap.size ≤ gb122)); have n3_ := Aside0.mk ((by rw [hg]; exact (below_size (by repeat (first | (with_reducible first | exact HB.out | apply below_alloc | apply pw_below_drewN | apply below_drew1) | exact HB.out))) : w.heap.size ≤ gb122)); clear HB; have HB := n0_; have BK122 := n1_; have GW122 := n2_; have GE122 := n3_; clear n0_ n1_ n2_ n3_; clear hb hbox hg; have hcz10_0 : w9.cell? ⟨gb122, 0, none⟩ = some (.int .i64 a0_0) := (blk_cell BK122.out 0).trans rfl; have hcz10_1 : w9.cell? ⟨gb122, 1, none⟩ = some (.string a0_1) := (blk_cell BK122.out 1).trans rfl; have hcz10_2 : w9.cell? ⟨gb122, 2, none⟩ = some (.int .i64 a0_2) := (blk_cell BK122.out 2).trans rfl; have hcz10_3 : w9.cell? ⟨gb122, 3, none⟩ = some (.int .i64 a0_3) := (blk_cell BK122.out 3).trans rfl; have hfz10_0 := blk_frozen BK122.out 0; have hfz10_1 := blk_frozen BK122.out 1; have hfz10_2 := blk_frozen BK122.out 2; have hfz10_3 := blk_frozen BK122.out 3) | ((with_reducible refine gate_callee (f := 43) rfl ?_); refine goesL_ (some 5) rfl rfl Tryd.func43 (by kernel_rfl) rfl #[.int .i64 a0_0, .int .i64 0, .int .i64 64] rfl (by (try simp only [List.map_toArray, List.map_cons, List.map_nil]); first | done | rfl | (simp only [List.length_drop, List.length_take]; rfl)) ?_; (with_reducible refine (spec_l1In.calls a0_0 0 64 true _ A2.out).mono ?_); rintro e w' ⟨rfl, ⟨nd, rfl⟩⟩; refine ⟨_, rfl, ?_⟩) | (go_at_call 44; (with_reducible refine (spec_IsName.calls k a0_1 true _ A4.out).mono ?_); rintro e w' ⟨rfl, ⟨nd, rfl⟩⟩) | (go_at_call 43; (with_reducible refine (spec_l1In.calls a0_2 0 32 true _ A6.out).mono ?_); rintro e w' ⟨rfl, ⟨nd, rfl⟩⟩) | (go_at_call 43; (with_reducible refine (spec_l1In.calls a0_3 0 16 t126 _ A8.out).mono ?_); rintro e w' ⟨rfl, ⟨nd, rfl⟩⟩))
        go_ret
        exact ⟨by first | rfl | (simp [errW_none, errW_some] <;> rfl) | (simp [*, errW_none, errW_some] <;> rfl), by repeat (first | (with_reducible first | exact HB.out | apply below_alloc | apply pw_below_drewN | apply below_drew1 | refine below_set ?_ GE122.out) | exact HB.out)⟩
      · replace c7 := Bool.eq_false_iff.mpr c7
        subst c7
        have H1 : (some false) = some r := by rw [if_neg (show ¬ (false = true) by decide)] at H; exact H
        clear H
        have H := H1
        clear H1
        obtain rfl := Option.some.inj H
        go_enter Tryd.func14, Tryd.ntmps14
        go_wp2_with (first | ((with_reducible refine gate_dst (N := 1) rfl ?_); refine box_event ?hg (N := 1) ?hd (cs := #[.int .i64 a0_0, .string a0_1, .int .i64 a0_2, .int .i64 a0_3]) (t := 25) ?hr ?_; (case hd => rfl); (case hg => rfl); (case hr => first | (go_simp; done) | (go_simp; rfl)); intro gb122 hg w11 hbox hb; have n0_ := Aside0.mk (below_step (by repeat (first | (with_reducible first | exact HB.out | apply below_alloc | apply pw_below_drewN | apply below_drew1) | exact HB.out)) hb); have n1_ := Aside0.mk (hbox); have n2_ := Aside0.mk ((by rw [hg]; exact (below_size (by repeat (first | (with_reducible first | exact HB.out | apply below_alloc | apply pw_below_drewN | apply below_drew1) | exact HB.out))) : w.heap.size ≤ gb122)); have n3_ := Aside0.mk ((by rw [hg]; exact (below_size (by repeat (first | (with_reducible first | exact HB.out | apply below_alloc | apply pw_below_drewN | apply below_drew1) | exact HB.out))) : w.heap.size ≤ gb122)); clear HB; have HB := n0_; have BK122 := n1_; have GW122 := n2_; have GE122 := n3_; clear n0_ n1_ n2_ n3_; clear hb hbox hg; have hcz12_0 : w11.cell? ⟨gb122, 0, none⟩ = some (.int .i64 a0_0) := (blk_cell BK122.out 0).trans rfl; have hcz12_1 : w11.cell? ⟨gb122, 1, none⟩ = some (.string a0_1) := (blk_cell BK122.out 1).trans rfl; have hcz12_2 : w11.cell? ⟨gb122, 2, none⟩ = some (.int .i64 a0_2) := (blk_cell BK122.out 2).trans rfl; have hcz12_3 : w11.cell? ⟨gb122, 3, none⟩ = some (.int .i64 a0_3) := (blk_cell BK122.out 3).trans rfl; have hfz12_0 := blk_frozen BK122.out 0; have hfz12_1 := blk_frozen BK122.out 1; have hfz12_2 := blk_frozen BK122.out 2; have hfz12_3 := blk_frozen BK122.out 3) | ((with_reducible refine gate_callee (f := 43) rfl ?_); refine goesL_ (some 5) rfl rfl Tryd.func43 (by kernel_rfl) rfl #[.int .i64 a0_0, .int .i64 0, .int .i64 64] rfl (by (try simp only [List.map_toArray, List.map_cons, List.map_nil]); first | done | rfl | (simp only [List.length_drop, List.length_take]; rfl)) ?_; (with_reducible refine (spec_l1In.calls a0_0 0 64 true _ A2.out).mono ?_); rintro e w' ⟨rfl, ⟨nd, rfl⟩⟩; refine ⟨_, rfl, ?_⟩) | (go_at_call 44; (with_reducible refine (spec_IsName.calls k a0_1 true _ A4.out).mono ?_); rintro e w' ⟨rfl, ⟨nd, rfl⟩⟩) | (go_at_call 43; (with_reducible refine (spec_l1In.calls a0_2 0 32 false _ A6.out).mono ?_); rintro e w' ⟨rfl, ⟨nd, rfl⟩⟩))
        go_ret
        exact ⟨by first | rfl | (simp [errW_none, errW_some] <;> rfl) | (simp [*, errW_none, errW_some] <;> rfl), by repeat (first | (with_reducible first | exact HB.out | apply below_alloc | apply pw_below_drewN | apply below_drew1 | refine below_set ?_ GE122.out) | exact HB.out)⟩
    · replace c5 := Bool.eq_false_iff.mpr c5
      subst c5
      have H1 : (some false) = some r := by rw [if_neg (show ¬ (false = true) by decide)] at H; exact H
      clear H
      have H := H1
      clear H1
      obtain rfl := Option.some.inj H
      go_enter Tryd.func14, Tryd.ntmps14
      go_wp2_with (first | ((with_reducible refine gate_dst (N := 1) rfl ?_); refine box_event ?hg (N := 1) ?hd (cs := #[.int .i64 a0_0, .string a0_1, .int .i64 a0_2, .int .i64 a0_3]) (t := 25) ?hr ?_; (case hd => rfl); (case hg => rfl); (case hr => first | (go_simp; done) | (go_simp; rfl)); intro gb122 hg w13 hbox hb; have n0_ := Aside0.mk (below_step (by repeat (first | (with_reducible first | exact HB.out | apply below_alloc | apply pw_below_drewN | apply below_drew1) | exact HB.out)) hb); have n1_ := Aside0.mk (hbox); have n2_ := Aside0.mk ((by rw [hg]; exact (below_size (by repeat (first | (with_reducible first | exact HB.out | apply below_alloc | apply pw_below_drewN | apply below_drew1) | exact HB.out))) : w.heap.size ≤ gb122)); have n3_ := Aside0.mk ((by rw [hg]; exact (below_size (by repeat (first | (with_reducible first | exact HB.out | apply below_alloc | apply pw_below_drewN | apply below_drew1) | exact HB.out))) : w.heap.size ≤ gb122)); clear HB; have HB := n0_; have BK122 := n1_; have GW122 := n2_; have GE122 := n3_; clear n0_ n1_ n2_ n3_; clear hb hbox hg; have hcz14_0 : w13.cell? ⟨gb122, 0, none⟩ = some (.int .i64 a0_0) := (blk_cell BK122.out 0).trans rfl; have hcz14_1 : w13.cell? ⟨gb122, 1, none⟩ = some (.string a0_1) := (blk_cell BK122.out 1).trans rfl; have hcz14_2 : w13.cell? ⟨gb122, 2, none⟩ = some (.int .i64 a0_2) := (blk_cell BK122.out 2).trans rfl; have hcz14_3 : w13.cell? ⟨gb122, 3, none⟩ = some (.int .i64 a0_3) := (blk_cell BK122.out 3).trans rfl; have hfz14_0 := blk_frozen BK122.out 0; have hfz14_1 := blk_frozen BK122.out 1; have hfz14_2 := blk_frozen BK122.out 2; have hfz14_3 := blk_frozen BK122.out 3) | ((with_reducible refine gate_callee (f := 43) rfl ?_); refine goesL_ (some 5) rfl rfl Tryd.func43 (by kernel_rfl) rfl #[.int .i64 a0_0, .int .i64 0, .int .i64 64] rfl (by (try simp only [List.map_toArray, List.map_cons, List.map_nil]); first | done | rfl | (simp only [List.length_drop, List.length_take]; rfl)) ?_; (with_reducible refine (spec_l1In.calls a0_0 0 64 true _ A2.out).mono ?_); rintro e w' ⟨rfl, ⟨nd, rfl⟩⟩; refine ⟨_, rfl, ?_⟩) | (go_at_call 44; (with_reducible refine (spec_IsName.calls k a0_1 false _ A4.out).mono ?_); rintro e w' ⟨rfl, ⟨nd, rfl⟩⟩))
      go_ret
      exact ⟨by first | rfl | (simp [errW_none, errW_some] <;> rfl) | (simp [*, errW_none, errW_some] <;> rfl), by repeat (first | (with_reducible first | exact HB.out | apply below_alloc | apply pw_below_drewN | apply below_drew1 | refine below_set ?_ GE122.out) | exact HB.out)⟩
  · replace c3 := Bool.eq_false_iff.mpr c3
    subst c3
    have H1 : (some false) = some r := by rw [if_neg (show ¬ (false = true) by decide)] at H; exact H
    clear H
    have H := H1
    clear H1
    obtain rfl := Option.some.inj H
    go_enter Tryd.func14, Tryd.ntmps14
    go_wp2_with (first | ((with_reducible refine gate_dst (N := 1) rfl ?_); refine box_event ?hg (N := 1) ?hd (cs := #[.int .i64 a0_0, .string a0_1, .int .i64 a0_2, .int .i64 a0_3]) (t := 25) ?hr ?_; (case hd => rfl); (case hg => rfl); (case hr => first | (go_simp; done) | (go_simp; rfl)); intro gb122 hg w15 hbox hb; have n0_ := Aside0.mk (below_step (by repeat (first | (with_reducible first | exact HB.out | apply below_alloc | apply pw_below_drewN | apply below_drew1) | exact HB.out)) hb); have n1_ := Aside0.mk (hbox); have n2_ := Aside0.mk ((by rw [hg]; exact (below_size (by repeat (first | (with_reducible first | exact HB.out | apply below_alloc | apply pw_below_drewN | apply below_drew1) | exact HB.out))) : w.heap.size ≤ gb122)); have n3_ := Aside0.mk ((by rw [hg]; exact (below_size (by repeat (first | (with_reducible first | exact HB.out | apply below_alloc | apply pw_below_drewN | apply below_drew1) | exact HB.out))) : w.heap.size ≤ gb122)); clear HB; have HB := n0_; have BK122 := n1_; have GW122 := n2_; have GE122 := n3_; clear n0_ n1_ n2_ n3_; clear hb hbox hg; have hcz16_0 : w15.cell? ⟨gb122, 0, none⟩ = some (.int .i64 a0_0) := (blk_cell BK122.out 0).trans rfl; have hcz16_1 : w15.cell? ⟨gb122, 1, none⟩ = some (.string a0_1) := (blk_cell BK122.out 1).trans rfl; have hcz16_2 : w15.cell? ⟨gb122, 2, none⟩ = some (.int .i64 a0_2) := (blk_cell BK122.out 2).trans rfl; have hcz16_3 : w15.cell? ⟨gb122, 3, none⟩ = some (.int .i64 a0_3) := (blk_cell BK122.out 3).trans rfl; have hfz16_0 := blk_frozen BK122.out 0; have hfz16_1 := blk_frozen BK122.out 1; have hfz16_2 := blk_frozen BK122.out 2; have hfz16_3 := blk_frozen BK122.out 3) | ((with_reducible refine gate_callee (f := 43) rfl ?_); refine goesL_ (some 5) rfl rfl Tryd.func43 (by kernel_rfl) rfl #[.int .i64 a0_0, .int .i64 0, .int .i64 64] rfl (by (try simp only [List.map_toArray, List.map_cons, List.map_nil]); first | done | rfl | (simp only [List.length_drop, List.length_take]; rfl)) ?_; (with_reducible refine (spec_l1In.calls a0_0 0 64 false _ A2.out).mono ?_); rintro e w' ⟨rfl, ⟨nd, rfl⟩⟩; refine ⟨_, rfl, ?_⟩))
    go_ret
    exact ⟨by first | rfl | (simp [errW_none, errW_some] <;> rfl) | (simp [*, errW_none, errW_some] <;> rfl), by repeat (first | (with_reducible first | exact HB.out | apply below_alloc | apply pw_below_drewN | apply below_drew1 | refine below_set ?_ GE122.out) | exact HB.out)⟩

/-! ### spec_FormatNumber: function 66 -/
def spec_FormatNumber.f : Nat → Int → Option (ByteArray)
  | 0, _ => none
  | k + 1, a0 => if a0 = (-9223372036854775808) then (some (⟨#[45, 57, 50, 50, 51, 51, 55, 50, 48, 51, 54, 56, 53, 52, 55, 55, 53, 56, 48, 56]⟩ : ByteArray)) else (if a0 < 0 then ((spec_FormatNumber.f k (wrap64 (-a0))).bind fun t127 => (if 1 + t127.size ≤ 9223372036854775807 then (some ((⟨#[45]⟩ : ByteArray) ++ t127)) else (none))) else ((some (([(wrap64 (48 + (Int.tmod a0 10))) % 256] : List Int) : List Int)).bind fun y128 => (if a0 > 9 then ((spec_FormatNumber.f k (wrap64 (Int.tdiv a0 10))).bind fun t131 => (if t131.size + (strOfNums y128).size ≤ 9223372036854775807 then (some (t131 ++ (strOfNums y128))) else (none))) else (some (strOfNums y128)))))
theorem spec_FormatNumber.mono_l : ∀ k, (∀ y0, LeO (spec_FormatNumber.f k y0) (spec_FormatNumber.f (k + 1) y0))
  | 0 => fun _ r h => by simp [spec_FormatNumber.f] at h
  | k + 1 => by
    have ih0 := spec_FormatNumber.mono_l k
    · intro y0
      unfold spec_FormatNumber.f
      repeat' first
      | (with_reducible exact ih0 _)
      | (with_reducible exact LeO.refl _)
      | (with_reducible exact LeO.none _)
      | (with_reducible refine LeO.ite ?_ ?_)
      | (with_reducible refine LeO.bind ?_ (fun _ => ?_))
      | exact ih0 _
      | exact LeO.none _
      | refine LeO.ite ?_ ?_
      | refine LeO.bind ?_ (fun _ => ?_)
theorem spec_FormatNumber.mono : ∀ a0 k, LeO (spec_FormatNumber.f k a0) (spec_FormatNumber.f (k + 1) a0) := by
  intro a0 k
  have ih0 := spec_FormatNumber.mono_l k
  exact ih0 a0
set_option maxHeartbeats 8000000 in
set_option maxRecDepth 100000 in
theorem spec_FormatNumber.calls (k : Nat) : ∀ (a0 : Int) (r : ByteArray) (w : World) (h : spec_FormatNumber.f k a0 = some r),
    Calls Tryd.prog 66 #[.int .i64 a0] w fun e w' => e = .returned (.string r) ∧ Below w.heap.size w w' := by
  induction k using Nat.strongRecOn with
  | _ k ih =>
  intro a0 r w h
  cases k with
  | zero => exact absurd h (by simp [spec_FormatNumber.f])
  | succ k =>
  simp only [spec_FormatNumber.f] at h
  have HB := Aside0.mk (Below.refl w.heap.size w)
  have H : (if a0 = (-9223372036854775808) then (some (⟨#[45, 57, 50, 50, 51, 51, 55, 50, 48, 51, 54, 56, 53, 52, 55, 55, 53, 56, 48, 56]⟩ : ByteArray)) else (if a0 < 0 then ((spec_FormatNumber.f k (wrap64 (-a0))).bind fun t127 => (if 1 + t127.size ≤ 9223372036854775807 then (some ((⟨#[45]⟩ : ByteArray) ++ t127)) else (none))) else ((some (([(wrap64 (48 + (Int.tmod a0 10))) % 256] : List Int) : List Int)).bind fun y128 => (if a0 > 9 then ((spec_FormatNumber.f k (wrap64 (Int.tdiv a0 10))).bind fun t131 => (if t131.size + (strOfNums y128).size ≤ 9223372036854775807 then (some (t131 ++ (strOfNums y128))) else (none))) else (some (strOfNums y128)))))) = some r := h
  clear h
  by_cases c2 : a0 = (-9223372036854775808)
  · rw [if_pos c2] at H
    have c2b0 : (a0 == (-9223372036854775808)) = true := beq_iff_eq.mpr c2
    have c2b1 : (a0 != (-9223372036854775808)) = false := bne_eq_false_iff_eq.mpr c2
    clear c2
    obtain rfl := Option.some.inj H
    go_enter Tryd.func66, Tryd.ntmps66
    go_wp2
    go_ret
    exact ⟨by first | rfl | (simp [errW_none, errW_some] <;> rfl) | (simp [*, errW_none, errW_some] <;> rfl), by repeat (first | (with_reducible first | exact HB.out | apply below_alloc | apply pw_below_drewN | apply below_drew1) | exact HB.out)⟩
  · rw [if_neg c2] at H
    have c2b0 : (a0 == (-9223372036854775808)) = false := beq_eq_false_iff_ne.mpr c2
    have c2b1 : (a0 != (-9223372036854775808)) = true := bne_iff_ne.mpr c2
    by_cases c3 : a0 < 0
    · rw [if_pos c3] at H
      have c3b0 : decide (a0 < 0) = true := decide_eq_true c3
      clear c3
      replace H := Option.bind_eq_some_iff.mp H
      obtain ⟨t127, A40, H⟩ := H
      replace H : (if 1 + t127.size ≤ 9223372036854775807 then (some ((⟨#[45]⟩ : ByteArray) ++ t127)) else (none)) = some r := H
      have A4 := Aside0.mk A40
      clear A40
      by_cases c5 : 1 + t127.size ≤ 9223372036854775807
      · rw [if_pos c5] at H
        have c5b0 := eq_true c5
        have c5b1 : decide (1 + t127.size ≤ 9223372036854775807) = true := decide_eq_true c5
        try have c5b2 : (9223372036854775807 < 1 + t127.size) = False := eq_false (Nat.not_lt.2 c5)
        obtain rfl := Option.some.inj H
        go_enter Tryd.func66, Tryd.ntmps66
        go_wp2_with (first | ((with_reducible refine gate_callee (f := 66) rfl ?_); refine goesL_ (some 10) rfl rfl Tryd.func66 (by kernel_rfl) rfl #[.int .i64 (wrap64 (-a0))] rfl (by (try simp only [List.map_toArray, List.map_cons, List.map_nil]); first | done | rfl | (simp only [List.length_drop, List.length_take]; rfl)) ?_; (with_reducible refine (ih k (by omega) (wrap64 (-a0)) t127 _ A4.out).mono ?_); rintro e w6 ⟨rfl, hb⟩; refine ⟨_, rfl, ?_⟩; have n0_ := Aside0.mk (below_step (by repeat (first | (with_reducible first | exact HB.out | apply below_alloc | apply pw_below_drewN | apply below_drew1) | exact HB.out)) hb); clear HB; have HB := n0_; clear n0_; (try clear hb); (try clear hb2); (try clear hk); (try clear hi)))
        go_ret
        exact ⟨by first | rfl | (simp [errW_none, errW_some] <;> rfl) | (simp [*, errW_none, errW_some] <;> rfl), by repeat (first | (with_reducible first | exact HB.out | apply below_alloc | apply pw_below_drewN | apply below_drew1) | exact HB.out)⟩
      · rw [if_neg c5] at H
        exact absurd H (by simp)
    · rw [if_neg c3] at H
      have c3b0 : decide (a0 < 0) = false := decide_eq_false c3
      clear c3
      obtain ⟨y128, hy128⟩ : ∃ y_ : List Int, y_ = (([(wrap64 (48 + (Int.tmod a0 10))) % 256] : List Int)) := ⟨_, rfl⟩
      replace H : (if a0 > 9 then ((spec_FormatNumber.f k (wrap64 (Int.tdiv a0 10))).bind fun t131 => (if t131.size + (strOfNums y128).size ≤ 9223372036854775807 then (some (t131 ++ (strOfNums y128))) else (none))) else (some (strOfNums y128))) = some r := by first | (rw [hy128]; with_reducible exact H) | (have H2_ := (Option.bind_some _ _).symm.trans H; rw [hy128]; with_reducible exact H2_) | (have H2_ := (Option.bind_some _ _).symm.trans H; with_reducible exact H2_) | with_reducible exact H | (rw [hy128]; exact H) | exact H
      have Ny128 := Aside0.mk hy128
      clear hy128
      by_cases c7 : a0 > 9
      · rw [if_pos c7] at H
        have c7b0 : decide (9 < a0) = true := decide_eq_true c7
        clear c7
        replace H := Option.bind_eq_some_iff.mp H
        obtain ⟨t131, A80, H⟩ := H
        replace H : (if t131.size + (strOfNums y128).size ≤ 9223372036854775807 then (some (t131 ++ (strOfNums y128))) else (none)) = some r := H
        have A8 := Aside0.mk A80
        clear A80
        by_cases c9 : t131.size + (strOfNums y128).size ≤ 9223372036854775807
        · rw [if_pos c9] at H
          have c9b0 := eq_true c9
          have c9b1 : decide (t131.size + (strOfNums y128).size ≤ 9223372036854775807) = true := decide_eq_true c9
          try have c9b2 : (9223372036854775807 < t131.size + (strOfNums y128).size) = False := eq_false (Nat.not_lt.2 c9)
          obtain rfl := Option.some.inj H
          go_enter Tryd.func66, Tryd.ntmps66
          go_wp2_with (first | ((with_reducible refine gate_dst (N := 16) rfl ?_); refine Kd.R_lit (Kd.int .u8) _ 5 ?hg (N := 16) ?hd (xs := ([(wrap64 (48 + (Int.tmod a0 10))) % 256] : List Int)) (inner := [.int .u8 ((wrap64 (48 + (Int.tmod a0 10))) % 256)]) (ok := fun _ => True) (okp := fun _ => True) ?hr ?hp (fun _ hk => hk) trivial (Below.refl _ _) (Nat.le_refl _) (by simp) ?_; (case hd => rfl); (case hg => rfl); (case hr => first | (go_simp; done) | (go_simp; rfl)); (case hp => exact (Reps.one (show Kd.M (Kd.int .u8) _ _ _ ((wrap64 (48 + (Int.tmod a0 10))) % 256) [.int .u8 ((wrap64 (48 + (Int.tmod a0 10))) % 256)] from rfl) (Reps.none _ _))); intro v129 w10 ho11 hb hg_ hnew_; clear hg_ hnew_; (first | rw [← Ny128.out] at ho11 | (simp only [Int.reduceToNat] at ho11; rw [← Ny128.out] at ho11)); have n0_ := Aside0.mk (Kd.R_lower ho11 (below_size (by repeat (first | (with_reducible first | exact HB.out | apply below_alloc | apply pw_below_drewN | apply below_drew1) | exact HB.out)))); have n1_ := Aside0.mk (below_step (by repeat (first | (with_reducible first | exact HB.out | apply below_alloc | apply pw_below_drewN | apply below_drew1) | exact HB.out)) hb); clear HB; have HO130 := n0_; have HB := n1_; clear n0_ n1_; clear hb ho11; have hcv12 := own_string (P := Tryd.prog) Tryd.underlying22 Tryd.underlying5 Tryd.underlying9 (Kd.own_of_R HO130.out)) | ((with_reducible refine gate_callee (f := 66) rfl ?_); refine goesL_ (some 22) rfl rfl Tryd.func66 (by kernel_rfl) rfl #[.int .i64 (wrap64 (Int.tdiv a0 10))] rfl (by (try simp only [List.map_toArray, List.map_cons, List.map_nil]); first | done | rfl | (simp only [List.length_drop, List.length_take]; rfl)) ?_; (with_reducible refine (ih k (by omega) (wrap64 (Int.tdiv a0 10)) t131 _ A8.out).mono ?_); rintro e w13 ⟨rfl, hb⟩; refine ⟨_, rfl, ?_⟩; have n0_ := Aside0.mk (Kd.R_below (by (with_reducible repeat (first | apply Kd.R_alloc | apply Kd.R_drewN | apply Kd.R_drew)); exact HO130.out) hb); have n1_ := Aside0.mk (below_step (by repeat (first | (with_reducible first | exact HB.out | apply below_alloc | apply pw_below_drewN | apply below_drew1) | exact HB.out)) hb); clear HO130; clear HB; have HO130 := n0_; have HB := n1_; clear n0_ n1_; (try clear hb); (try clear hb2); (try clear hk); (try clear hi)))
          go_ret
          exact ⟨by first | rfl | (simp [errW_none, errW_some] <;> rfl) | (simp [*, errW_none, errW_some] <;> rfl), by repeat (first | (with_reducible first | exact HB.out | apply below_alloc | apply pw_below_drewN | apply below_drew1) | exact HB.out)⟩
        · rw [if_neg c9] at H
          exact absurd H (by simp)
      · rw [if_neg c7] at H
        have c7b0 : decide (9 < a0) = false := decide_eq_false c7
        clear c7
        obtain rfl := Option.some.inj H
        go_enter Tryd.func66, Tryd.ntmps66
        go_wp2_with (first | ((with_reducible refine gate_dst (N := 16) rfl ?_); refine Kd.R_lit (Kd.int .u8) _ 5 ?hg (N := 16) ?hd (xs := ([(wrap64 (48 + (Int.tmod a0 10))) % 256] : List Int)) (inner := [.int .u8 ((wrap64 (48 + (Int.tmod a0 10))) % 256)]) (ok := fun _ => True) (okp := fun _ => True) ?hr ?hp (fun _ hk => hk) trivial (Below.refl _ _) (Nat.le_refl _) (by simp) ?_; (case hd => rfl); (case hg => rfl); (case hr => first | (go_simp; done) | (go_simp; rfl)); (case hp => exact (Reps.one (show Kd.M (Kd.int .u8) _ _ _ ((wrap64 (48 + (Int.tmod a0 10))) % 256) [.int .u8 ((wrap64 (48 + (Int.tmod a0 10))) % 256)] from rfl) (Reps.none _ _))); intro v129 w14 ho15 hb hg_ hnew_; clear hg_ hnew_; (first | rw [← Ny128.out] at ho15 | (simp only [Int.reduceToNat] at ho15; rw [← Ny128.out] at ho15)); have n0_ := Aside0.mk (Kd.R_lower ho15 (below_size (by repeat (first | (with_reducible first | exact HB.out | apply below_alloc | apply pw_below_drewN | apply below_drew1) | exact HB.out)))); have n1_ := Aside0.mk (below_step (by repeat (first | (with_reducible first | exact HB.out | apply below_alloc | apply pw_below_drewN | apply below_drew1) | exact HB.out)) hb); clear HB; have HO130 := n0_; have HB := n1_; clear n0_ n1_; clear hb ho15; have hcv16 := own_string (P := Tryd.prog) Tryd.underlying22 Tryd.underlying5 Tryd.underlying9 (Kd.own_of_R HO130.out)))
        go_ret
        exact ⟨by first | rfl | (simp [errW_none, errW_some] <;> rfl) | (simp [*, errW_none, errW_some] <;> rfl), by repeat (first | (with_reducible first | exact HB.out | apply below_alloc | apply pw_below_drewN | apply below_drew1) | exact HB.out)⟩

/-! ### spec_IsMeasure: function 90 -/
def spec_IsMeasure.f (a0 : Int) : Option (Bool) := if a0 ≥ (-4096) then (some (decide (a0 ≤ 4096))) else (some false)
set_option maxHeartbeats 8000000 in
set_option maxRecDepth 100000 in
theorem spec_IsMeasure.calls (a0 : Int) (r : Bool) (w : World) (h : spec_IsMeasure.f a0 = some r) :
    Calls Tryd.prog 90 #[.int .i64 a0] w fun e w' => e = .returned (.bool r) ∧ Drawn0 w w' := by
  have H : (if a0 ≥ (-4096) then (some (decide (a0 ≤ 4096))) else (some false)) = some r := h
  clear h
  by_cases c2 : a0 ≥ (-4096)
  · rw [if_pos c2] at H
    have c2b0 : decide ((-4096) ≤ a0) = true := decide_eq_true c2
    clear c2
    obtain rfl := Option.some.inj H
    go_enter Tryd.func90, Tryd.ntmps90
    go_wp2
    go_ret
    exact ⟨by first | rfl | (simp; done) | (simp [*]; done), by repeat (first | exact Drawn0.refl _ | apply Drawn0.step)⟩
  · rw [if_neg c2] at H
    have c2b0 : decide ((-4096) ≤ a0) = false := decide_eq_false c2
    clear c2
    obtain rfl := Option.some.inj H
    go_enter Tryd.func90, Tryd.ntmps90
    go_wp2
    go_ret
    exact ⟨by first | rfl | (simp; done) | (simp [*]; done), by repeat (first | exact Drawn0.refl _ | apply Drawn0.step)⟩

/-! ### spec_FormatMeasure: function 67 -/
def spec_FormatMeasure.f (k : Nat) (a0 : Int) : Option (ByteArray) := (spec_IsMeasure.f a0).bind fun t132 => (if t132 = true then (if a0 < 0 then ((spec_FormatNumber.f k (wrap64 (Int.tdiv (wrap64 (-a0)) 8))).bind fun t133 => (if 1 + t133.size ≤ 9223372036854775807 then ((some (([(⟨#[]⟩ : ByteArray), (⟨#[46, 49, 50, 53]⟩ : ByteArray), (⟨#[46, 50, 53]⟩ : ByteArray), (⟨#[46, 51, 55, 53]⟩ : ByteArray), (⟨#[46, 53]⟩ : ByteArray), (⟨#[46, 54, 50, 53]⟩ : ByteArray), (⟨#[46, 55, 53]⟩ : ByteArray), (⟨#[46, 56, 55, 53]⟩ : ByteArray)] : List ByteArray) : List ByteArray)).bind fun y134 => (if 0 ≤ (Int.tmod (wrap64 (-a0)) 8) then (if (Int.tmod (wrap64 (-a0)) 8) < (y134.length : Int) then (if ((⟨#[45]⟩ : ByteArray) ++ t133).size + (rdOf ByteArray.empty y134 (Int.tmod (wrap64 (-a0)) 8)).size ≤ 9223372036854775807 then (some (((⟨#[45]⟩ : ByteArray) ++ t133) ++ (rdOf ByteArray.empty y134 (Int.tmod (wrap64 (-a0)) 8)))) else (none)) else (none)) else (none))) else (none))) else ((spec_FormatNumber.f k (wrap64 (Int.tdiv a0 8))).bind fun t138 => (if 0 + t138.size ≤ 9223372036854775807 then ((some (([(⟨#[]⟩ : ByteArray), (⟨#[46, 49, 50, 53]⟩ : ByteArray), (⟨#[46, 50, 53]⟩ : ByteArray), (⟨#[46, 51, 55, 53]⟩ : ByteArray), (⟨#[46, 53]⟩ : ByteArray), (⟨#[46, 54, 50, 53]⟩ : ByteArray), (⟨#[46, 55, 53]⟩ : ByteArray), (⟨#[46, 56, 55, 53]⟩ : ByteArray)] : List ByteArray) : List ByteArray)).bind fun y139 => (if 0 ≤ (Int.tmod a0 8) then (if (Int.tmod a0 8) < (y139.length : Int) then (if ((⟨#[]⟩ : ByteArray) ++ t138).size + (rdOf ByteArray.empty y139 (Int.tmod a0 8)).size ≤ 9223372036854775807 then (some (((⟨#[]⟩ : ByteArray) ++ t138) ++ (rdOf ByteArray.empty y139 (Int.tmod a0 8)))) else (none)) else (none)) else (none))) else (none)))) else (some (⟨#[]⟩ : ByteArray)))
theorem spec_FormatMeasure.mono : ∀ a0 k, LeO (spec_FormatMeasure.f k a0) (spec_FormatMeasure.f (k + 1) a0) := by
  intro a0 k
  unfold spec_FormatMeasure.f
  repeat' first
      | (with_reducible exact spec_FormatNumber.mono _ _)
      | (with_reducible exact LeO.refl _)
      | (with_reducible exact LeO.none _)
      | (with_reducible refine LeO.ite ?_ ?_)
      | (with_reducible refine LeO.bind ?_ (fun _ => ?_))
      | exact spec_FormatNumber.mono _ _
      | exact LeO.none _
      | refine LeO.ite ?_ ?_
      | refine LeO.bind ?_ (fun _ => ?_)
def spec_FormatMeasure.T7 : Bool × List (List Nat × List Nat) := (true, [([], []), ([], []), ([1], [1]), ([2], [2]), ([0, 3], [0, 3]), ([], []), ([], []), ([6], [6]), ([5, 7], [5, 7]), ([8], [8]), ([4, 9], [4, 9]), ([10, 3, 0, 1, 2, 3, 4, 5, 6, 7, 8, 9, 10], [10])])
def spec_FormatMeasure.B7 : List Nat := [0, 0, 2, 6, 15, 0, 0, 64, 224, 480, 1023, 2047]
theorem spec_FormatMeasure.tab7 : rtab .any (opsOf Tryd.f67 7) = spec_FormatMeasure.T7 := by kernel_rfl
theorem spec_FormatMeasure.bits7 : waitsOk spec_FormatMeasure.T7.2 spec_FormatMeasure.B7 = true := by kernel_rfl
set_option maxHeartbeats 8000000 in
set_option maxRecDepth 100000 in
theorem spec_FormatMeasure.calls (k : Nat) (a0 : Int) (r : ByteArray) (w : World) (h : spec_FormatMeasure.f k a0 = some r) :
    Calls Tryd.prog 67 #[.int .i64 a0] w fun e w' => e = .returned (.string r) ∧ Below w.heap.size w w' := by
  have HB := Aside0.mk (Below.refl w.heap.size w)
  have H : ((spec_IsMeasure.f a0).bind fun t132 => (if t132 = true then (if a0 < 0 then ((spec_FormatNumber.f k (wrap64 (Int.tdiv (wrap64 (-a0)) 8))).bind fun t133 => (if 1 + t133.size ≤ 9223372036854775807 then ((some (([(⟨#[]⟩ : ByteArray), (⟨#[46, 49, 50, 53]⟩ : ByteArray), (⟨#[46, 50, 53]⟩ : ByteArray), (⟨#[46, 51, 55, 53]⟩ : ByteArray), (⟨#[46, 53]⟩ : ByteArray), (⟨#[46, 54, 50, 53]⟩ : ByteArray), (⟨#[46, 55, 53]⟩ : ByteArray), (⟨#[46, 56, 55, 53]⟩ : ByteArray)] : List ByteArray) : List ByteArray)).bind fun y134 => (if 0 ≤ (Int.tmod (wrap64 (-a0)) 8) then (if (Int.tmod (wrap64 (-a0)) 8) < (y134.length : Int) then (if ((⟨#[45]⟩ : ByteArray) ++ t133).size + (rdOf ByteArray.empty y134 (Int.tmod (wrap64 (-a0)) 8)).size ≤ 9223372036854775807 then (some (((⟨#[45]⟩ : ByteArray) ++ t133) ++ (rdOf ByteArray.empty y134 (Int.tmod (wrap64 (-a0)) 8)))) else (none)) else (none)) else (none))) else (none))) else ((spec_FormatNumber.f k (wrap64 (Int.tdiv a0 8))).bind fun t138 => (if 0 + t138.size ≤ 9223372036854775807 then ((some (([(⟨#[]⟩ : ByteArray), (⟨#[46, 49, 50, 53]⟩ : ByteArray), (⟨#[46, 50, 53]⟩ : ByteArray), (⟨#[46, 51, 55, 53]⟩ : ByteArray), (⟨#[46, 53]⟩ : ByteArray), (⟨#[46, 54, 50, 53]⟩ : ByteArray), (⟨#[46, 55, 53]⟩ : ByteArray), (⟨#[46, 56, 55, 53]⟩ : ByteArray)] : List ByteArray) : List ByteArray)).bind fun y139 => (if 0 ≤ (Int.tmod a0 8) then (if (Int.tmod a0 8) < (y139.length : Int) then (if ((⟨#[]⟩ : ByteArray) ++ t138).size + (rdOf ByteArray.empty y139 (Int.tmod a0 8)).size ≤ 9223372036854775807 then (some (((⟨#[]⟩ : ByteArray) ++ t138) ++ (rdOf ByteArray.empty y139 (Int.tmod a0 8)))) else (none)) else (none)) else (none))) else (none)))) else (some (⟨#[]⟩ : ByteArray)))) = some r := h
  clear h
  replace H := Option.bind_eq_some_iff.mp H
  obtain ⟨t132, A20, H⟩ := H
  replace H : (if t132 = true then (if a0 < 0 then ((spec_FormatNumber.f k (wrap64 (Int.tdiv (wrap64 (-a0)) 8))).bind fun t133 => (if 1 + t133.size ≤ 9223372036854775807 then ((some (([(⟨#[]⟩ : ByteArray), (⟨#[46, 49, 50, 53]⟩ : ByteArray), (⟨#[46, 50, 53]⟩ : ByteArray), (⟨#[46, 51, 55, 53]⟩ : ByteArray), (⟨#[46, 53]⟩ : ByteArray), (⟨#[46, 54, 50, 53]⟩ : ByteArray), (⟨#[46, 55, 53]⟩ : ByteArray), (⟨#[46, 56, 55, 53]⟩ : ByteArray)] : List ByteArray) : List ByteArray)).bind fun y134 => (if 0 ≤ (Int.tmod (wrap64 (-a0)) 8) then (if (Int.tmod (wrap64 (-a0)) 8) < (y134.length : Int) then (if ((⟨#[45]⟩ : ByteArray) ++ t133).size + (rdOf ByteArray.empty y134 (Int.tmod (wrap64 (-a0)) 8)).size ≤ 9223372036854775807 then (some (((⟨#[45]⟩ : ByteArray) ++ t133) ++ (rdOf ByteArray.empty y134 (Int.tmod (wrap64 (-a0)) 8)))) else (none)) else (none)) else (none))) else (none))) else ((spec_FormatNumber.f k (wrap64 (Int.tdiv a0 8))).bind fun t138 => (if 0 + t138.size ≤ 9223372036854775807 then ((some (([(⟨#[]⟩ : ByteArray), (⟨#[46, 49, 50, 53]⟩ : ByteArray), (⟨#[46, 50, 53]⟩ : ByteArray), (⟨#[46, 51, 55, 53]⟩ : ByteArray), (⟨#[46, 53]⟩ : ByteArray), (⟨#[46, 54, 50, 53]⟩ : ByteArray), (⟨#[46, 55, 53]⟩ : ByteArray), (⟨#[46, 56, 55, 53]⟩ : ByteArray)] : List ByteArray) : List ByteArray)).bind fun y139 => (if 0 ≤ (Int.tmod a0 8) then (if (Int.tmod a0 8) < (y139.length : Int) then (if ((⟨#[]⟩ : ByteArray) ++ t138).size + (rdOf ByteArray.empty y139 (Int.tmod a0 8)).size ≤ 9223372036854775807 then (some (((⟨#[]⟩ : ByteArray) ++ t138) ++ (rdOf ByteArray.empty y139 (Int.tmod a0 8)))) else (none)) else (none)) else (none))) else (none)))) else (some (⟨#[]⟩ : ByteArray))) = some r := H
  have A2 := Aside0.mk A20
  clear A20
  by_cases c3 : t132 = true
  · subst c3
    have H1 : (if a0 < 0 then ((spec_FormatNumber.f k (wrap64 (Int.tdiv (wrap64 (-a0)) 8))).bind fun t133 => (if 1 + t133.size ≤ 9223372036854775807 then ((some (([(⟨#[]⟩ : ByteArray), (⟨#[46, 49, 50, 53]⟩ : ByteArray), (⟨#[46, 50, 53]⟩ : ByteArray), (⟨#[46, 51, 55, 53]⟩ : ByteArray), (⟨#[46, 53]⟩ : ByteArray), (⟨#[46, 54, 50, 53]⟩ : ByteArray), (⟨#[46, 55, 53]⟩ : ByteArray), (⟨#[46, 56, 55, 53]⟩ : ByteArray)] : List ByteArray) : List ByteArray)).bind fun y134 => (if 0 ≤ (Int.tmod (wrap64 (-a0)) 8) then (if (Int.tmod (wrap64 (-a0)) 8) < (y134.length : Int) then (if ((⟨#[45]⟩ : ByteArray) ++ t133).size + (rdOf ByteArray.empty y134 (Int.tmod (wrap64 (-a0)) 8)).size ≤ 9223372036854775807 then (some (((⟨#[45]⟩ : ByteArray) ++ t133) ++ (rdOf ByteArray.empty y134 (Int.tmod (wrap64 (-a0)) 8)))) else (none)) else (none)) else (none))) else (none))) else ((spec_FormatNumber.f k (wrap64 (Int.tdiv a0 8))).bind fun t138 => (if 0 + t138.size ≤ 9223372036854775807 then ((some (([(⟨#[]⟩ : ByteArray), (⟨#[46, 49, 50, 53]⟩ : ByteArray), (⟨#[46, 50, 53]⟩ : ByteArray), (⟨#[46, 51, 55, 53]⟩ : ByteArray), (⟨#[46, 53]⟩ : ByteArray), (⟨#[46, 54, 50, 53]⟩ : ByteArray), (⟨#[46, 55, 53]⟩ : ByteArray), (⟨#[46, 56, 55, 53]⟩ : ByteArray)] : List ByteArray) : List ByteArray)).bind fun y139 => (if 0 ≤ (Int.tmod a0 8) then (if (Int.tmod a0 8) < (y139.length : Int) then (if ((⟨#[]⟩ : ByteArray) ++ t138).size + (rdOf ByteArray.empty y139 (Int.tmod a0 8)).size ≤ 9223372036854775807 then (some (((⟨#[]⟩ : ByteArray) ++ t138) ++ (rdOf ByteArray.empty y139 (Int.tmod a0 8)))) else (none)) else (none)) else (none))) else (none)))) = some r := by rw [if_pos rfl] at H; exact H
    clear H
    have H := H1
    clear H1
    by_cases c4 : a0 < 0
    · rw [if_pos c4] at H
      have c4b0 : decide (a0 < 0) = true := decide_eq_true c4
      clear c4
      replace H := Option.bind_eq_some_iff.mp H
      obtain ⟨t133, A50, H⟩ := H
      replace H : (if 1 + t133.size ≤ 9223372036854775807 then ((some (([(⟨#[]⟩ : ByteArray), (⟨#[46, 49, 50, 53]⟩ : ByteArray), (⟨#[46, 50, 53]⟩ : ByteArray), (⟨#[46, 51, 55, 53]⟩ : ByteArray), (⟨#[46, 53]⟩ : ByteArray), (⟨#[46, 54, 50, 53]⟩ : ByteArray), (⟨#[46, 55, 53]⟩ : ByteArray), (⟨#[46, 56, 55, 53]⟩ : ByteArray)] : List ByteArray) : List ByteArray)).bind fun y134 => (if 0 ≤ (Int.tmod (wrap64 (-a0)) 8) then (if (Int.tmod (wrap64 (-a0)) 8) < (y134.length : Int) then (if ((⟨#[45]⟩ : ByteArray) ++ t133).size + (rdOf ByteArray.empty y134 (Int.tmod (wrap64 (-a0)) 8)).size ≤ 9223372036854775807 then (some (((⟨#[45]⟩ : ByteArray) ++ t133) ++ (rdOf ByteArray.empty y134 (Int.tmod (wrap64 (-a0)) 8)))) else (none)) else (none)) else (none))) else (none)) = some r := H
      have A5 := Aside0.mk A50
      clear A50
      by_cases c6 : 1 + t133.size ≤ 9223372036854775807
      · rw [if_pos c6] at H
        have c6b0 := eq_true c6
        have c6b1 : decide (1 + t133.size ≤ 9223372036854775807) = true := decide_eq_true c6
        try have c6b2 : (9223372036854775807 < 1 + t133.size) = False := eq_false (Nat.not_lt.2 c6)
        obtain ⟨y134, hy134⟩ : ∃ y_ : List ByteArray, y_ = (([(⟨#[]⟩ : ByteArray), (⟨#[46, 49, 50, 53]⟩ : ByteArray), (⟨#[46, 50, 53]⟩ : ByteArray), (⟨#[46, 51, 55, 53]⟩ : ByteArray), (⟨#[46, 53]⟩ : ByteArray), (⟨#[46, 54, 50, 53]⟩ : ByteArray), (⟨#[46, 55, 53]⟩ : ByteArray), (⟨#[46, 56, 55, 53]⟩ : ByteArray)] : List ByteArray)) := ⟨_, rfl⟩
        replace H : (if 0 ≤ (Int.tmod (wrap64 (-a0)) 8) then (if (Int.tmod (wrap64 (-a0)) 8) < (y134.length : Int) then (if ((⟨#[45]⟩ : ByteArray) ++ t133).size + (rdOf ByteArray.empty y134 (Int.tmod (wrap64 (-a0)) 8)).size ≤ 9223372036854775807 then (some (((⟨#[45]⟩ : ByteArray) ++ t133) ++ (rdOf ByteArray.empty y134 (Int.tmod (wrap64 (-a0)) 8)))) else (none)) else (none)) else (none)) = some r := by first | (rw [hy134]; with_reducible exact H) | (have H2_ := (Option.bind_some _ _).symm.trans H; rw [hy134]; with_reducible exact H2_) | (have H2_ := (Option.bind_some _ _).symm.trans H; with_reducible exact H2_) | with_reducible exact H | (rw [hy134]; exact H) | exact H
        have Ny134 := Aside0.mk hy134
        clear hy134
        obtain ⟨ji7, hji7⟩ : ∃ j_ : Int, (Int.tmod (wrap64 (-a0)) 8) = j_ := ⟨_, rfl⟩
        replace H : (if 0 ≤ (ji7) then (if (ji7) < (y134.length : Int) then (if ((⟨#[45]⟩ : ByteArray) ++ t133).size + (rdOf ByteArray.empty y134 (ji7)).size ≤ 9223372036854775807 then (some (((⟨#[45]⟩ : ByteArray) ++ t133) ++ (rdOf ByteArray.empty y134 (ji7)))) else (none)) else (none)) else (none)) = some r := by first | (rw [hji7] at H; exact H) | (simp only [hji7] at H ⊢; exact H)
        (try rw [hji7] at A2)
        (try rw [hji7] at A5)
        by_cases c8 : 0 ≤ (ji7)
        · rw [if_pos c8] at H
          have c8b0 : decide (0 ≤ (ji7)) = true := decide_eq_true c8
          clear c8
          by_cases c9 : (ji7) < (y134.length : Int)
          · rw [if_pos c9] at H
            have c9b0 : decide ((ji7) < (y134.length : Int)) = true := decide_eq_true c9
            clear c9
            by_cases c10 : ((⟨#[45]⟩ : ByteArray) ++ t133).size + (rdOf ByteArray.empty y134 (ji7)).size ≤ 9223372036854775807
            · rw [if_pos c10] at H
              have c10b0 := eq_true c10
              have c10b1 : decide (((⟨#[45]⟩ : ByteArray) ++ t133).size + (rdOf ByteArray.empty y134 (ji7)).size ≤ 9223372036854775807) = true := decide_eq_true c10
              try have c10b2 : (9223372036854775807 < ((⟨#[45]⟩ : ByteArray) ++ t133).size + (rdOf ByteArray.empty y134 (ji7)).size) = False := eq_false (Nat.not_lt.2 c10)
              try have c10b8 : (1 + t133.size + (rdOf ByteArray.empty y134 (ji7)).size ≤ 9223372036854775807) = True := by have t_ := c10b0; first | (simp only [ByteArray.size_append, Nat.zero_add, Nat.add_zero] at t_; exact t_) | (have t2_ := of_eq_true t_; simp only [ByteArray.size_append] at t2_; exact eq_true (by first | exact t2_ | (have t3_ := t2_; change 0 + _ ≤ _ at t3_; rwa [Nat.zero_add] at t3_) | (change (0 + _) + _ ≤ _ at t2_; rwa [Nat.zero_add] at t2_)))
              try have c10b9 : (9223372036854775807 < 1 + t133.size + (rdOf ByteArray.empty y134 (ji7)).size) = False := by have t_ := c10b2; first | (simp only [ByteArray.size_append] at t_; exact t_) | (have t2_ := c10b8; exact eq_false (Nat.not_lt.2 (of_eq_true t2_)))
              obtain rfl := Option.some.inj H
              go_enter Tryd.func67, Tryd.ntmps67
              try go_wp2_with (first | ((with_reducible refine gate_callee (f := 90) rfl ?_); refine goesL_ (some 5) rfl rfl Tryd.func90 (by kernel_rfl) rfl #[.int .i64 a0] rfl (by (try simp only [List.map_toArray, List.map_cons, List.map_nil]); first | done | rfl | (simp only [List.length_drop, List.length_take]; rfl)) ?_; (with_reducible refine (spec_IsMeasure.calls a0 true _ A2.out).mono ?_); rintro e w' ⟨rfl, ⟨nd, rfl⟩⟩; refine ⟨_, rfl, ?_⟩))
              have pi137 : (0 ≤ ((ji7) : Int)) = True := eq_true (of_decide_eq_true (by first | (with_reducible assumption) | assumption))
              have qi137 : ((ji7) < (y134.length : Int)) = True := eq_true (of_decide_eq_true (by first | (with_reducible assumption) | assumption))
              have n0_ := (show Aside0 (Below w.heap.size w (w.drewN nd).drew) from ⟨by repeat (first | (with_reducible first | exact HB.out | apply below_alloc | apply pw_below_drewN | apply below_drew1) | exact HB.out)⟩)
              clear HB
              have HB := n0_
              clear n0_
              refine start_ (n := 12) (S := fun w' => True) (ds := []) #[false, false, false, false, false, false, false, false, false, false, false, false] (by kernel_rfl) rfl rfl trivial (fun hHeld => ?_); refine with_tabW spec_FormatMeasure.tab7 spec_FormatMeasure.bits7 (fun HT_ HW_ => ?_)
              generalize (w.drewN nd).drew = w11 at HB hHeld ⊢
              refine pure_ (i := 0) (N := some 12) (v := ?_) (a' := ?_) #[true, false, false, false, false, false, false, false, false, false, false, false] rfl rfl (any_of HT_.out (by kernel_rfl)) (fun _ _ _ h => h) (Or.inl ⟨by rfl, ?_⟩) ?_ ?_
              rotate_left
              · intro w'
                go_simp
                first | (with_reducible rfl) | rfl
              rotate_left
              · simp only [Act.put, List.setIfInBounds_toArray, List.set_cons_zero, List.set_cons_succ, i64_w, i32_w]
                rfl
              refine pure_ (i := 1) (N := some 13) (v := ?_) (a' := ?_) #[true, true, false, false, false, false, false, false, false, false, false, false] rfl rfl (any_of HT_.out (by kernel_rfl)) (fun _ _ _ h => h) (Or.inl ⟨by rfl, ?_⟩) ?_ ?_
              rotate_left
              · intro w'
                go_simp
                first | (with_reducible rfl) | rfl
              rotate_left
              · simp only [Act.put, List.setIfInBounds_toArray, List.set_cons_zero, List.set_cons_succ, i64_w, i32_w]
                rfl
              refine pure_ (i := 6) (N := some 18) (v := ?_) (a' := ?_) #[true, true, false, false, false, false, true, false, false, false, false, false] rfl rfl (any_of HT_.out (by kernel_rfl)) (fun _ _ _ h => h) (Or.inl ⟨by rfl, ?_⟩) ?_ ?_
              rotate_left
              · intro w'
                go_simp
                first | (with_reducible rfl) | rfl
              rotate_left
              · simp only [Act.put, List.setIfInBounds_toArray, List.set_cons_zero, List.set_cons_succ, i64_w, i32_w]
                rfl
              refine inv_at [2, 3, 4, 5, 7, 8, 9, 10, 11] (fun a0_ b a w' => ∃ (v135 : Value) (adz_v135 : Addr) (m8_ : Value), a = putSel a0_ b [(2, 14, .int .i64 (wrap64 (Int.tdiv (wrap64 (-a0)) 8))), (3, 15, .string t133), (4, 16, .string ((⟨#[45]⟩ : ByteArray) ++ t133)), (5, 17, v135), (7, 19, .int .i64 ji7), (8, 20, m8_), (9, 21, .string (rdOf ByteArray.empty y134 (ji7))), (10, 22, .string (((⟨#[45]⟩ : ByteArray) ++ t133) ++ (rdOf ByteArray.empty y134 (ji7)))), (11, 2, .string (((⟨#[45]⟩ : ByteArray) ++ t133) ++ (rdOf ByteArray.empty y134 (ji7))))] ∧ (Below w.heap.size w w') ∧ (b 5 = true → Kd.R Kd.string 9 w' w.heap.size (fun _ => True) v135 y134) ∧ (b 5 = true → ∃ c_, (v135 : Value) = .slice (some adz_v135) y134.length c_) ∧ (b 8 = true → (m8_ : Value) = .pointer (some (adz_v135.add ((ji7)).toNat)))) HT_.out HW_.out (by kernel_rfl) (by kernel_rfl) ?_ ?_ ?_
              · exact ⟨.bool false, ⟨0, 0, none⟩, .bool false, by simp only [putSel, Bool.false_eq_true, if_false], HB.out, fun h_ => absurd h_ (by decide), fun h_ => absurd h_ (by decide), fun h_ => absurd h_ (by decide)⟩
              · skip
                clear HB
                refine steps_cons ?_ ?_
                · rintro b a w' ⟨v135, adz_v135, m8_, ha, Q_HB, Q_HO136, Q_HA_HO136, Q_X8_⟩ hb_ hon hoff
                  refine ⟨_, rfl, fun K hK => ?_⟩
                  have e13 : a.tmps[13]? = some (.int .i64 (wrap64 (-a0))) := by rw [ha]; exact (putSel_off rfl).trans rfl
                  replace ha := Aside0.mk ha
                  have HB := Aside0.mk Q_HB
                  refine value_ (w1 := w') (v := .int .i64 (wrap64 (Int.tdiv (wrap64 (-a0)) 8))) (by rfl) rfl ?_ ?_
                  · go_simp
                    (try simp only [i64_w])
                    try rfl
                  refine hK.out _ _ ⟨v135, adz_v135, m8_, (by rw [ha.out]; exact putSel_upk 0 hb_ rfl rfl rfl), Q_HB, Q_HO136, Q_HA_HO136, Q_X8_⟩
                refine steps_cons ?_ ?_
                · rintro b a w' ⟨v135, adz_v135, m8_, ha, Q_HB, Q_HO136, Q_HA_HO136, Q_X8_⟩ hb_ hon hoff
                  refine ⟨_, rfl, fun K hK => ?_⟩
                  have e14 : a.tmps[14]? = some (.int .i64 (wrap64 (Int.tdiv (wrap64 (-a0)) 8))) := by rw [ha]; exact putSel_on (e := (2, 14, .int .i64 (wrap64 (Int.tdiv (wrap64 (-a0)) 8)))) 0 rfl rfl (hon 2 (by kernel_rfl)) rfl
                  replace ha := Aside0.mk ha
                  have HB := Aside0.mk Q_HB
                  refine goes_ Tryd.func66 (by kernel_rfl) rfl #[.int .i64 (wrap64 (Int.tdiv (wrap64 (-a0)) 8))] (by rfl) rfl rfl (by first | (simp only [List.map_toArray, List.map_cons, List.map_nil, Act.eval, Array.getD_eq_getD_getElem?, Option.getD_some, e14]; done) | (simp only [List.map_toArray, List.map_cons, List.map_nil, Act.eval, Array.getD_eq_getD_getElem?, Option.getD_some, e14]; rfl)) ?_
                  with_reducible refine (spec_FormatNumber.calls k (wrap64 (Int.tdiv (wrap64 (-a0)) 8)) t133 _ A5.out).mono ?_
                  rintro e w12 ⟨rfl, hb⟩
                  refine ⟨_, rfl, ?_⟩
                  have n0_ := Aside0.mk (below_step (by repeat (first | (with_reducible first | exact HB.out | apply below_alloc | apply pw_below_drewN | apply below_drew1) | exact HB.out)) hb)
                  have z_HO136 := fun (h0_ : b 5 = true) => (show Kd.R Kd.string 9 w12 w.heap.size (fun _ => True) v135 y134 from by first | exact (Kd.R_below (by (with_reducible repeat (first | apply Kd.R_alloc | apply Kd.R_drewN | apply Kd.R_drew)); exact (Q_HO136 h0_)) hb) | exact Kd.R_mono (Kd.R_below (by (with_reducible repeat (first | apply Kd.R_alloc | apply Kd.R_drewN | apply Kd.R_drew)); exact (Q_HO136 h0_)) hb) (fun _ h_ => by first | trivial | exact h_ | exact h_.1))
                  clear HB
                  have HB := n0_
                  clear n0_
                  (try clear hb)
                  (try clear hb2)
                  (try clear hk)
                  (try clear hi)
                  refine hK.out _ _ ⟨v135, adz_v135, m8_, (by rw [ha.out]; exact putSel_upk 1 hb_ rfl rfl rfl), (by repeat (first | (with_reducible first | exact HB.out | apply below_alloc | apply pw_below_drewN | apply below_drew1) | exact HB.out)), z_HO136, Q_HA_HO136, Q_X8_⟩
                refine steps_cons ?_ ?_
                · rintro b a w' ⟨v135, adz_v135, m8_, ha, Q_HB, Q_HO136, Q_HA_HO136, Q_X8_⟩ hb_ hon hoff
                  refine ⟨_, rfl, fun K hK => ?_⟩
                  have e12 : a.tmps[12]? = some (.string (⟨#[45]⟩ : ByteArray)) := by rw [ha]; exact (putSel_off rfl).trans rfl
                  have e15 : a.tmps[15]? = some (.string t133) := by rw [ha]; exact putSel_on (e := (3, 15, .string t133)) 1 rfl rfl (hon 3 (by kernel_rfl)) rfl
                  replace ha := Aside0.mk ha
                  have HB := Aside0.mk Q_HB
                  refine value_ (w1 := w') (v := .string ((⟨#[45]⟩ : ByteArray) ++ t133)) (by rfl) rfl ?_ ?_
                  · go_simp
                    (try simp only [i64_w])
                    try rfl
                  refine hK.out _ _ ⟨v135, adz_v135, m8_, (by rw [ha.out]; exact putSel_upk 2 hb_ rfl rfl rfl), Q_HB, Q_HO136, Q_HA_HO136, Q_X8_⟩
                refine steps_cons ?_ ?_
                · rintro b a w' ⟨v135, adz_v135, m8_, ha, Q_HB, Q_HO136, Q_HA_HO136, Q_X8_⟩ hb_ hon hoff
                  refine ⟨_, rfl, fun K hK => ?_⟩
                  replace ha := Aside0.mk ha
                  have HB := Aside0.mk Q_HB
                  refine Kd.R_lit_step Kd.string _ 9 ?hg (N := 17) ?hd (xs := ([(⟨#[]⟩ : ByteArray), (⟨#[46, 49, 50, 53]⟩ : ByteArray), (⟨#[46, 50, 53]⟩ : ByteArray), (⟨#[46, 51, 55, 53]⟩ : ByteArray), (⟨#[46, 53]⟩ : ByteArray), (⟨#[46, 54, 50, 53]⟩ : ByteArray), (⟨#[46, 55, 53]⟩ : ByteArray), (⟨#[46, 56, 55, 53]⟩ : ByteArray)] : List ByteArray)) (inner := [.string (⟨#[]⟩ : ByteArray), .string (⟨#[46, 49, 50, 53]⟩ : ByteArray), .string (⟨#[46, 50, 53]⟩ : ByteArray), .string (⟨#[46, 51, 55, 53]⟩ : ByteArray), .string (⟨#[46, 53]⟩ : ByteArray), .string (⟨#[46, 54, 50, 53]⟩ : ByteArray), .string (⟨#[46, 55, 53]⟩ : ByteArray), .string (⟨#[46, 56, 55, 53]⟩ : ByteArray)]) (ok := fun _ => True) (okp := fun _ => True) ?hr ?hp (fun _ hk => hk) trivial (Below.refl _ _) (Nat.le_refl _) (by simp) ?_; (case hd => rfl); (case hg => rfl); (case hr => first | (go_simp; done) | (go_simp; rfl)); (case hp => exact (Reps.one (show Kd.M Kd.string _ _ _ (⟨#[]⟩ : ByteArray) [.string (⟨#[]⟩ : ByteArray)] from rfl) (Reps.one (show Kd.M Kd.string _ _ _ (⟨#[46, 49, 50, 53]⟩ : ByteArray) [.string (⟨#[46, 49, 50, 53]⟩ : ByteArray)] from rfl) (Reps.one (show Kd.M Kd.string _ _ _ (⟨#[46, 50, 53]⟩ : ByteArray) [.string (⟨#[46, 50, 53]⟩ : ByteArray)] from rfl) (Reps.one (show Kd.M Kd.string _ _ _ (⟨#[46, 51, 55, 53]⟩ : ByteArray) [.string (⟨#[46, 51, 55, 53]⟩ : ByteArray)] from rfl) (Reps.one (show Kd.M Kd.string _ _ _ (⟨#[46, 53]⟩ : ByteArray) [.string (⟨#[46, 53]⟩ : ByteArray)] from rfl) (Reps.one (show Kd.M Kd.string _ _ _ (⟨#[46, 54, 50, 53]⟩ : ByteArray) [.string (⟨#[46, 54, 50, 53]⟩ : ByteArray)] from rfl) (Reps.one (show Kd.M Kd.string _ _ _ (⟨#[46, 55, 53]⟩ : ByteArray) [.string (⟨#[46, 55, 53]⟩ : ByteArray)] from rfl) (Reps.one (show Kd.M Kd.string _ _ _ (⟨#[46, 56, 55, 53]⟩ : ByteArray) [.string (⟨#[46, 56, 55, 53]⟩ : ByteArray)] from rfl) (Reps.none _ _))))))))))
                  intro v135 w12 ho13 hb hg_ hnew_
                  clear hg_ hnew_
                  (first | rw [← Ny134.out] at ho13 | (simp only [Int.reduceToNat] at ho13; rw [← Ny134.out] at ho13))
                  have n0_ := Aside0.mk (Kd.R_lower ho13 (below_size (by repeat (first | (with_reducible first | exact HB.out | apply below_alloc | apply pw_below_drewN | apply below_drew1) | exact HB.out))))
                  have n1_ := Aside0.mk (below_step (by repeat (first | (with_reducible first | exact HB.out | apply below_alloc | apply pw_below_drewN | apply below_drew1) | exact HB.out)) hb)
                  clear HB
                  have HO136 := n0_
                  have HB := n1_
                  clear n0_ n1_
                  clear hb ho13
                  obtain ⟨Ao14, co14, eo14⟩ := Kd.R_slice HO136.out
                  subst eo14
                  obtain ⟨ado14, fo14, _⟩ := Kd.at_string (Kd.R_reads' HO136.out).2.2 0 (by decide) (by rw [Ny134.out]; simp)
                  cases fo14
                  refine hK.out _ _ ⟨.slice (some ado14) y134.length co14, ado14, m8_, (by rw [ha.out]; exact putSel_upk 3 hb_ rfl rfl rfl), (by repeat (first | (with_reducible first | exact HB.out | apply below_alloc | apply pw_below_drewN | apply below_drew1) | exact HB.out)), fun _ => (by (with_reducible repeat (first | apply Kd.R_alloc | apply Kd.R_drewN | apply Kd.R_drew)); exact HO136.out), fun _ => ⟨_, rfl⟩, fun h0_ => absurd ((hoff 8 (by kernel_rfl)).symm.trans h0_) (by decide)⟩
                refine steps_cons ?_ ?_
                · rintro b a w' ⟨v135, adz_v135, m8_, ha, Q_HB, Q_HO136, Q_HA_HO136, Q_X8_⟩ hb_ hon hoff
                  refine ⟨_, rfl, fun K hK => ?_⟩
                  have e18 : a.tmps[18]? = some (.int .i64 (wrap64 (-a0))) := by rw [ha]; exact (putSel_off rfl).trans rfl
                  replace ha := Aside0.mk ha
                  have HB := Aside0.mk Q_HB
                  refine value_ (w1 := w') (v := .int .i64 ji7) (by rfl) rfl ?_ ?_
                  · go_simp
                    (try simp only [i64_w])
                    try rfl
                  refine hK.out _ _ ⟨v135, adz_v135, m8_, (by rw [ha.out]; exact putSel_upk 4 hb_ rfl rfl rfl), Q_HB, Q_HO136, Q_HA_HO136, fun h0_ => absurd ((hoff 8 (by kernel_rfl)).symm.trans h0_) (by decide)⟩
                refine steps_cons ?_ ?_
                · rintro b a w' ⟨v135, adz_v135, m8_, ha, Q_HB, Q_HO136, Q_HA_HO136, Q_X8_⟩ hb_ hon hoff
                  refine ⟨_, rfl, fun K hK => ?_⟩
                  have e17 : a.tmps[17]? = some (v135) := by rw [ha]; exact putSel_on (e := (5, 17, v135)) 3 rfl rfl (hon 5 (by kernel_rfl)) rfl
                  have e19 : a.tmps[19]? = some (.int .i64 ji7) := by rw [ha]; exact putSel_on (e := (7, 19, .int .i64 ji7)) 4 rfl rfl (hon 7 (by kernel_rfl)) rfl
                  replace ha := Aside0.mk ha
                  have HB := Aside0.mk Q_HB
                  have HO136 := Aside0.mk (Q_HO136 (hon 5 (by kernel_rfl)))
                  have HA_HO136 := Aside0.mk (Q_HA_HO136 (hon 5 (by kernel_rfl)))
                  obtain ⟨c_, hv_⟩ := HA_HO136.out
                  rw [hv_] at e17
                  refine value_ (w1 := w') (v := .pointer (some (adz_v135.add ((ji7)).toNat))) (by rfl) rfl ?_ ?_
                  · go_simp
                    (try simp only [i64_w])
                    try rfl
                  refine hK.out _ _ ⟨v135, adz_v135, (.pointer (some (adz_v135.add ((ji7)).toNat))), (by rw [ha.out]; exact putSel_upk 5 hb_ rfl rfl rfl), Q_HB, Q_HO136, Q_HA_HO136, fun _ => rfl⟩
                refine steps_cons ?_ ?_
                · rintro b a w' ⟨v135, adz_v135, m8_, ha, Q_HB, Q_HO136, Q_HA_HO136, Q_X8_⟩ hb_ hon hoff
                  refine ⟨_, rfl, fun K hK => ?_⟩
                  have e20 : a.tmps[20]? = some (m8_) := by rw [ha]; exact putSel_on (e := (8, 20, m8_)) 5 rfl rfl (hon 8 (by kernel_rfl)) rfl
                  rw [Q_X8_ (hon 8 (by kernel_rfl))] at e20
                  replace ha := Aside0.mk ha
                  have HB := Aside0.mk Q_HB
                  have HO136 := Aside0.mk (Q_HO136 (hon 5 (by kernel_rfl)))
                  have HA_HO136 := Aside0.mk (Q_HA_HO136 (hon 5 (by kernel_rfl)))
                  obtain ⟨c_, hv_⟩ := HA_HO136.out
                  have hF_ := HO136.out
                  rw [hv_] at hF_
                  obtain ⟨ad_, ea_, hx_⟩ := Kd.at_string (Kd.R_reads' hF_).2.2 (ji7) (of_eq_true pi137) (of_eq_true qi137)
                  cases ea_
                  refine value_ (w1 := w') (v := .string (rdOf ByteArray.empty y134 (ji7))) (by rfl) rfl ?_ ?_
                  · go_simp
                    (try simp only [i64_w])
                    try rfl
                  refine hK.out _ _ ⟨v135, adz_v135, m8_, (by rw [ha.out]; exact putSel_upk 6 hb_ rfl rfl rfl), Q_HB, Q_HO136, Q_HA_HO136, Q_X8_⟩
                refine steps_cons ?_ ?_
                · rintro b a w' ⟨v135, adz_v135, m8_, ha, Q_HB, Q_HO136, Q_HA_HO136, Q_X8_⟩ hb_ hon hoff
                  refine ⟨_, rfl, fun K hK => ?_⟩
                  have e16 : a.tmps[16]? = some (.string ((⟨#[45]⟩ : ByteArray) ++ t133)) := by rw [ha]; exact putSel_on (e := (4, 16, .string ((⟨#[45]⟩ : ByteArray) ++ t133))) 2 rfl rfl (hon 4 (by kernel_rfl)) rfl
                  have e21 : a.tmps[21]? = some (.string (rdOf ByteArray.empty y134 (ji7))) := by rw [ha]; exact putSel_on (e := (9, 21, .string (rdOf ByteArray.empty y134 (ji7)))) 6 rfl rfl (hon 9 (by kernel_rfl)) rfl
                  replace ha := Aside0.mk ha
                  have HB := Aside0.mk Q_HB
                  have HO136 := Aside0.mk (Q_HO136 (hon 5 (by kernel_rfl)))
                  have HA_HO136 := Aside0.mk (Q_HA_HO136 (hon 5 (by kernel_rfl)))
                  refine value_ (w1 := w') (v := .string (((⟨#[45]⟩ : ByteArray) ++ t133) ++ (rdOf ByteArray.empty y134 (ji7)))) (by rfl) rfl ?_ ?_
                  · go_simp
                    (try simp only [i64_w])
                    try rfl
                  refine hK.out _ _ ⟨v135, adz_v135, m8_, (by rw [ha.out]; exact putSel_upk 7 hb_ rfl rfl rfl), Q_HB, Q_HO136, Q_HA_HO136, Q_X8_⟩
                refine steps_cons ?_ ?_
                · rintro b a w' ⟨v135, adz_v135, m8_, ha, Q_HB, Q_HO136, Q_HA_HO136, Q_X8_⟩ hb_ hon hoff
                  refine ⟨_, rfl, fun K hK => ?_⟩
                  have e22 : a.tmps[22]? = some (.string (((⟨#[45]⟩ : ByteArray) ++ t133) ++ (rdOf ByteArray.empty y134 (ji7)))) := by rw [ha]; exact putSel_on (e := (10, 22, .string (((⟨#[45]⟩ : ByteArray) ++ t133) ++ (rdOf ByteArray.empty y134 (ji7))))) 7 rfl rfl (hon 10 (by kernel_rfl)) rfl
                  replace ha := Aside0.mk ha
                  have HB := Aside0.mk Q_HB
                  have HO136 := Aside0.mk (Q_HO136 (hon 5 (by kernel_rfl)))
                  have HA_HO136 := Aside0.mk (Q_HA_HO136 (hon 5 (by kernel_rfl)))
                  refine value_ (w1 := w') (v := .string (((⟨#[45]⟩ : ByteArray) ++ t133) ++ (rdOf ByteArray.empty y134 (ji7)))) (by rfl) rfl ?_ ?_
                  · go_simp
                    (try simp only [i64_w])
                    try rfl
                  refine hK.out _ _ ⟨v135, adz_v135, m8_, (by rw [ha.out]; exact putSel_upk 8 hb_ rfl rfl rfl), Q_HB, Q_HO136, Q_HA_HO136, Q_X8_⟩
                exact steps_nil
              rintro b a w16 hall ⟨v135, adz_v135, m8_, ha, Q_HB, Q_HO136, Q_HA_HO136, Q_X8_⟩
              clear HB
              have hb2_ := hall 2 (by kernel_rfl)
              have hb3_ := hall 3 (by kernel_rfl)
              have hb4_ := hall 4 (by kernel_rfl)
              have hb5_ := hall 5 (by kernel_rfl)
              have hb7_ := hall 7 (by kernel_rfl)
              have hb8_ := hall 8 (by kernel_rfl)
              have hb9_ := hall 9 (by kernel_rfl)
              have hb10_ := hall 10 (by kernel_rfl)
              have hb11_ := hall 11 (by kernel_rfl)
              subst ha
              obtain rfl := Q_X8_ hb8_
              simp only [putSel, hb2_, hb3_, hb4_, hb5_, hb7_, hb8_, hb9_, hb10_, hb11_, if_true, Act.put, List.setIfInBounds_toArray, List.set_cons_zero, List.set_cons_succ]
              have HB := Aside0.mk Q_HB
              clear Q_HB
              have HO136 := Aside0.mk (Q_HO136 hb5_)
              clear Q_HO136
              have HA_HO136 := Aside0.mk (Q_HA_HO136 hb5_)
              clear Q_HA_HO136
              clear hall hb2_ hb3_ hb4_ hb5_ hb7_ hb8_ hb9_ hb10_ hb11_
              obtain ⟨co17, eo17⟩ := HA_HO136.out
              clear HA_HO136
              subst eo17
              try go_wp2
              go_ret
              exact ⟨by first | rfl | (simp [errW_none, errW_some] <;> rfl) | (simp only [← hji7]; first | rfl | (simp [errW_none, errW_some] <;> rfl)) | (simp [*, errW_none, errW_some] <;> rfl), by repeat (first | (with_reducible first | exact HB.out | apply below_alloc | apply pw_below_drewN | apply below_drew1) | exact HB.out)⟩
            · rw [if_neg c10] at H
              exact absurd H (by simp)
          · rw [if_neg c9] at H
            exact absurd H (by simp)
        · rw [if_neg c8] at H
          exact absurd H (by simp)
      · rw [if_neg c6] at H
        exact absurd H (by simp)
    · rw [if_neg c4] at H
      have c4b0 : decide (a0 < 0) = false := decide_eq_false c4
      clear c4
      replace H := Option.bind_eq_some_iff.mp H
      obtain ⟨t138, A180, H⟩ := H
      replace H : (if 0 + t138.size ≤ 9223372036854775807 then ((some (([(⟨#[]⟩ : ByteArray), (⟨#[46, 49, 50, 53]⟩ : ByteArray), (⟨#[46, 50, 53]⟩ : ByteArray), (⟨#[46, 51, 55, 53]⟩ : ByteArray), (⟨#[46, 53]⟩ : ByteArray), (⟨#[46, 54, 50, 53]⟩ : ByteArray), (⟨#[46, 55, 53]⟩ : ByteArray), (⟨#[46, 56, 55, 53]⟩ : ByteArray)] : List ByteArray) : List ByteArray)).bind fun y139 => (if 0 ≤ (Int.tmod a0 8) then (if (Int.tmod a0 8) < (y139.length : Int) then (if ((⟨#[]⟩ : ByteArray) ++ t138).size + (rdOf ByteArray.empty y139 (Int.tmod a0 8)).size ≤ 9223372036854775807 then (some (((⟨#[]⟩ : ByteArray) ++ t138) ++ (rdOf ByteArray.empty y139 (Int.tmod a0 8)))) else (none)) else (none)) else (none))) else (none)) = some r := H
      have A18 := Aside0.mk A180
      clear A180
      by_cases c19 : 0 + t138.size ≤ 9223372036854775807
      · rw [if_pos c19] at H
        have c19b0 := eq_true c19
        have c19b1 : decide (0 + t138.size ≤ 9223372036854775807) = true := decide_eq_true c19
        try have c19b2 : (9223372036854775807 < 0 + t138.size) = False := eq_false (Nat.not_lt.2 c19)
        try have c19b8 : (t138.size ≤ 9223372036854775807) = True := by have t_ := c19b0; first | (simp only [ByteArray.size_append, Nat.zero_add, Nat.add_zero] at t_; exact t_) | (have t2_ := of_eq_true t_; simp only [ByteArray.size_append] at t2_; exact eq_true (by first | exact t2_ | (have t3_ := t2_; change 0 + _ ≤ _ at t3_; rwa [Nat.zero_add] at t3_) | (change (0 + _) + _ ≤ _ at t2_; rwa [Nat.zero_add] at t2_)))
        try have c19b9 : (9223372036854775807 < t138.size) = False := by have t_ := c19b2; first | (simp only [ByteArray.size_append] at t_; exact t_) | (have t2_ := c19b8; exact eq_false (Nat.not_lt.2 (of_eq_true t2_)))
        obtain ⟨y139, hy139⟩ : ∃ y_ : List ByteArray, y_ = (([(⟨#[]⟩ : ByteArray), (⟨#[46, 49, 50, 53]⟩ : ByteArray), (⟨#[46, 50, 53]⟩ : ByteArray), (⟨#[46, 51, 55, 53]⟩ : ByteArray), (⟨#[46, 53]⟩ : ByteArray), (⟨#[46, 54, 50, 53]⟩ : ByteArray), (⟨#[46, 55, 53]⟩ : ByteArray), (⟨#[46, 56, 55, 53]⟩ : ByteArray)] : List ByteArray)) := ⟨_, rfl⟩
        replace H : (if 0 ≤ (Int.tmod a0 8) then (if (Int.tmod a0 8) < (y139.length : Int) then (if ((⟨#[]⟩ : ByteArray) ++ t138).size + (rdOf ByteArray.empty y139 (Int.tmod a0 8)).size ≤ 9223372036854775807 then (some (((⟨#[]⟩ : ByteArray) ++ t138) ++ (rdOf ByteArray.empty y139 (Int.tmod a0 8)))) else (none)) else (none)) else (none)) = some r := by first | (rw [hy139]; with_reducible exact H) | (have H2_ := (Option.bind_some _ _).symm.trans H; rw [hy139]; with_reducible exact H2_) | (have H2_ := (Option.bind_some _ _).symm.trans H; with_reducible exact H2_) | with_reducible exact H | (rw [hy139]; exact H) | exact H
        have Ny139 := Aside0.mk hy139
        clear hy139
        obtain ⟨ji20, hji20⟩ : ∃ j_ : Int, (Int.tmod a0 8) = j_ := ⟨_, rfl⟩
        replace H : (if 0 ≤ (ji20) then (if (ji20) < (y139.length : Int) then (if ((⟨#[]⟩ : ByteArray) ++ t138).size + (rdOf ByteArray.empty y139 (ji20)).size ≤ 9223372036854775807 then (some (((⟨#[]⟩ : ByteArray) ++ t138) ++ (rdOf ByteArray.empty y139 (ji20)))) else (none)) else (none)) else (none)) = some r := by first | (rw [hji20] at H; exact H) | (simp only [hji20] at H ⊢; exact H)
        (try rw [hji20] at A2)
        (try rw [hji20] at A18)
        by_cases c21 : 0 ≤ (ji20)
        · rw [if_pos c21] at H
          have c21b0 : decide (0 ≤ (ji20)) = true := decide_eq_true c21
          clear c21
          by_cases c22 : (ji20) < (y139.length : Int)
          · rw [if_pos c22] at H
            have c22b0 : decide ((ji20) < (y139.length : Int)) = true := decide_eq_true c22
            clear c22
            by_cases c23 : ((⟨#[]⟩ : ByteArray) ++ t138).size + (rdOf ByteArray.empty y139 (ji20)).size ≤ 9223372036854775807
            · rw [if_pos c23] at H
              have c23b0 := eq_true c23
              have c23b1 : decide (((⟨#[]⟩ : ByteArray) ++ t138).size + (rdOf ByteArray.empty y139 (ji20)).size ≤ 9223372036854775807) = true := decide_eq_true c23
              try have c23b2 : (9223372036854775807 < ((⟨#[]⟩ : ByteArray) ++ t138).size + (rdOf ByteArray.empty y139 (ji20)).size) = False := eq_false (Nat.not_lt.2 c23)
              try have c23b8 : (t138.size + (rdOf ByteArray.empty y139 (ji20)).size ≤ 9223372036854775807) = True := by have t_ := c23b0; first | (simp only [ByteArray.size_append, Nat.zero_add, Nat.add_zero] at t_; exact t_) | (have t2_ := of_eq_true t_; simp only [ByteArray.size_append] at t2_; exact eq_true (by first | exact t2_ | (have t3_ := t2_; change 0 + _ ≤ _ at t3_; rwa [Nat.zero_add] at t3_) | (change (0 + _) + _ ≤ _ at t2_; rwa [Nat.zero_add] at t2_)))
              try have c23b9 : (9223372036854775807 < t138.size + (rdOf ByteArray.empty y139 (ji20)).size) = False := by have t_ := c23b2; first | (simp only [ByteArray.size_append] at t_; exact t_) | (have t2_ := c23b8; exact eq_false (Nat.not_lt.2 (of_eq_true t2_)))
              obtain rfl := Option.some.inj H
              go_enter Tryd.func67, Tryd.ntmps67
              try go_wp2_with (first | ((with_reducible refine gate_callee (f := 90) rfl ?_); refine goesL_ (some 5) rfl rfl Tryd.func90 (by kernel_rfl) rfl #[.int .i64 a0] rfl (by (try simp only [List.map_toArray, List.map_cons, List.map_nil]); first | done | rfl | (simp only [List.length_drop, List.length_take]; rfl)) ?_; (with_reducible refine (spec_IsMeasure.calls a0 true _ A2.out).mono ?_); rintro e w' ⟨rfl, ⟨nd, rfl⟩⟩; refine ⟨_, rfl, ?_⟩))
              have pi142 : (0 ≤ ((ji20) : Int)) = True := eq_true (of_decide_eq_true (by first | (with_reducible assumption) | assumption))
              have qi142 : ((ji20) < (y139.length : Int)) = True := eq_true (of_decide_eq_true (by first | (with_reducible assumption) | assumption))
              have n0_ := (show Aside0 (Below w.heap.size w (w.drewN nd).drew) from ⟨by repeat (first | (with_reducible first | exact HB.out | apply below_alloc | apply pw_below_drewN | apply below_drew1) | exact HB.out)⟩)
              clear HB
              have HB := n0_
              clear n0_
              refine start_ (n := 12) (S := fun w' => True) (ds := []) #[false, false, false, false, false, false, false, false, false, false, false, false] (by kernel_rfl) rfl rfl trivial (fun hHeld => ?_); refine with_tabW spec_FormatMeasure.tab7 spec_FormatMeasure.bits7 (fun HT_ HW_ => ?_)
              generalize (w.drewN nd).drew = w24 at HB hHeld ⊢
              refine pure_ (i := 0) (N := some 12) (v := ?_) (a' := ?_) #[true, false, false, false, false, false, false, false, false, false, false, false] rfl rfl (any_of HT_.out (by kernel_rfl)) (fun _ _ _ h => h) (Or.inl ⟨by rfl, ?_⟩) ?_ ?_
              rotate_left
              · intro w'
                go_simp
                first | (with_reducible rfl) | rfl
              rotate_left
              · simp only [Act.put, List.setIfInBounds_toArray, List.set_cons_zero, List.set_cons_succ, i64_w, i32_w]
                rfl
              refine pure_ (i := 1) (N := some 13) (v := ?_) (a' := ?_) #[true, true, false, false, false, false, false, false, false, false, false, false] rfl rfl (any_of HT_.out (by kernel_rfl)) (fun _ _ _ h => h) (Or.inl ⟨by rfl, ?_⟩) ?_ ?_
              rotate_left
              · intro w'
                go_simp
                first | (with_reducible rfl) | rfl
              rotate_left
              · simp only [Act.put, List.setIfInBounds_toArray, List.set_cons_zero, List.set_cons_succ, i64_w, i32_w]
                rfl
              refine pure_ (i := 6) (N := some 18) (v := ?_) (a' := ?_) #[true, true, false, false, false, false, true, false, false, false, false, false] rfl rfl (any_of HT_.out (by kernel_rfl)) (fun _ _ _ h => h) (Or.inl ⟨by rfl, ?_⟩) ?_ ?_
              rotate_left
              · intro w'
                go_simp
                first | (with_reducible rfl) | rfl
              rotate_left
              · simp only [Act.put, List.setIfInBounds_toArray, List.set_cons_zero, List.set_cons_succ, i64_w, i32_w]
                rfl
              refine inv_at [2, 3, 4, 5, 7, 8, 9, 10, 11] (fun a0_ b a w' => ∃ (v140 : Value) (adz_v140 : Addr) (m8_ : Value), a = putSel a0_ b [(2, 14, .int .i64 (wrap64 (Int.tdiv a0 8))), (3, 15, .string t138), (4, 16, .string ((⟨#[]⟩ : ByteArray) ++ t138)), (5, 17, v140), (7, 19, .int .i64 ji20), (8, 20, m8_), (9, 21, .string (rdOf ByteArray.empty y139 (ji20))), (10, 22, .string (((⟨#[]⟩ : ByteArray) ++ t138) ++ (rdOf ByteArray.empty y139 (ji20)))), (11, 2, .string (((⟨#[]⟩ : ByteArray) ++ t138) ++ (rdOf ByteArray.empty y139 (ji20))))] ∧ (Below w.heap.size w w') ∧ (b 5 = true → Kd.R Kd.string 9 w' w.heap.size (fun _ => True) v140 y139) ∧ (b 5 = true → ∃ c_, (v140 : Value) = .slice (some adz_v140) y139.length c_) ∧ (b 8 = true → (m8_ : Value) = .pointer (some (adz_v140.add ((ji20)).toNat)))) HT_.out HW_.out (by kernel_rfl) (by kernel_rfl) ?_ ?_ ?_
              · exact ⟨.bool false, ⟨0, 0, none⟩, .bool false, by simp only [putSel, Bool.false_eq_true, if_false], HB.out, fun h_ => absurd h_ (by decide), fun h_ => absurd h_ (by decide), fun h_ => absurd h_ (by decide)⟩
              · skip
                clear HB
                refine steps_cons ?_ ?_
                · rintro b a w' ⟨v140, adz_v140, m8_, ha, Q_HB, Q_HO141, Q_HA_HO141, Q_X8_⟩ hb_ hon hoff
                  refine ⟨_, rfl, fun K hK => ?_⟩
                  have e13 : a.tmps[13]? = some (.int .i64 a0) := by rw [ha]; exact (putSel_off rfl).trans rfl
                  replace ha := Aside0.mk ha
                  have HB := Aside0.mk Q_HB
                  refine value_ (w1 := w') (v := .int .i64 (wrap64 (Int.tdiv a0 8))) (by rfl) rfl ?_ ?_
                  · go_simp
                    (try simp only [i64_w])
                    try rfl
                  refine hK.out _ _ ⟨v140, adz_v140, m8_, (by rw [ha.out]; exact putSel_upk 0 hb_ rfl rfl rfl), Q_HB, Q_HO141, Q_HA_HO141, Q_X8_⟩
                refine steps_cons ?_ ?_
                · rintro b a w' ⟨v140, adz_v140, m8_, ha, Q_HB, Q_HO141, Q_HA_HO141, Q_X8_⟩ hb_ hon hoff
                  refine ⟨_, rfl, fun K hK => ?_⟩
                  have e14 : a.tmps[14]? = some (.int .i64 (wrap64 (Int.tdiv a0 8))) := by rw [ha]; exact putSel_on (e := (2, 14, .int .i64 (wrap64 (Int.tdiv a0 8)))) 0 rfl rfl (hon 2 (by kernel_rfl)) rfl
                  replace ha := Aside0.mk ha
                  have HB := Aside0.mk Q_HB
                  refine goes_ Tryd.func66 (by kernel_rfl) rfl #[.int .i64 (wrap64 (Int.tdiv a0 8))] (by rfl) rfl rfl (by first | (simp only [List.map_toArray, List.map_cons, List.map_nil, Act.eval, Array.getD_eq_getD_getElem?, Option.getD_some, e14]; done) | (simp only [List.map_toArray, List.map_cons, List.map_nil, Act.eval, Array.getD_eq_getD_getElem?, Option.getD_some, e14]; rfl)) ?_
                  with_reducible refine (spec_FormatNumber.calls k (wrap64 (Int.tdiv a0 8)) t138 _ A18.out).mono ?_
                  rintro e w25 ⟨rfl, hb⟩
                  refine ⟨_, rfl, ?_⟩
                  have n0_ := Aside0.mk (below_step (by repeat (first | (with_reducible first | exact HB.out | apply below_alloc | apply pw_below_drewN | apply below_drew1) | exact HB.out)) hb)
                  have z_HO141 := fun (h0_ : b 5 = true) => (show Kd.R Kd.string 9 w25 w.heap.size (fun _ => True) v140 y139 from by first | exact (Kd.R_below (by (with_reducible repeat (first | apply Kd.R_alloc | apply Kd.R_drewN | apply Kd.R_drew)); exact (Q_HO141 h0_)) hb) | exact Kd.R_mono (Kd.R_below (by (with_reducible repeat (first | apply Kd.R_alloc | apply Kd.R_drewN | apply Kd.R_drew)); exact (Q_HO141 h0_)) hb) (fun _ h_ => by first | trivial | exact h_ | exact h_.1))
                  clear HB
                  have HB := n0_
                  clear n0_
                  (try clear hb)
                  (try clear hb2)
                  (try clear hk)
                  (try clear hi)
                  refine hK.out _ _ ⟨v140, adz_v140, m8_, (by rw [ha.out]; exact putSel_upk 1 hb_ rfl rfl rfl), (by repeat (first | (with_reducible first | exact HB.out | apply below_alloc | apply pw_below_drewN | apply below_drew1) | exact HB.out)), z_HO141, Q_HA_HO141, Q_X8_⟩
                refine steps_cons ?_ ?_
                · rintro b a w' ⟨v140, adz_v140, m8_, ha, Q_HB, Q_HO141, Q_HA_HO141, Q_X8_⟩ hb_ hon hoff
                  refine ⟨_, rfl, fun K hK => ?_⟩
                  have e12 : a.tmps[12]? = some (.string (⟨#[]⟩ : ByteArray)) := by rw [ha]; exact (putSel_off rfl).trans rfl
                  have e15 : a.tmps[15]? = some (.string t138) := by rw [ha]; exact putSel_on (e := (3, 15, .string t138)) 1 rfl rfl (hon 3 (by kernel_rfl)) rfl
                  replace ha := Aside0.mk ha
                  have HB := Aside0.mk Q_HB
                  refine value_ (w1 := w') (v := .string ((⟨#[]⟩ : ByteArray) ++ t138)) (by rfl) rfl ?_ ?_
                  · go_simp
                    (try simp only [i64_w])
                    try rfl
                  refine hK.out _ _ ⟨v140, adz_v140, m8_, (by rw [ha.out]; exact putSel_upk 2 hb_ rfl rfl rfl), Q_HB, Q_HO141, Q_HA_HO141, Q_X8_⟩
                refine steps_cons ?_ ?_
                · rintro b a w' ⟨v140, adz_v140, m8_, ha, Q_HB, Q_HO141, Q_HA_HO141, Q_X8_⟩ hb_ hon hoff
                  refine ⟨_, rfl, fun K hK => ?_⟩
                  replace ha := Aside0.mk ha
                  have HB := Aside0.mk Q_HB
                  refine Kd.R_lit_step Kd.string _ 9 ?hg (N := 17) ?hd (xs := ([(⟨#[]⟩ : ByteArray), (⟨#[46, 49, 50, 53]⟩ : ByteArray), (⟨#[46, 50, 53]⟩ : ByteArray), (⟨#[46, 51, 55, 53]⟩ : ByteArray), (⟨#[46, 53]⟩ : ByteArray), (⟨#[46, 54, 50, 53]⟩ : ByteArray), (⟨#[46, 55, 53]⟩ : ByteArray), (⟨#[46, 56, 55, 53]⟩ : ByteArray)] : List ByteArray)) (inner := [.string (⟨#[]⟩ : ByteArray), .string (⟨#[46, 49, 50, 53]⟩ : ByteArray), .string (⟨#[46, 50, 53]⟩ : ByteArray), .string (⟨#[46, 51, 55, 53]⟩ : ByteArray), .string (⟨#[46, 53]⟩ : ByteArray), .string (⟨#[46, 54, 50, 53]⟩ : ByteArray), .string (⟨#[46, 55, 53]⟩ : ByteArray), .string (⟨#[46, 56, 55, 53]⟩ : ByteArray)]) (ok := fun _ => True) (okp := fun _ => True) ?hr ?hp (fun _ hk => hk) trivial (Below.refl _ _) (Nat.le_refl _) (by simp) ?_; (case hd => rfl); (case hg => rfl); (case hr => first | (go_simp; done) | (go_simp; rfl)); (case hp => exact (Reps.one (show Kd.M Kd.string _ _ _ (⟨#[]⟩ : ByteArray) [.string (⟨#[]⟩ : ByteArray)] from rfl) (Reps.one (show Kd.M Kd.string _ _ _ (⟨#[46, 49, 50, 53]⟩ : ByteArray) [.string (⟨#[46, 49, 50, 53]⟩ : ByteArray)] from rfl) (Reps.one (show Kd.M Kd.string _ _ _ (⟨#[46, 50, 53]⟩ : ByteArray) [.string (⟨#[46, 50, 53]⟩ : ByteArray)] from rfl) (Reps.one (show Kd.M Kd.string _ _ _ (⟨#[46, 51, 55, 53]⟩ : ByteArray) [.string (⟨#[46, 51, 55, 53]⟩ : ByteArray)] from rfl) (Reps.one (show Kd.M Kd.string _ _ _ (⟨#[46, 53]⟩ : ByteArray) [.string (⟨#[46, 53]⟩ : ByteArray)] from rfl) (Reps.one (show Kd.M Kd.string _ _ _ (⟨#[46, 54, 50, 53]⟩ : ByteArray) [.string (⟨#[46, 54, 50, 53]⟩ : ByteArray)] from rfl) (Reps.one (show Kd.M Kd.string _ _ _ (⟨#[46, 55, 53]⟩ : ByteArray) [.string (⟨#[46, 55, 53]⟩ : ByteArray)] from rfl) (Reps.one (show Kd.M Kd.string _ _ _ (⟨#[46, 56, 55, 53]⟩ : ByteArray) [.string (⟨#[46, 56, 55, 53]⟩ : ByteArray)] from rfl) (Reps.none _ _))))))))))
                  intro v140 w25 ho26 hb hg_ hnew_
                  clear hg_ hnew_
                  (first | rw [← Ny139.out] at ho26 | (simp only [Int.reduceToNat] at ho26; rw [← Ny139.out] at ho26))
                  have n0_ := Aside0.mk (Kd.R_lower ho26 (below_size (by repeat (first | (with_reducible first | exact HB.out | apply below_alloc | apply pw_below_drewN | apply below_drew1) | exact HB.out))))
                  have n1_ := Aside0.mk (below_step (by repeat (first | (with_reducible first | exact HB.out | apply below_alloc | apply pw_below_drewN | apply below_drew1) | exact HB.out)) hb)
                  clear HB
                  have HO141 := n0_
                  have HB := n1_
                  clear n0_ n1_
                  clear hb ho26
                  obtain ⟨Ao27, co27, eo27⟩ := Kd.R_slice HO141.out
                  subst eo27
                  obtain ⟨ado27, fo27, _⟩ := Kd.at_string (Kd.R_reads' HO141.out).2.2 0 (by decide) (by rw [Ny139.out]; simp)
                  cases fo27
                  refine hK.out _ _ ⟨.slice (some ado27) y139.length co27, ado27, m8_, (by rw [ha.out]; exact putSel_upk 3 hb_ rfl rfl rfl), (by repeat (first | (with_reducible first | exact HB.out | apply below_alloc | apply pw_below_drewN | apply below_drew1) | exact HB.out)), fun _ => (by (with_reducible repeat (first | apply Kd.R_alloc | apply Kd.R_drewN | apply Kd.R_drew)); exact HO141.out), fun _ => ⟨_, rfl⟩, fun h0_ => absurd ((hoff 8 (by kernel_rfl)).symm.trans h0_) (by decide)⟩
                refine steps_cons ?_ ?_
                · rintro b a w' ⟨v140, adz_v140, m8_, ha, Q_HB, Q_HO141, Q_HA_HO141, Q_X8_⟩ hb_ hon hoff
                  refine ⟨_, rfl, fun K hK => ?_⟩
                  have e18 : a.tmps[18]? = some (.int .i64 a0) := by rw [ha]; exact (putSel_off rfl).trans rfl
                  replace ha := Aside0.mk ha
                  have HB := Aside0.mk Q_HB
                  refine value_ (w1 := w') (v := .int .i64 ji20) (by rfl) rfl ?_ ?_
                  · go_simp
                    (try simp only [i64_w])
                    try rfl
                  refine hK.out _ _ ⟨v140, adz_v140, m8_, (by rw [ha.out]; exact putSel_upk 4 hb_ rfl rfl rfl), Q_HB, Q_HO141, Q_HA_HO141, fun h0_ => absurd ((hoff 8 (by kernel_rfl)).symm.trans h0_) (by decide)⟩
                refine steps_cons ?_ ?_
                · rintro b a w' ⟨v140, adz_v140, m8_, ha, Q_HB, Q_HO141, Q_HA_HO141, Q_X8_⟩ hb_ hon hoff
                  refine ⟨_, rfl, fun K hK => ?_⟩
                  have e17 : a.tmps[17]? = some (v140) := by rw [ha]; exact putSel_on (e := (5, 17, v140)) 3 rfl rfl (hon 5 (by kernel_rfl)) rfl
                  have e19 : a.tmps[19]? = some (.int .i64 ji20) := by rw [ha]; exact putSel_on (e := (7, 19, .int .i64 ji20)) 4 rfl rfl (hon 7 (by kernel_rfl)) rfl
                  replace ha := Aside0.mk ha
                  have HB := Aside0.mk Q_HB
                  have HO141 := Aside0.mk (Q_HO141 (hon 5 (by kernel_rfl)))
                  have HA_HO141 := Aside0.mk (Q_HA_HO141 (hon 5 (by kernel_rfl)))
                  obtain ⟨c_, hv_⟩ := HA_HO141.out
                  rw [hv_] at e17
                  refine value_ (w1 := w') (v := .pointer (some (adz_v140.add ((ji20)).toNat))) (by rfl) rfl ?_ ?_
                  · go_simp
                    (try simp only [i64_w])
                    try rfl
                  refine hK.out _ _ ⟨v140, adz_v140, (.pointer (some (adz_v140.add ((ji20)).toNat))), (by rw [ha.out]; exact putSel_upk 5 hb_ rfl rfl rfl), Q_HB, Q_HO141, Q_HA_HO141, fun _ => rfl⟩
                refine steps_cons ?_ ?_
                · rintro b a w' ⟨v140, adz_v140, m8_, ha, Q_HB, Q_HO141, Q_HA_HO141, Q_X8_⟩ hb_ hon hoff
                  refine ⟨_, rfl, fun K hK => ?_⟩
                  have e20 : a.tmps[20]? = some (m8_) := by rw [ha]; exact putSel_on (e := (8, 20, m8_)) 5 rfl rfl (hon 8 (by kernel_rfl)) rfl
                  rw [Q_X8_ (hon 8 (by kernel_rfl))] at e20
                  replace ha := Aside0.mk ha
                  have HB := Aside0.mk Q_HB
                  have HO141 := Aside0.mk (Q_HO141 (hon 5 (by kernel_rfl)))
                  have HA_HO141 := Aside0.mk (Q_HA_HO141 (hon 5 (by kernel_rfl)))
                  obtain ⟨c_, hv_⟩ := HA_HO141.out
                  have hF_ := HO141.out
                  rw [hv_] at hF_
                  obtain ⟨ad_, ea_, hx_⟩ := Kd.at_string (Kd.R_reads' hF_).2.2 (ji20) (of_eq_true pi142) (of_eq_true qi142)
                  cases ea_
                  refine value_ (w1 := w') (v := .string (rdOf ByteArray.empty y139 (ji20))) (by rfl) rfl ?_ ?_
                  · go_simp
                    (try simp only [i64_w])
                    try rfl
                  refine hK.out _ _ ⟨v140, adz_v140, m8_, (by rw [ha.out]; exact putSel_upk 6 hb_ rfl rfl rfl), Q_HB, Q_HO141, Q_HA_HO141, Q_X8_⟩
                refine steps_cons ?_ ?_
                · rintro b a w' ⟨v140, adz_v140, m8_, ha, Q_HB, Q_HO141, Q_HA_HO141, Q_X8_⟩ hb_ hon hoff
                  refine ⟨_, rfl, fun K hK => ?_⟩
                  have e16 : a.tmps[16]? = some (.string ((⟨#[]⟩ : ByteArray) ++ t138)) := by rw [ha]; exact putSel_on (e := (4, 16, .string ((⟨#[]⟩ : ByteArray) ++ t138))) 2 rfl rfl (hon 4 (by kernel_rfl)) rfl
                  have e21 : a.tmps[21]? = some (.string (rdOf ByteArray.empty y139 (ji20))) := by rw [ha]; exact putSel_on (e := (9, 21, .string (rdOf ByteArray.empty y139 (ji20)))) 6 rfl rfl (hon 9 (by kernel_rfl)) rfl
                  replace ha := Aside0.mk ha
                  have HB := Aside0.mk Q_HB
                  have HO141 := Aside0.mk (Q_HO141 (hon 5 (by kernel_rfl)))
                  have HA_HO141 := Aside0.mk (Q_HA_HO141 (hon 5 (by kernel_rfl)))
                  refine value_ (w1 := w') (v := .string (((⟨#[]⟩ : ByteArray) ++ t138) ++ (rdOf ByteArray.empty y139 (ji20)))) (by rfl) rfl ?_ ?_
                  · go_simp
                    (try simp only [i64_w])
                    try rfl
                  refine hK.out _ _ ⟨v140, adz_v140, m8_, (by rw [ha.out]; exact putSel_upk 7 hb_ rfl rfl rfl), Q_HB, Q_HO141, Q_HA_HO141, Q_X8_⟩
                refine steps_cons ?_ ?_
                · rintro b a w' ⟨v140, adz_v140, m8_, ha, Q_HB, Q_HO141, Q_HA_HO141, Q_X8_⟩ hb_ hon hoff
                  refine ⟨_, rfl, fun K hK => ?_⟩
                  have e22 : a.tmps[22]? = some (.string (((⟨#[]⟩ : ByteArray) ++ t138) ++ (rdOf ByteArray.empty y139 (ji20)))) := by rw [ha]; exact putSel_on (e := (10, 22, .string (((⟨#[]⟩ : ByteArray) ++ t138) ++ (rdOf ByteArray.empty y139 (ji20))))) 7 rfl rfl (hon 10 (by kernel_rfl)) rfl
                  replace ha := Aside0.mk ha
                  have HB := Aside0.mk Q_HB
                  have HO141 := Aside0.mk (Q_HO141 (hon 5 (by kernel_rfl)))
                  have HA_HO141 := Aside0.mk (Q_HA_HO141 (hon 5 (by kernel_rfl)))
                  refine value_ (w1 := w') (v := .string (((⟨#[]⟩ : ByteArray) ++ t138) ++ (rdOf ByteArray.empty y139 (ji20)))) (by rfl) rfl ?_ ?_
                  · go_simp
                    (try simp only [i64_w])
                    try rfl
                  refine hK.out _ _ ⟨v140, adz_v140, m8_, (by rw [ha.out]; exact putSel_upk 8 hb_ rfl rfl rfl), Q_HB, Q_HO141, Q_HA_HO141, Q_X8_⟩
                exact steps_nil
              rintro b a w29 hall ⟨v140, adz_v140, m8_, ha, Q_HB, Q_HO141, Q_HA_HO141, Q_X8_⟩
              clear HB
              have hb2_ := hall 2 (by kernel_rfl)
              have hb3_ := hall 3 (by kernel_rfl)
              have hb4_ := hall 4 (by kernel_rfl)
              have hb5_ := hall 5 (by kernel_rfl)
              have hb7_ := hall 7 (by kernel_rfl)
              have hb8_ := hall 8 (by kernel_rfl)
              have hb9_ := hall 9 (by kernel_rfl)
              have hb10_ := hall 10 (by kernel_rfl)
              have hb11_ := hall 11 (by kernel_rfl)
              subst ha
              obtain rfl := Q_X8_ hb8_
              simp only [putSel, hb2_, hb3_, hb4_, hb5_, hb7_, hb8_, hb9_, hb10_, hb11_, if_true, Act.put, List.setIfInBounds_toArray, List.set_cons_zero, List.set_cons_succ]
              have HB := Aside0.mk Q_HB
              clear Q_HB
              have HO141 := Aside0.mk (Q_HO141 hb5_)
              clear Q_HO141
              have HA_HO141 := Aside0.mk (Q_HA_HO141 hb5_)
              clear Q_HA_HO141
              clear hall hb2_ hb3_ hb4_ hb5_ hb7_ hb8_ hb9_ hb10_ hb11_
              obtain ⟨co30, eo30⟩ := HA_HO141.out
              clear HA_HO141
              subst eo30
              try go_wp2
              go_ret
              exact ⟨by first | rfl | (simp [errW_none, errW_some] <;> rfl) | (simp only [← hji20]; first | rfl | (simp [errW_none, errW_some] <;> rfl)) | (simp [*, errW_none, errW_some] <;> rfl), by repeat (first | (with_reducible first | exact HB.out | apply below_alloc | apply pw_below_drewN | apply below_drew1) | exact HB.out)⟩
            · rw [if_neg c23] at H
              exact absurd H (by simp)
          · rw [if_neg c22] at H
            exact absurd H (by simp)
        · rw [if_neg c21] at H
          exact absurd H (by simp)
      · rw [if_neg c19] at H
        exact absurd H (by simp)
  · replace c3 := Bool.eq_false_iff.mpr c3
    subst c3
    have H1 : (some (⟨#[]⟩ : ByteArray)) = some r := by rw [if_neg (show ¬ (false = true) by decide)] at H; exact H
    clear H
    have H := H1
    clear H1
    obtain rfl := Option.some.inj H
    go_enter Tryd.func67, Tryd.ntmps67
    go_wp2_with (first | ((with_reducible refine gate_callee (f := 90) rfl ?_); refine goesL_ (some 5) rfl rfl Tryd.func90 (by kernel_rfl) rfl #[.int .i64 a0] rfl (by (try simp only [List.map_toArray, List.map_cons, List.map_nil]); first | done | rfl | (simp only [List.length_drop, List.length_take]; rfl)) ?_; (with_reducible refine (spec_IsMeasure.calls a0 false _ A2.out).mono ?_); rintro e w' ⟨rfl, ⟨nd, rfl⟩⟩; refine ⟨_, rfl, ?_⟩))
    go_ret
    exact ⟨by first | rfl | (simp [errW_none, errW_some] <;> rfl) | (simp [*, errW_none, errW_some] <;> rfl), by repeat (first | (with_reducible first | exact HB.out | apply below_alloc | apply pw_below_drewN | apply below_drew1) | exact HB.out)⟩

end Go.Proofs.YthofcclbkihemaaDoor.MFnExactFormatCue
